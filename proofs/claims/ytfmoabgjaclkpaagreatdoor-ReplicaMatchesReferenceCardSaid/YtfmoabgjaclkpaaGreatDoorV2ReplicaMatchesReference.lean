/- Part 2 of what the proof of ReplicaMatchesReference stands on. -/
import Derived.Test.YtfmoabgjaclkpaaGreatDoorV1ReplicaMatchesReference
import Derived.Shelf.SlGeneric
import Derived.Shelf.SlSortCmp.WholeK
import Derived.Shelf.Sort.Plain
import Derived.Shelf.Lays8
import Derived.Ground.SlsfProg
import Derived.Ground.SlgnProg
import Derived.Ground.Names2Prog
import Derived.Ground.Names8Prog
import Derived.Test.YtfmoabgjaclkpaaGreatDoorProg
import Derived.Shelf.SlSortCmp.NoneTotal
import Derived.Shelf.Spec.SlicesGrow
import Derived.Shelf.SlicesE.Clone
namespace Go.Proofs.YtfmoabgjaclkpaaGreatDoor
set_option maxRecDepth 1000000
set_option maxHeartbeats 4000000
set_option synthInstance.maxHeartbeats 0
set_option synthInstance.maxSize 9999
open Go.RowKit
theorem isNaN_g (x : Int) (w : World) : Calls Tryz.prog 104 #[iv x] w fun e w' => e = .returned (.bool false) ∧ Gro w w' := by
 have hG : Gro w w := Gro.refl w;refine calls_cw 6 [(0, iv x)] Tryz.func104 rfl Tryz.ntmps104 (by kernel_rfl) (by kernel_rfl) (fun L => ?_);have hE := Ext.refl w;refine zc (zp (pT (.bool false) ?_));refine zn (zc (zp (pD (iv x) (iv x) ?_)));refine pU (.bool false) (ev_bool (show _ = Result.ok (Next.value (Value.bool ((x : Int) != x))) _ from by kernel_rfl) (bne_self_eq_false _)) ?_;refine pT (.bool false) ?_;refine zn (cw_ret (qw_ret [.bool false] rfl ⟨(by kernel_rfl), trivial⟩ ?_));exact ⟨rfl, hG⟩
theorem Compare_g (a b : Int) (w : World) : Calls Tryz.prog 83 #[iv a, iv b] w fun e w' => e = .returned (iv (Rep.cmpI a b)) ∧ Gro w w' := by
 have hG : Gro w w := Gro.refl w;refine calls_cw 20 [(1, iv b), (0, iv a)] Tryz.func83 rfl Tryz.ntmps83 (by kernel_rfl) (by kernel_rfl) (fun L => ?_);have hE := Ext.refl w;refine zc (zp (pT (iv 0) ?_));refine zn (zc (zp (pT (iv a) ?_)));refine pS (sc 104 #[iv a] ((isNaN_g a _).mono ?_));rintro e w1 ⟨rfl, hb⟩;have hgx := hb;replace hb := hgx.ext;replace hG := hG.trans hgx;clear hgx;replace hE := hE.trans hb;have B3 := hb.size;refine ⟨_, rfl, pT (.bool false) ?_⟩;refine zn (zc (zp (pT (iv b) ?_)));refine pS (sc 104 #[iv b] ((isNaN_g b _).mono ?_));rintro e w3 ⟨rfl, hb⟩;have hgx := hb;replace hb := hgx.ext;replace hG := hG.trans hgx;clear hgx;replace hE := hE.trans hb;have B4 := hb.size;refine ⟨_, rfl, pT (.bool false) ?_⟩;refine zn (zc (zc (zp (pT (.bool false) ?_))));refine zn (zf ?_);refine cw_skip (zq (zc (zc (zp (pT (.bool false) ?_)))));refine zn (zf ?_);refine cw_skip (zq (zc (zc (zp (pD (iv a) (iv b) ?_)))))
 by_cases B0 : (a : Int) < (b : Int)
 ·
  refine pU (.bool true) (ed ((a : Int) < (b : Int)) (B0)) ?_;refine zn (zt ?_);refine zc (zp (pT (iv (-1 : Int)) ?_));refine zn (cw_ret (qw_then_ret (qw_ret [iv (-1 : Int)] rfl ⟨(by kernel_rfl), trivial⟩ ?_)));exact ⟨congrArg (fun z => Ending.returned (Value.int .i64 z)) (show (-1 : Int) = Rep.cmpI a b by unfold Rep.cmpI; simp [B0]), hG⟩
 ·
  refine pU (.bool false) (en ((a : Int) < (b : Int)) (B0)) ?_;refine zn (zf ?_);refine cw_skip (zq (zc (zc (zp (pD (iv a) (iv b) ?_)))))
  by_cases B2 : (a : Int) > (b : Int)
  ·
   refine pU (.bool true) (ed ((a : Int) > (b : Int)) (B2)) ?_;refine zn (cK [19] (fun L => ?_));refine zt ?_;refine zc (zp (pT (iv 1) ?_));refine zn (cw_ret (qw_then_ret (qw_ret [iv 1] rfl ⟨(by kernel_rfl), trivial⟩ ?_)));exact ⟨congrArg (fun z => Ending.returned (Value.int .i64 z)) (show (1 : Int) = Rep.cmpI a b by unfold Rep.cmpI; simp [B0, B2]), hG⟩
  ·
   refine pU (.bool false) (en ((a : Int) > (b : Int)) (B2)) ?_;refine zn (cK [19] (fun L => ?_));refine zf ?_;refine cw_skip (zq (zc (zp (pT (iv 0) ?_))));refine zn (cw_ret (qw_ret [iv 0] rfl ⟨(by kernel_rfl), trivial⟩ ?_));exact ⟨congrArg (fun z => Ending.returned (Value.int .i64 z)) (show (0 : Int) = Rep.cmpI a b by unfold Rep.cmpI; simp [B0, B2]), hG⟩
theorem Or_g {b o c : Nat} {x y : Int} (w : World) (h0 : w.cell? ⟨b, o, none⟩ = some (.int .i64 x)) (h1 : w.cell? ⟨b, o + 1, none⟩ = some (.int .i64 y)) :
    Calls Tryz.prog 82 #[.slice (some ⟨b, o, none⟩) 2 c] w fun e w' => e = .returned (.int .i64 (Rep.or2 x y)) ∧ Gro w w' := by
  by_cases hx : x = 0
  · by_cases hy : y = 0
    · go_enter Tryz.func82, Tryz.ntmps82
      go_wp2_with fail
      refine wp_loop_rounds 3 ?_
      iterate 3 (rw [rounds_succ]; go_wp2_with fail)
      go_ret
      exact ⟨by simp [Rep.or2, hx, hy], Gro.refl _⟩
    · go_enter Tryz.func82, Tryz.ntmps82
      go_wp2_with fail
      refine wp_loop_rounds 3 ?_
      iterate 2 (rw [rounds_succ]; go_wp2_with fail)
      go_ret
      exact ⟨by simp [Rep.or2, hx], Gro.refl _⟩
  · go_enter Tryz.func82, Tryz.ntmps82
    go_wp2_with fail
    refine wp_loop_rounds 3 ?_
    rw [rounds_succ]; go_wp2_with fail
    go_ret
    exact ⟨by simp [Rep.or2, hx], Gro.refl _⟩
theorem listed_g (a b : Rec) (w : World) : Calls Tryz.prog 51 #[rvv a, rvv b] w fun e w' => e = .returned (iv (Rep.listC a b)) ∧ Gro w w' := by
 have hG : Gro w w := Gro.refl w;refine calls_cw 17 [(1, rvv b), (0, rvv a)] Tryz.func51 rfl Tryz.ntmps51 (by kernel_rfl) (by kernel_rfl) (fun L => ?_);have hE := Ext.refl w;refine zc (zp (pS (sn_newG (us := #[iv a.c, iv a.n, iv a.t, iv a.o, iv a.w, iv a.k, .string a.x]) (t := 49) (by kernel_rfl) ?_)));intro O1 X2 hO hOs hb hbx hgx;replace hG := hG.trans hgx;clear hgx;have Bw := hO;have Bu := hOs;clear hO hOs;have ⟨B0, B2, B7, B8, Ba, Bb, Bc⟩ := bq7 hbx;replace hE := hE.trans hb;have C0 := hb.size;have C2 := B0.lt;refine pS (sn_newG (us := #[iv b.c, iv b.n, iv b.t, iv b.o, iv b.w, iv b.k, .string b.x]) (t := 49) (by kernel_rfl) ?_);intro O5 X6 hO hOs hb hbx hgx;replace hG := hG.trans hgx;clear hgx;have Bx := hO;have Bv := hOs;clear hO hOs;have ⟨B3, B4, Be, Bf, Bg, Bh, Bi⟩ := bq7 hbx;refine mv3 hb hE B0 B2 fun hE B0 B2=>?_;have C1 := hb.size;have C3 := B3.lt;refine pT (iv 0) ?_;refine zn (zc (cw_drawG [(some 5, [2], []), (some 6, [5], [0]), (some 7, [3], []), (some 8, [7], [2]), (some 9, [6, 8], [1, 3]), (some 10, [2], []), (some 11, [10], [5]), (some 12, [3], []), (some 13, [12], [7]), (some 14, [11, 13], [6, 8, 4]), (some 15, [9, 14], [4, 9]), (some 16, [15], [10, 9]), (some 4, [16], [11, 11, 0, 1, 2, 3, 4, 5, 6, 7, 8, 9, 10, 11])] (fun w' => w'.cell? ⟨O1, 0, none⟩ = some (iv a.c) ∧ w'.cell? ⟨O5, 0, none⟩ = some (iv b.c) ∧ w'.cell? ⟨O1, 1, none⟩ = some (iv a.n) ∧ w'.cell? ⟨O5, 1, none⟩ = some (iv b.n)) (by kernel_rfl) (by kernel_rfl) (by kernel_rfl) (by kernel_rfl) ((calm_then calm_body)) (⟨B0.1, B3.1, B2.1, B4.1⟩) (fun ops Q X9 hgx hb hL hR hK => ?_)));replace hG := hG.trans hgx;clear hgx;refine mv5 hb hE B0 B2 B3 B4 fun hE B0 B2 B3 B4=>?_;have Bp := hb.size;have hS := A4 B0.1 B3.1 B2.1 B4.1;refine wV 0 (pw O1 0) hR hS ?_;refine wM 1 (iv a.c) hR (fun w hS => ld3 (hS.1)) hS ?_;refine wV 2 (pw O5 0) hR hS ?_;refine wM 3 (iv b.c) hR (fun w hS => ld3 (hS.2.1)) hS ?_;refine wV 5 (pw O1 1) hR hS ?_;refine wM 6 (iv a.n) hR (fun w hS => ld3 (hS.2.2.1)) hS ?_;refine wV 7 (pw O5 1) hR hS ?_;refine wM 8 (iv b.n) hR (fun w hS => ld3 (hS.2.2.2)) hS ?_;refine wC 4 83 #[iv a.c, iv b.c] hR ((Compare_g a.c b.c _).mono ?_);rintro e C4 ⟨rfl, hb⟩;have hgx := hb;replace hb := hgx.ext;replace hG := hG.trans hgx;clear hgx;refine mv5 hb hE B0 B2 B3 B4 fun hE B0 B2 B3 B4=>?_;have Bq := hb.size;refine ⟨_, rfl, ⟨B0.1, B3.1, B2.1, B4.1⟩, ?_⟩;refine wC 9 83 #[iv a.n, iv b.n] hR ((Compare_g a.n b.n _).mono ?_);rintro e C5 ⟨rfl, hb⟩;have hgx := hb;replace hb := hgx.ext;replace hG := hG.trans hgx;clear hgx;refine mv5 hb hE B0 B2 B3 B4 fun hE B0 B2 B3 B4=>?_;have Br := hb.size;refine ⟨_, rfl, ⟨B0.1, B3.1, B2.1, B4.1⟩, ?_⟩;refine wS 10 hR (sn_newSG (us := #[iv (Rep.cmpI a.c b.c : Int), iv (Rep.cmpI a.n b.n : Int)]) (t := 3) (k := 2) (c := 2) (by kernel_rfl) ?_);intro Bo Bz hO hOs hb hbx hgx;replace hG := hG.trans hgx;clear hgx;have Bn := hO;have Bm := hOs;clear hO hOs;have ⟨Bj, Bk⟩ := bq2 hbx;refine mv5 hb hE B0 B2 B3 B4 fun hE B0 B2 B3 B4=>?_;have Bs := hb.size;have By := Bj.lt;refine ⟨⟨B0.1, B3.1, B2.1, B4.1⟩, ?_⟩;refine wC 11 82 #[sv Bo 0 2 2] hR ((Or_g _ (Bj.1) (Bk.1)).mono ?_);rintro e C6 ⟨rfl, hb⟩;have hgx := hb;replace hb := hgx.ext;replace hG := hG.trans hgx;clear hgx;refine mv5 hb hE B0 B2 B3 B4 fun hE B0 B2 B3 B4=>?_;have Bt := hb.size;have hS := A4 B0.1 B3.1 B2.1 B4.1;refine ⟨_, rfl, hS, ?_⟩;refine wV 12 (iv (Rep.or2 (Rep.cmpI a.c b.c) (Rep.cmpI a.n b.n) : Int)) hR hS ?_;refine we hL hR hK ?_;refine zq (cK [4] (fun L => ?_));refine cw_ret (qw_ret [iv (Rep.or2 (Rep.cmpI a.c b.c) (Rep.cmpI a.n b.n) : Int)] rfl ⟨(by kernel_rfl), trivial⟩ ?_);exact ⟨rfl, hG⟩
theorem before_g (a b : Rec) (w : World) : Calls Tryz.prog 46 #[rvv a, rvv b] w fun e w' => e = .returned (iv (Rep.befC a b)) ∧ Gro w w' := by
 have hG : Gro w w := Gro.refl w;refine calls_cw 15 [(1, rvv b), (0, rvv a)] Tryz.func46 rfl Tryz.ntmps46 (by kernel_rfl) (by kernel_rfl) (fun L => ?_);have hE := Ext.refl w;refine zc (zp (pS (sn_newG (us := #[iv a.c, iv a.n, iv a.t, iv a.o, iv a.w, iv a.k, .string a.x]) (t := 49) (by kernel_rfl) ?_)));intro O1 X2 hO hOs hb hbx hgx;replace hG := hG.trans hgx;clear hgx;have Bw := hO;have Bu := hOs;clear hO hOs;have ⟨B0, B2, B3, B4, B7, B8, Ba⟩ := bq7 hbx;replace hE := hE.trans hb;have C0 := hb.size;have C2 := B0.lt;refine pS (sn_newG (us := #[iv b.c, iv b.n, iv b.t, iv b.o, iv b.w, iv b.k, .string b.x]) (t := 49) (by kernel_rfl) ?_);intro O5 X6 hO hOs hb hbx hgx;replace hG := hG.trans hgx;clear hgx;have Bx := hO;have Bv := hOs;clear hO hOs;have ⟨Bb, Bc, Be, Bf, Bg, Bh, Bi⟩ := bq7 hbx;refine mv7 hb hE B0 B2 B3 B4 B7 B8 fun hE B0 B2 B3 B4 B7 B8=>?_;replace Ba := Ba.x hb;have C1 := hb.size;have C3 := Bb.lt;refine pT (iv 0) ?_;refine zn (zc (cw_drawG [(some 5, [2], []), (some 6, [5], [0]), (some 7, [3], []), (some 8, [7], [2]), (some 9, [6, 8], [1, 3]), (some 10, [2], []), (some 11, [3], []), (some 12, [10, 11], [5, 6, 4]), (some 13, [9, 12], [4, 7]), (some 14, [13], [8, 7]), (some 4, [14], [9, 9, 0, 1, 2, 3, 4, 5, 6, 7, 8, 9])] (fun w' => w'.cell? ⟨O1, 2, none⟩ = some (iv a.t) ∧ w'.cell? ⟨O5, 2, none⟩ = some (iv b.t) ∧ w'.cell? ⟨O1, 0, none⟩ = some (iv a.c) ∧ w'.cell? ⟨O1, 1, none⟩ = some (iv a.n) ∧ w'.cell? ⟨O1, 3, none⟩ = some (iv a.o) ∧ w'.cell? ⟨O1, 4, none⟩ = some (iv a.w) ∧ w'.cell? ⟨O1, 5, none⟩ = some (iv a.k) ∧ w'.cell? ⟨O1, 6, none⟩ = some (.string a.x) ∧ w'.cell? ⟨O5, 0, none⟩ = some (iv b.c) ∧ w'.cell? ⟨O5, 1, none⟩ = some (iv b.n) ∧ w'.cell? ⟨O5, 3, none⟩ = some (iv b.o) ∧ w'.cell? ⟨O5, 4, none⟩ = some (iv b.w) ∧ w'.cell? ⟨O5, 5, none⟩ = some (iv b.k) ∧ w'.cell? ⟨O5, 6, none⟩ = some (.string b.x)) (by kernel_rfl) (by kernel_rfl) (by kernel_rfl) (by kernel_rfl) ((calm_then calm_body)) (⟨B3.1, Be.1, B0.1, B2.1, B4.1, B7.1, B8.1, Ba.1, Bb.1, Bc.1, Bf.1, Bg.1, Bh.1, Bi.1⟩) (fun ops Q X9 hgx hb hL hR hK => ?_)));replace hG := hG.trans hgx;clear hgx;refine mv12 hb hE B0 B2 B3 B4 B7 B8 Ba Bb Bc Be Bf fun hE B0 B2 B3 B4 B7 B8 Ba Bb Bc Be Bf=>?_;refine mv3 hb Bg Bh Bi fun Bg Bh Bi=>?_;have Bp := hb.size;have hS := A14 B3.1 Be.1 B0.1 B2.1 B4.1 B7.1 B8.1 Ba.1 Bb.1 Bc.1 Bf.1 Bg.1 Bh.1 Bi.1;refine wV 0 (pw O1 2) hR hS ?_;refine wM 1 (iv a.t) hR (fun w hS => ld3 (hS.1)) hS ?_;refine wV 2 (pw O5 2) hR hS ?_;refine wM 3 (iv b.t) hR (fun w hS => ld3 (hS.2.1)) hS ?_;refine wM 5 (rvv a) hR (fun w hS => ld49 (hS.2.2.1) (hS.2.2.2.1) (hS.1) (hS.2.2.2.2.1) (hS.2.2.2.2.2.1) (hS.2.2.2.2.2.2.1) (hS.2.2.2.2.2.2.2.1)) hS ?_;refine wM 6 (rvv b) hR (fun w hS => ld49 (hS.2.2.2.2.2.2.2.2.1) (hS.2.2.2.2.2.2.2.2.2.1) (hS.2.1) (hS.2.2.2.2.2.2.2.2.2.2.1) (hS.2.2.2.2.2.2.2.2.2.2.2.1) (hS.2.2.2.2.2.2.2.2.2.2.2.2.1) (hS.2.2.2.2.2.2.2.2.2.2.2.2.2)) hS ?_;refine wC 4 83 #[iv a.t, iv b.t] hR ((Compare_g a.t b.t _).mono ?_);rintro e C4 ⟨rfl, hb⟩;have hgx := hb;replace hb := hgx.ext;replace hG := hG.trans hgx;clear hgx;refine mv12 hb hE B0 B2 B3 B4 B7 B8 Ba Bb Bc Be Bf fun hE B0 B2 B3 B4 B7 B8 Ba Bb Bc Be Bf=>?_;refine mv3 hb Bg Bh Bi fun Bg Bh Bi=>?_;have Bq := hb.size;refine ⟨_, rfl, ⟨B3.1, Be.1, B0.1, B2.1, B4.1, B7.1, B8.1, Ba.1, Bb.1, Bc.1, Bf.1, Bg.1, Bh.1, Bi.1⟩, ?_⟩;refine wC 7 51 #[rvv a, rvv b] hR ((listed_g a b _).mono ?_);rintro e C5 ⟨rfl, hb⟩;have hgx := hb;replace hb := hgx.ext;replace hG := hG.trans hgx;clear hgx;refine mv12 hb hE B0 B2 B3 B4 B7 B8 Ba Bb Bc Be Bf fun hE B0 B2 B3 B4 B7 B8 Ba Bb Bc Be Bf=>?_;refine mv3 hb Bg Bh Bi fun Bg Bh Bi=>?_;have Br := hb.size;refine ⟨_, rfl, ⟨B3.1, Be.1, B0.1, B2.1, B4.1, B7.1, B8.1, Ba.1, Bb.1, Bc.1, Bf.1, Bg.1, Bh.1, Bi.1⟩, ?_⟩;refine wS 8 hR (sn_newSG (us := #[iv (Rep.cmpI a.t b.t : Int), iv (Rep.listC a b : Int)]) (t := 3) (k := 2) (c := 2) (by kernel_rfl) ?_);intro Bo Bz hO hOs hb hbx hgx;replace hG := hG.trans hgx;clear hgx;have Bn := hO;have Bm := hOs;clear hO hOs;have ⟨Bj, Bk⟩ := bq2 hbx;refine mv12 hb hE B0 B2 B3 B4 B7 B8 Ba Bb Bc Be Bf fun hE B0 B2 B3 B4 B7 B8 Ba Bb Bc Be Bf=>?_;refine mv3 hb Bg Bh Bi fun Bg Bh Bi=>?_;have Bs := hb.size;have By := Bj.lt;refine ⟨⟨B3.1, Be.1, B0.1, B2.1, B4.1, B7.1, B8.1, Ba.1, Bb.1, Bc.1, Bf.1, Bg.1, Bh.1, Bi.1⟩, ?_⟩;refine wC 9 82 #[sv Bo 0 2 2] hR ((Or_g _ (Bj.1) (Bk.1)).mono ?_);rintro e C6 ⟨rfl, hb⟩;have hgx := hb;replace hb := hgx.ext;replace hG := hG.trans hgx;clear hgx;refine mv12 hb hE B0 B2 B3 B4 B7 B8 Ba Bb Bc Be Bf fun hE B0 B2 B3 B4 B7 B8 Ba Bb Bc Be Bf=>?_;refine mv3 hb Bg Bh Bi fun Bg Bh Bi=>?_;have Bt := hb.size;have hS := A14 B3.1 Be.1 B0.1 B2.1 B4.1 B7.1 B8.1 Ba.1 Bb.1 Bc.1 Bf.1 Bg.1 Bh.1 Bi.1;refine ⟨_, rfl, hS, ?_⟩;refine wV 10 (iv (Rep.or2 (Rep.cmpI a.t b.t) (Rep.listC a b) : Int)) hR hS ?_;refine we hL hR hK ?_;refine zq (cK [4] (fun L => ?_));refine cw_ret (qw_ret [iv (Rep.or2 (Rep.cmpI a.t b.t) (Rep.listC a b) : Int)] rfl ⟨(by kernel_rfl), trivial⟩ ?_)
 exact ⟨rfl, hG⟩
theorem listed_c (a b : Rec) (w : World) : Calls Tryz.prog 51 #[rvv a, rvv b] w fun e w' => e = .returned (.int .i64 (Rep.listC a b)) ∧ Ext w w' := (listed_g a b w).mono fun _ _ h => ⟨h.1, h.2.ext⟩
theorem before_c (a b : Rec) (w : World) : Calls Tryz.prog 46 #[rvv a, rvv b] w fun e w' => e = .returned (.int .i64 (Rep.befC a b)) ∧ Ext w w' := (before_g a b w).mono fun _ _ h => ⟨h.1, h.2.ext⟩
end Go.Proofs.YtfmoabgjaclkpaaGreatDoor

namespace Go.Proofs.YtfmoabgjaclkpaaGreatDoor
set_option maxRecDepth 1000000
set_option maxHeartbeats 4000000
set_option synthInstance.maxHeartbeats 0
set_option synthInstance.maxSize 9999
open Go.RowKit
def Tz15_0 : List Row := [(some 7, [3], []), (some 8, [], []), (some 9, [7, 8], [0, 1]), (some 10, [9], [2]), (some 11, [1, 10], [3]), (some 12, [11, 10], [4, 3]), (some 13, [12, 10], [5, 3, 3]), (some 14, [13, 10], [6, 6, 3]), (some 15, [1, 14], [7]), (some 16, [15, 14], [8, 7]), (some 17, [16, 14], [9, 7, 7]), (some 18, [14, 17, 10], [7, 10, 3]), (some 19, [18, 10], [11, 10, 3]), (some 20, [3, 19], [12]), (some 21, [1, 19], [12]), (some 22, [21, 19], [14, 12, 12]), (some 23, [20, 22, 19], [13, 15, 12]), (some 24, [19, 23, 10], [12, 16, 3]), (some 25, [10, 24], [3, 17]), (some 4, [25], [18, 15, 0, 1, 2, 3, 4, 5, 6, 7, 8, 9, 10, 11, 12, 13, 14, 15, 16, 17, 18])]
structure RootAt (w : World) : Prop where
 c0 : w.cell? ⟨0, 0, none⟩ = some (.int .i64 (-1))
 c1 : w.cell? ⟨0, 1, none⟩ = some (.int .i64 0)
 lt : 0 < w.heap.size
theorem RootAt.ext {w w' : World} (h : RootAt w) (hE : Ext w w') : RootAt w' := ⟨hE.cell h.c0, hE.cell h.c1, Nat.lt_of_lt_of_le h.lt hE.size⟩
namespace Rep
def okR (x : Rec) : Bool := decide (((x.o = -1 ∧ x.w = 0) ∨ (0 ≤ x.o ∧ x.o ≤ 15) ∧ (1 ≤ x.w ∧ x.w ≤ 80) ∧ ¬ (x.o = x.c ∧ x.w = x.n)) ∧ (0 ≤ x.c ∧ x.c ≤ 15) ∧ (1 ≤ x.n ∧ x.n ≤ 80) ∧ (0 ≤ x.t ∧ x.t ≤ 1000000) ∧ (0 ≤ x.k ∧ x.k ≤ 15) ∧ ByteArray.size x.x ≤ 4000)
end Rep
theorem replica_isIn_c (n lo hi : Int) (w : World) : Calls Tryz.prog 84 #[iv n, iv lo, iv hi] w fun e w' => e = .returned (.bool (Globe.inB n lo hi)) ∧ Ext w w' := by
 refine calls_cw 15 [(2, iv hi), (1, iv lo), (0, iv n)] Tryz.func84 rfl Tryz.ntmps84 (by kernel_rfl) (by kernel_rfl) (fun L => ?_);have hE := Ext.refl w;refine zc (zp (pT (.bool false) ?_));refine zn (zc (zp (pD (iv lo) (iv n) ?_)))
 by_cases hc1 : (lo : Int) ≤ (n : Int)
 ·
  refine pU (.bool true) (ed ((lo : Int) ≤ (n : Int)) (hc1)) ?_;refine pD (.bool true) (iv n) ?_;refine pT (iv hi) ?_
  by_cases hc2 : (n : Int) ≤ (hi : Int)
  ·
   refine pU (.bool true) (ed ((n : Int) ≤ (hi : Int)) (hc2)) ?_;refine pD (.bool true) (.bool true) ?_;refine zn (cw_ret (qw_ret [.bool true] rfl ⟨(by kernel_rfl), trivial⟩ ?_));exact ⟨rb (by first | exact (decide_eq_true (by omega)).symm | exact (decide_eq_false (by omega)).symm), hE⟩
  ·
   refine pU (.bool false) (en ((n : Int) ≤ (hi : Int)) (hc2)) ?_;refine pD (.bool false) (.bool false) ?_;refine zn (cw_ret (qw_ret [.bool false] rfl ⟨(by kernel_rfl), trivial⟩ ?_));exact ⟨rb (by first | exact (decide_eq_true (by omega)).symm | exact (decide_eq_false (by omega)).symm), hE⟩
 ·
  refine pU (.bool false) (en ((lo : Int) ≤ (n : Int)) (hc1)) ?_;refine pT (.bool false) ?_;refine pK ?_;refine pK ?_;refine pK ?_;refine pD (.bool false) (.bool false) ?_;refine zn (cw_ret (qw_ret [.bool false] rfl ⟨(by kernel_rfl), trivial⟩ ?_));exact ⟨rb (by first | exact (decide_eq_true (by omega)).symm | exact (decide_eq_false (by omega)).symm), hE⟩
theorem replica_isIn_r (n lo hi : Int) {r : Bool} (w : World) (hr : Globe.inB n lo hi = r) : Calls Tryz.prog 84 #[.int .i64 n, .int .i64 lo, .int .i64 hi] w fun e w' => e = .returned (.bool r) ∧ Ext w w' := hr ▸ replica_isIn_c n lo hi w
theorem isCentre_c (n : Int) (w : World) : Calls Tryz.prog 49 #[iv n] w fun e w' => e = .returned (.bool (Globe.inB n 0 15)) ∧ Ext w w' := by
 refine calls_cw 5 [(0, iv n)] Tryz.func49 rfl Tryz.ntmps49 (by kernel_rfl) (by kernel_rfl) (fun L => ?_);have hE := Ext.refl w;refine zc (zp (pT (.bool false) ?_));refine zn (zc (zp (pT (iv n) ?_)));refine pS (sc 84 #[iv n, iv 0, iv 15] ((replica_isIn_c n 0 15 _).mono ?_));rintro e w1 ⟨rfl, hb⟩;replace hE := hE.trans hb;have hs2 := hb.size;refine ⟨_, rfl, pT (.bool (Globe.inB n 0 15)) ?_⟩;refine zn (cw_ret (qw_ret [.bool (Globe.inB n 0 15)] rfl ⟨(by kernel_rfl), trivial⟩ ?_));exact ⟨rfl, hE⟩
theorem isCentre_r (n : Int) {r : Bool} (w : World) (hr : Globe.inB n 0 15 = r) : Calls Tryz.prog 49 #[.int .i64 n] w fun e w' => e = .returned (.bool r) ∧ Ext w w' := hr ▸ isCentre_c n w
theorem keyOf_c (x : Rec) (w : World) : Calls Tryz.prog 68 #[rvv x] w fun e w' => e = .returned (.agg #[iv x.c, iv x.n]) ∧ Ext w w' := by
 refine calls_cw 8 [(0, rvv x)] Tryz.func68 rfl Tryz.ntmps68 (by kernel_rfl) (by kernel_rfl) (fun L => ?_);have hE := Ext.refl w;refine zc (zp (pS (sw 49 #[iv x.c, iv x.n, iv x.t, iv x.o, iv x.w, iv x.k, .string x.x] ?_)));intro O1 X2 hzO1 hyO1 hb hbx;have ⟨bO1_0, bO1_1, bO1_2, bO1_3, bO1_4, bO1_5, bO1_6⟩ := bq7 hbx;replace hE := hE.trans hb;have hs3 := hb.size;have lt4 := bO1_0.lt;refine pS (sw 70 #[iv 0, iv 0] ?_);intro O5 X6 hzO5 hyO5 hb hbx;have ⟨bO5_0, bO5_1⟩ := bq2 hbx;refine mv7 hb hE bO1_0 bO1_1 bO1_2 bO1_3 bO1_4 bO1_5 fun hE bO1_0 bO1_1 bO1_2 bO1_3 bO1_4 bO1_5=>?_;replace bO1_6 := bO1_6.x hb;have hs7 := hb.size;have lt8 := bO5_0.lt;refine pl_nil (qw_then ?_);refine cw_seq ?_;have hX9 := Ext.refl X6;refine zp (pT (pw O1 0) ?_);refine pU (iv x.c) (xl (ld3 (bO1_0.1))) ?_;refine pT (pw O1 1) ?_;refine pU (iv x.n) (xl (ld3 (bO1_1.1))) ?_;refine pT (.agg #[iv x.c, iv x.n]) ?_;have bO1_t11 := bO1_0;have bO1_t12 := bO1_1;have bO1_t13 := bO1_2;have bO1_t14 := bO1_3;have bO1_t15 := bO1_4;have bO1_t16 := bO1_5;have bO1_t17 := bO1_6;have bO5_t18 := bO5_0;have bO5_t19 := bO5_1;refine pP (sn_set2 (O := O5) (j := 0) (v := iv x.c) (v' := iv x.n) (xt (pw O5 0) (.agg #[iv x.c, iv x.n]) (st70 bO5_t18.1 bO5_t18.2 bO5_t19.1 bO5_t19.2)) bO5_t18 bO5_t19 ?_);intro X10 ho bO5_t18 bO5_t19 hk;replace hE := ho.ext hE (T hs3 (Nat.le_of_eq hzO5));have q9 := ho.bx O1 (by omega);clear q9;have hs20 := Nat.le_of_eq ho.size.symm;clear ho hk;refine zn (cw_ret (qw_ret [.agg #[iv x.c, iv x.n]] rfl ⟨⟨_, by kernel_rfl, res_ld (ld70 (bO5_t18.1) (bO5_t19.1))⟩, trivial⟩ ?_));exact ⟨rfl, hE⟩
theorem target_c (x : Rec) (w : World) : Calls Tryz.prog 85 #[rvv x] w fun e w' => e = .returned (.agg #[iv x.o, iv x.w]) ∧ Ext w w' := by
 refine calls_cw 8 [(0, rvv x)] Tryz.func85 rfl Tryz.ntmps85 (by kernel_rfl) (by kernel_rfl) (fun L => ?_);have hE := Ext.refl w;refine zc (zp (pS (sw 49 #[iv x.c, iv x.n, iv x.t, iv x.o, iv x.w, iv x.k, .string x.x] ?_)));intro O1 X2 hzO1 hyO1 hb hbx;have ⟨bO1_0, bO1_1, bO1_2, bO1_3, bO1_4, bO1_5, bO1_6⟩ := bq7 hbx;replace hE := hE.trans hb;have hs3 := hb.size;have lt4 := bO1_0.lt;refine pS (sw 70 #[iv 0, iv 0] ?_);intro O5 X6 hzO5 hyO5 hb hbx;have ⟨bO5_0, bO5_1⟩ := bq2 hbx;refine mv7 hb hE bO1_0 bO1_1 bO1_2 bO1_3 bO1_4 bO1_5 fun hE bO1_0 bO1_1 bO1_2 bO1_3 bO1_4 bO1_5=>?_;replace bO1_6 := bO1_6.x hb;have hs7 := hb.size;have lt8 := bO5_0.lt;refine pl_nil (qw_then ?_);refine cw_seq ?_;have hX9 := Ext.refl X6;refine zp (pT (pw O1 3) ?_);refine pU (iv x.o) (xl (ld3 (bO1_3.1))) ?_;refine pT (pw O1 4) ?_;refine pU (iv x.w) (xl (ld3 (bO1_4.1))) ?_;refine pT (.agg #[iv x.o, iv x.w]) ?_;have bO1_t11 := bO1_0;have bO1_t12 := bO1_1;have bO1_t13 := bO1_2;have bO1_t14 := bO1_3;have bO1_t15 := bO1_4;have bO1_t16 := bO1_5;have bO1_t17 := bO1_6;have bO5_t18 := bO5_0;have bO5_t19 := bO5_1;refine pP (sn_set2 (O := O5) (j := 0) (v := iv x.o) (v' := iv x.w) (xt (pw O5 0) (.agg #[iv x.o, iv x.w]) (st70 bO5_t18.1 bO5_t18.2 bO5_t19.1 bO5_t19.2)) bO5_t18 bO5_t19 ?_);intro X10 ho bO5_t18 bO5_t19 hk;replace hE := ho.ext hE (T hs3 (Nat.le_of_eq hzO5));have q9 := ho.bx O1 (by omega);clear q9;have hs20 := Nat.le_of_eq ho.size.symm;clear ho hk;refine zn (cw_ret (qw_ret [.agg #[iv x.o, iv x.w]] rfl ⟨⟨_, by kernel_rfl, res_ld (ld70 (bO5_t18.1) (bO5_t19.1))⟩, trivial⟩ ?_));exact ⟨rfl, hE⟩
theorem formed_c (x : Rec) (w : World) (hRl : RootAt w) : Calls Tryz.prog 50 #[rvv x] w fun e w' => e = .returned (.bool (Rep.okR x)) ∧ Ext w w' := by
 refine calls_cw 53 [(0, rvv x)] Tryz.func50 rfl Tryz.ntmps50 (by kernel_rfl) (by kernel_rfl) (fun L => ?_);have hE := Ext.refl w;refine zc (zp (pS (sw 49 #[iv x.c, iv x.n, iv x.t, iv x.o, iv x.w, iv x.k, .string x.x] ?_)));intro O1 X2 Do Dm hb hbx;have ⟨B8, Ba, Bb, B4, B7, Bc, Be⟩ := bq7 hbx;replace hE := hE.trans hb;have D0 := hb.size;have E0 := B8.lt;refine pT (.bool false) ?_;refine pl_nil (qw_then ?_);refine cw_seq ?_;have B3 := Ext.refl X2;refine zp (pU (rvv x) (xl (ld49 (B8.1) (Ba.1) (Bb.1) (B4.1) (B7.1) (Bc.1) (Be.1))) ?_);refine pS (sc 85 #[rvv x] ((target_c x _).mono ?_));rintro e w6 ⟨rfl, hb⟩;refine mv2 hb hE B3 fun hE B3=>?_;have Ce := hb.size;refine ⟨_, rfl, pS (sw 70 #[iv 0, iv 0] ?_)⟩;intro O8 X9 C4 Dn hb hbx;have ⟨B0, B2⟩ := bq2 hbx;refine mv2 hb hE B3 fun hE B3=>?_;have Cu := hb.size;have Dp := B0.lt;refine pP (sn_set2 (O := O8) (j := 0) (v := iv x.o) (v' := iv x.w) (xt (pw O8 0) (.agg #[iv x.o, iv x.w]) (st70 B0.1 B0.2 B2.1 B2.2)) B0 B2 ?_);intro Ch ho B0 B2 hk;replace hE := ho.ext hE (T (T D0 Ce) (Nat.le_of_eq C4));replace B3 := ho.ext B3 (T Ce (Nat.le_of_eq C4));have Cv := Nat.le_of_eq ho.size.symm;clear ho hk;refine zn (cw_seq ?_)
 by_cases hA : x.o = -1 ∧ x.w = 0
 ·
  refine dE Tz15_0 (fun w' => w'.cell? ⟨O8, 0, none⟩ = some (iv x.o) ∧ w'.cell? ⟨O8, 1, none⟩ = some (iv x.w) ∧ w'.cell? ⟨0, 0, none⟩ = some (iv (-1 : Int)) ∧ w'.cell? ⟨0, 1, none⟩ = some (iv 0)) (⟨B0.1, B2.1, (hE.cell hRl.c0), (hE.cell hRl.c1)⟩) (fun ops Q Dv hb hL hR hK => ?_);refine mv4 hb hE B3 B0 B2 fun hE B3 B0 B2=>?_;have Cw := hb.size;have Bf := A4 (B0.1) (B2.1) (hE.cell hRl.c0) ((hE.cell hRl.c1));refine wM 0 (.agg #[iv x.o, iv x.w]) hR (fun w hS => ld70 (hS.1) (hS.2.1)) Bf ?_;refine wM 1 (.agg #[iv (-1 : Int), iv 0]) hR (fun w hS => ld70 (hS.2.2.1) (hS.2.2.2)) Bf ?_;refine wL 2 (.bool true) hR (fun w _ => ex_binV (a := .agg #[iv x.o, iv x.w]) (b := .agg #[iv (-1 : Int), iv 0]) rfl (by kernel_rfl) (by kernel_rfl) (eqG_agg (by kernel_rfl)) (bin_eqv_t (key_eq _ _ _ _ _) hA)) Bf ?_;refine wV 3 (.bool true) hR Bf ?_;refine wK 4 hR Bf ?_;refine wK 5 hR Bf ?_;refine wK 6 hR Bf ?_;refine wK 7 hR Bf ?_;refine wK 8 hR Bf ?_;refine wK 9 hR Bf ?_;refine wK 10 hR Bf ?_;refine wK 11 hR Bf ?_;refine wK 12 hR Bf ?_;refine wK 13 hR Bf ?_;refine wK 14 hR Bf ?_;refine wK 15 hR Bf ?_;refine wK 16 hR Bf ?_;refine wK 17 hR Bf ?_;refine wW 18 (.bool true) 19 (.bool true) hR Bf ?_;refine we hL hR hK ?_;refine zq (cK [1,4] (fun L => ?_));refine zc (zp (pD (.bool true) (.bool true) ?_));refine pT (pw O1 0) ?_;refine pU (iv x.c) (xl (ld3 (B8.c B3))) ?_;rcases Bool.eq_false_or_eq_true (Globe.inB x.c 0 15) with Br | Br
  ·
   have Ci := Globe.inB_t.1 Br;refine pS (sc 49 #[iv x.c] ((isCentre_r (r := true) x.c _ (Br)).mono ?_));rintro e E1 ⟨rfl, hb⟩;refine mv4 hb hE B3 B0 B2 fun hE B3 B0 B2=>?_;have Cx := hb.size;refine ⟨_, rfl, pD (.bool true) (.bool true) ?_⟩;refine pT (pw O1 1) ?_;refine pU (iv x.n) (xl (ld3 (Ba.c B3))) ?_;rcases Bool.eq_false_or_eq_true (Globe.inB x.n 1 80) with Bs | Bs
   ·
    have Cj := Globe.inB_t.1 Bs;refine pS (sc 84 #[iv x.n, iv 1, iv 80] ((replica_isIn_r (r := true) x.n 1 80 _ (Bs)).mono ?_));rintro e E2 ⟨rfl, hb⟩;refine mv4 hb hE B3 B0 B2 fun hE B3 B0 B2=>?_;have Cy := hb.size;refine ⟨_, rfl, pD (.bool true) (.bool true) ?_⟩;refine pT (pw O1 2) ?_;refine pU (iv x.t) (xl (ld3 (Bb.c B3))) ?_;rcases Bool.eq_false_or_eq_true (Globe.inB x.t 0 1000000) with Bt | Bt
    ·
     have Ck := Globe.inB_t.1 Bt;refine pS (sc 84 #[iv x.t, iv 0, iv 1000000] ((replica_isIn_r (r := true) x.t 0 1000000 _ (Bt)).mono ?_));rintro e E3 ⟨rfl, hb⟩;refine mv4 hb hE B3 B0 B2 fun hE B3 B0 B2=>?_;have Cz := hb.size;refine ⟨_, rfl, pD (.bool true) (.bool true) ?_⟩;refine pT (pw O1 5) ?_;refine pU (iv x.k) (xl (ld3 (Bc.c B3))) ?_;rcases Bool.eq_false_or_eq_true (Globe.inB x.k 0 15) with Bu | Bu
     ·
      have Cl := Globe.inB_t.1 Bu;refine pS (sc 84 #[iv x.k, iv 0, iv 15] ((replica_isIn_r (r := true) x.k 0 15 _ (Bu)).mono ?_));rintro e E4 ⟨rfl, hb⟩;refine mv4 hb hE B3 B0 B2 fun hE B3 B0 B2=>?_;have D1 := hb.size;refine ⟨_, rfl, pD (.bool true) (.bool true) ?_⟩;refine pT (pw O1 6) ?_;refine pU (.string x.x) (xl (ld9 (Be.c B3))) ?_;refine pT (iv ((ByteArray.size x.x : Nat) : Int)) ?_
      by_cases C3 : ((ByteArray.size x.x : Nat) : Int) ≤ (4000 : Int)
      ·
       refine pU (.bool true) (ed (((ByteArray.size x.x : Nat) : Int) ≤ (4000 : Int)) (C3)) ?_;refine pD (.bool true) (.bool true) ?_;refine zn (cK [2] (fun L => ?_));refine cw_ret (qw_ret [.bool true] rfl ⟨(by kernel_rfl), trivial⟩ ?_);exact ⟨rb (show Rep.okR x = true from decide_eq_true (by omega)).symm, hE⟩
      ·
       refine pU (.bool false) (en (((ByteArray.size x.x : Nat) : Int) ≤ (4000 : Int)) (C3)) ?_;refine pD (.bool false) (.bool false) ?_;refine zn (cK [2] (fun L => ?_));refine cw_ret (qw_ret [.bool false] rfl ⟨(by kernel_rfl), trivial⟩ ?_);exact ⟨rb (show Rep.okR x = false from decide_eq_false (by omega)).symm, hE⟩
     ·
      have Cm := Globe.inB_f.1 Bu;refine pS (sc 84 #[iv x.k, iv 0, iv 15] ((replica_isIn_r (r := false) x.k 0 15 _ (Bu)).mono ?_));rintro e E5 ⟨rfl, hb⟩;refine mv4 hb hE B3 B0 B2 fun hE B3 B0 B2=>?_;have D2 := hb.size;refine ⟨_, rfl, pD (.bool false) (.bool false) ?_⟩;refine pK ?_;refine pK ?_;refine pK ?_;refine pK ?_;refine pD (.bool false) (.bool false) ?_;refine zn (cK [2] (fun L => ?_));refine cw_ret (qw_ret [.bool false] rfl ⟨(by kernel_rfl), trivial⟩ ?_);exact ⟨rb (show Rep.okR x = false from decide_eq_false (by omega)).symm, hE⟩
    ·
     have Cn := Globe.inB_f.1 Bt;refine pS (sc 84 #[iv x.t, iv 0, iv 1000000] ((replica_isIn_r (r := false) x.t 0 1000000 _ (Bt)).mono ?_));rintro e E6 ⟨rfl, hb⟩;refine mv4 hb hE B3 B0 B2 fun hE B3 B0 B2=>?_;have D3 := hb.size;refine ⟨_, rfl, pD (.bool false) (.bool false) ?_⟩;refine pK ?_;refine pK ?_;refine pK ?_;refine pD (.bool false) (.bool false) ?_;refine pK ?_;refine pK ?_;refine pK ?_;refine pK ?_;refine pD (.bool false) (.bool false) ?_;refine zn (cK [2] (fun L => ?_));refine cw_ret (qw_ret [.bool false] rfl ⟨(by kernel_rfl), trivial⟩ ?_);exact ⟨rb (show Rep.okR x = false from decide_eq_false (by omega)).symm, hE⟩
   ·
    have Co := Globe.inB_f.1 Bs;refine pS (sc 84 #[iv x.n, iv 1, iv 80] ((replica_isIn_r (r := false) x.n 1 80 _ (Bs)).mono ?_));rintro e E7 ⟨rfl, hb⟩;refine mv4 hb hE B3 B0 B2 fun hE B3 B0 B2=>?_;have D4 := hb.size;refine ⟨_, rfl, pD (.bool false) (.bool false) ?_⟩;refine pK ?_;refine pK ?_;refine pK ?_;refine pD (.bool false) (.bool false) ?_;refine pK ?_;refine pK ?_;refine pK ?_;refine pD (.bool false) (.bool false) ?_;refine pK ?_;refine pK ?_;refine pK ?_;refine pK ?_;refine pD (.bool false) (.bool false) ?_;refine zn (cK [2] (fun L => ?_));refine cw_ret (qw_ret [.bool false] rfl ⟨(by kernel_rfl), trivial⟩ ?_);exact ⟨rb (show Rep.okR x = false from decide_eq_false (by omega)).symm, hE⟩
  ·
   have Cp := Globe.inB_f.1 Br;refine pS (sc 49 #[iv x.c] ((isCentre_r (r := false) x.c _ (Br)).mono ?_));rintro e E8 ⟨rfl, hb⟩;refine mv4 hb hE B3 B0 B2 fun hE B3 B0 B2=>?_;have D5 := hb.size;refine ⟨_, rfl, pD (.bool false) (.bool false) ?_⟩;refine pK ?_;refine pK ?_;refine pK ?_;refine pD (.bool false) (.bool false) ?_;refine pK ?_;refine pK ?_;refine pK ?_;refine pD (.bool false) (.bool false) ?_;refine pK ?_;refine pK ?_;refine pK ?_;refine pD (.bool false) (.bool false) ?_;refine pK ?_;refine pK ?_;refine pK ?_;refine pK ?_;refine pD (.bool false) (.bool false) ?_;refine zn (cK [2] (fun L => ?_));refine cw_ret (qw_ret [.bool false] rfl ⟨(by kernel_rfl), trivial⟩ ?_);exact ⟨rb (show Rep.okR x = false from decide_eq_false (by omega)).symm, hE⟩
 ·
  cases hqA : Globe.inB x.o 0 15
  ·
   have hqAq := Globe.inB_f.1 hqA;refine dE Tz15_0 (fun w' => w'.cell? ⟨O8, 0, none⟩ = some (iv x.o) ∧ w'.cell? ⟨O8, 1, none⟩ = some (iv x.w) ∧ w'.cell? ⟨0, 0, none⟩ = some (iv (-1 : Int)) ∧ w'.cell? ⟨0, 1, none⟩ = some (iv 0) ∧ w'.cell? ⟨O1, 3, none⟩ = some (iv x.o)) (⟨B0.1, B2.1, (hE.cell hRl.c0), (hE.cell hRl.c1), (B4.x B3).1⟩) (fun ops Q Dw hb hL hR hK => ?_);refine mv4 hb hE B3 B0 B2 fun hE B3 B0 B2=>?_;have D6 := hb.size;have Bi := A5 (B0.1) (B2.1) (hE.cell hRl.c0) (hE.cell hRl.c1) (B4.c B3);refine wM 0 (.agg #[iv x.o, iv x.w]) hR (fun w hS => ld70 (hS.1) (hS.2.1)) Bi ?_;refine wM 1 (.agg #[iv (-1 : Int), iv 0]) hR (fun w hS => ld70 (hS.2.2.1) (hS.2.2.2.1)) Bi ?_;refine wL 2 (.bool false) hR (fun w _ => ex_binV (a := .agg #[iv x.o, iv x.w]) (b := .agg #[iv (-1 : Int), iv 0]) rfl (by kernel_rfl) (by kernel_rfl) (eqG_agg (by kernel_rfl)) (bin_eqv_f (key_eq _ _ _ _ _) hA)) Bi ?_;refine wW 3 (.bool false) 4 (pw O1 3) hR Bi ?_;refine wM 5 (iv x.o) hR (fun w hS => ld3 (hS.2.2.2.2)) Bi ?_;refine wC 6 49 #[iv x.o] hR ((isCentre_r (r := false) x.o _ (hqA)).mono ?_);rintro e E9 ⟨rfl, hb⟩;refine mv4 hb hE B3 B0 B2 fun hE B3 B0 B2=>?_;have D7 := hb.size;have Bg := A5 (B0.1) (B2.1) (hE.cell hRl.c0) (hE.cell hRl.c1) (B4.c B3);refine ⟨_, rfl, Bg, ?_⟩;refine wV 7 (.bool false) hR Bg ?_;refine wK 8 hR Bg ?_;refine wK 9 hR Bg ?_;refine wK 10 hR Bg ?_;refine wW 11 (.bool false) 12 (.bool false) hR Bg ?_;refine wK 13 hR Bg ?_;refine wK 14 hR Bg ?_;refine wK 15 hR Bg ?_;refine wK 16 hR Bg ?_;refine wW 17 (.bool false) 18 (.bool false) hR Bg ?_;refine wV 19 (.bool false) hR Bg ?_;refine we hL hR hK ?_;refine zq (cK [1,4] (fun L => ?_));refine zc (zp (pD (.bool false) (.bool false) ?_));refine pK ?_;refine pK ?_;refine pK ?_;refine pD (.bool false) (.bool false) ?_;refine pK ?_;refine pK ?_;refine pK ?_;refine pD (.bool false) (.bool false) ?_;refine pK ?_;refine pK ?_;refine pK ?_;refine pD (.bool false) (.bool false) ?_;refine pK ?_;refine pK ?_;refine pK ?_;refine pD (.bool false) (.bool false) ?_;refine pK ?_;refine pK ?_;refine pK ?_;refine pK ?_;refine pD (.bool false) (.bool false) ?_;refine zn (cK [2] (fun L => ?_));refine cw_ret (qw_ret [.bool false] rfl ⟨(by kernel_rfl), trivial⟩ ?_);exact ⟨rb (show Rep.okR x = false from decide_eq_false (by omega)).symm, hE⟩
  ·
   have hqAq := Globe.inB_t.1 hqA
   cases hqB : Globe.inB x.w 1 80
   ·
    have hqBq := Globe.inB_f.1 hqB;refine dE Tz15_0 (fun w' => w'.cell? ⟨O8, 0, none⟩ = some (iv x.o) ∧ w'.cell? ⟨O8, 1, none⟩ = some (iv x.w) ∧ w'.cell? ⟨0, 0, none⟩ = some (iv (-1 : Int)) ∧ w'.cell? ⟨0, 1, none⟩ = some (iv 0) ∧ w'.cell? ⟨O1, 3, none⟩ = some (iv x.o) ∧ w'.cell? ⟨O1, 4, none⟩ = some (iv x.w)) (⟨B0.1, B2.1, (hE.cell hRl.c0), (hE.cell hRl.c1), (B4.x B3).1, (B7.x B3).1⟩) (fun ops Q Dx hb hL hR hK => ?_);refine mv4 hb hE B3 B0 B2 fun hE B3 B0 B2=>?_;have D8 := hb.size;have Bj := A6 (B0.1) (B2.1) (hE.cell hRl.c0) (hE.cell hRl.c1) (B4.c B3) (B7.c B3);refine wM 0 (.agg #[iv x.o, iv x.w]) hR (fun w hS => ld70 (hS.1) (hS.2.1)) Bj ?_;refine wM 1 (.agg #[iv (-1 : Int), iv 0]) hR (fun w hS => ld70 (hS.2.2.1) (hS.2.2.2.1)) Bj ?_;refine wL 2 (.bool false) hR (fun w _ => ex_binV (a := .agg #[iv x.o, iv x.w]) (b := .agg #[iv (-1 : Int), iv 0]) rfl (by kernel_rfl) (by kernel_rfl) (eqG_agg (by kernel_rfl)) (bin_eqv_f (key_eq _ _ _ _ _) hA)) Bj ?_;refine wW 3 (.bool false) 4 (pw O1 3) hR Bj ?_;refine wM 5 (iv x.o) hR (fun w hS => ld3 (hS.2.2.2.2.1)) Bj ?_;refine wC 6 49 #[iv x.o] hR ((isCentre_r (r := true) x.o _ (hqA)).mono ?_);rintro e Ea ⟨rfl, hb⟩;refine mv4 hb hE B3 B0 B2 fun hE B3 B0 B2=>?_;have D9 := hb.size;have Bz := A6 (B0.1) (B2.1) (hE.cell hRl.c0) (hE.cell hRl.c1) (B4.c B3) (B7.c B3);refine ⟨_, rfl, Bz, ?_⟩;refine wW 7 (.bool true) 8 (pw O1 4) hR Bz ?_;refine wM 9 (iv x.w) hR (fun w hS => ld3 (hS.2.2.2.2.2)) Bz ?_;refine wC 10 84 #[iv x.w, iv 1, iv 80] hR ((replica_isIn_r (r := false) x.w 1 80 _ (hqB)).mono ?_);rintro e Eb ⟨rfl, hb⟩;refine mv4 hb hE B3 B0 B2 fun hE B3 B0 B2=>?_;have Da := hb.size;have Bh := A6 (B0.1) (B2.1) (hE.cell hRl.c0) (hE.cell hRl.c1) (B4.c B3) (B7.c B3);refine ⟨_, rfl, Bh, ?_⟩;refine wW 11 (.bool false) 12 (.bool false) hR Bh ?_;refine wK 13 hR Bh ?_;refine wK 14 hR Bh ?_;refine wK 15 hR Bh ?_;refine wK 16 hR Bh ?_;refine wW 17 (.bool false) 18 (.bool false) hR Bh ?_;refine wV 19 (.bool false) hR Bh ?_;refine we hL hR hK ?_;refine zq (cK [1,4] (fun L => ?_));refine zc (zp (pD (.bool false) (.bool false) ?_));refine pK ?_;refine pK ?_;refine pK ?_;refine pD (.bool false) (.bool false) ?_;refine pK ?_;refine pK ?_;refine pK ?_;refine pD (.bool false) (.bool false) ?_;refine pK ?_;refine pK ?_;refine pK ?_;refine pD (.bool false) (.bool false) ?_;refine pK ?_;refine pK ?_;refine pK ?_;refine pD (.bool false) (.bool false) ?_;refine pK ?_;refine pK ?_;refine pK ?_;refine pK ?_;refine pD (.bool false) (.bool false) ?_;refine zn (cK [2] (fun L => ?_));refine cw_ret (qw_ret [.bool false] rfl ⟨(by kernel_rfl), trivial⟩ ?_);exact ⟨rb (show Rep.okR x = false from decide_eq_false (by omega)).symm, hE⟩
   ·
    have hqBq := Globe.inB_t.1 hqB
    by_cases hB : x.o = x.c ∧ x.w = x.n
    ·
     refine dE Tz15_0 (fun w' => w'.cell? ⟨O8, 0, none⟩ = some (iv x.o) ∧ w'.cell? ⟨O8, 1, none⟩ = some (iv x.w) ∧ w'.cell? ⟨0, 0, none⟩ = some (iv (-1 : Int)) ∧ w'.cell? ⟨0, 1, none⟩ = some (iv 0) ∧ w'.cell? ⟨O1, 3, none⟩ = some (iv x.o) ∧ w'.cell? ⟨O1, 4, none⟩ = some (iv x.w) ∧ w'.cell? ⟨O1, 0, none⟩ = some (iv x.c) ∧ w'.cell? ⟨O1, 1, none⟩ = some (iv x.n) ∧ w'.cell? ⟨O1, 2, none⟩ = some (iv x.t) ∧ w'.cell? ⟨O1, 5, none⟩ = some (iv x.k) ∧ w'.cell? ⟨O1, 6, none⟩ = some (.string x.x)) (⟨B0.1, B2.1, (hE.cell hRl.c0), (hE.cell hRl.c1), (B4.x B3).1, (B7.x B3).1, (B8.x B3).1, (Ba.x B3).1, (Bb.x B3).1, (Bc.x B3).1, (Be.x B3).1⟩) (fun ops Q Dy hb hL hR hK => ?_);refine mv4 hb hE B3 B0 B2 fun hE B3 B0 B2=>?_;have Db := hb.size;have Bk := A11 (B0.1) (B2.1) (hE.cell hRl.c0) (hE.cell hRl.c1) (B4.c B3) (B7.c B3) (B8.c B3) (Ba.c B3) (Bb.c B3) (Bc.c B3) (Be.c B3);refine wM 0 (.agg #[iv x.o, iv x.w]) hR (fun w hS => ld70 (hS.1) (hS.2.1)) Bk ?_;refine wM 1 (.agg #[iv (-1 : Int), iv 0]) hR (fun w hS => ld70 (hS.2.2.1) (hS.2.2.2.1)) Bk ?_;refine wL 2 (.bool false) hR (fun w _ => ex_binV (a := .agg #[iv x.o, iv x.w]) (b := .agg #[iv (-1 : Int), iv 0]) rfl (by kernel_rfl) (by kernel_rfl) (eqG_agg (by kernel_rfl)) (bin_eqv_f (key_eq _ _ _ _ _) hA)) Bk ?_;refine wW 3 (.bool false) 4 (pw O1 3) hR Bk ?_;refine wM 5 (iv x.o) hR (fun w hS => ld3 (hS.2.2.2.2.1)) Bk ?_;refine wC 6 49 #[iv x.o] hR ((isCentre_r (r := true) x.o _ (hqA)).mono ?_);rintro e Ec ⟨rfl, hb⟩;refine mv4 hb hE B3 B0 B2 fun hE B3 B0 B2=>?_;have Dc := hb.size;have C0 := A11 (B0.1) (B2.1) (hE.cell hRl.c0) (hE.cell hRl.c1) (B4.c B3) (B7.c B3) (B8.c B3) (Ba.c B3) (Bb.c B3) (Bc.c B3) (Be.c B3);refine ⟨_, rfl, C0, ?_⟩;refine wW 7 (.bool true) 8 (pw O1 4) hR C0 ?_;refine wM 9 (iv x.w) hR (fun w hS => ld3 (hS.2.2.2.2.2.1)) C0 ?_;refine wC 10 84 #[iv x.w, iv 1, iv 80] hR ((replica_isIn_r (r := true) x.w 1 80 _ (hqB)).mono ?_);rintro e Ed ⟨rfl, hb⟩;refine mv4 hb hE B3 B0 B2 fun hE B3 B0 B2=>?_;have Dd := hb.size;have Bn := A11 (B0.1) (B2.1) (hE.cell hRl.c0) (hE.cell hRl.c1) (B4.c B3) (B7.c B3) (B8.c B3) (Ba.c B3) (Bb.c B3) (Bc.c B3) (Be.c B3);refine ⟨_, rfl, Bn, ?_⟩;refine wW 11 (.bool true) 12 (.bool true) hR Bn ?_;refine wM 13 (.agg #[iv x.o, iv x.w]) hR (fun w hS => ld70 (hS.1) (hS.2.1)) Bn ?_;refine wM 14 (rvv x) hR (fun w hS => ld49 (hS.2.2.2.2.2.2.1) (hS.2.2.2.2.2.2.2.1) (hS.2.2.2.2.2.2.2.2.1) (hS.2.2.2.2.1) (hS.2.2.2.2.2.1) (hS.2.2.2.2.2.2.2.2.2.1) (hS.2.2.2.2.2.2.2.2.2.2)) Bn ?_;refine wC 15 68 #[rvv x] hR ((keyOf_c x _).mono ?_);rintro e Ee ⟨rfl, hb⟩;refine mv4 hb hE B3 B0 B2 fun hE B3 B0 B2=>?_;have De := hb.size;have Bo := A11 (B0.1) (B2.1) (hE.cell hRl.c0) (hE.cell hRl.c1) (B4.c B3) (B7.c B3) (B8.c B3) (Ba.c B3) (Bb.c B3) (Bc.c B3) (Be.c B3);refine ⟨_, rfl, Bo, ?_⟩;refine wL 16 (.bool false) hR (fun w _ => ex_binV (a := .agg #[iv x.o, iv x.w]) (b := .agg #[iv x.c, iv x.n]) rfl (by kernel_rfl) (by kernel_rfl) (eqG_agg (by kernel_rfl)) (bin_nqv_t (key_eq _ _ _ _ _) hB)) Bo ?_;refine wW 17 (.bool false) 18 (.bool false) hR Bo ?_;refine wV 19 (.bool false) hR Bo ?_;refine we hL hR hK ?_;refine zq (cK [1,4] (fun L => ?_));refine zc (zp (pD (.bool false) (.bool false) ?_));refine pK ?_;refine pK ?_;refine pK ?_;refine pD (.bool false) (.bool false) ?_;refine pK ?_;refine pK ?_;refine pK ?_;refine pD (.bool false) (.bool false) ?_;refine pK ?_;refine pK ?_;refine pK ?_;refine pD (.bool false) (.bool false) ?_;refine pK ?_;refine pK ?_;refine pK ?_;refine pD (.bool false) (.bool false) ?_;refine pK ?_;refine pK ?_;refine pK ?_;refine pK ?_;refine pD (.bool false) (.bool false) ?_;refine zn (cK [2] (fun L => ?_));refine cw_ret (qw_ret [.bool false] rfl ⟨(by kernel_rfl), trivial⟩ ?_);exact ⟨rb (show Rep.okR x = false from decide_eq_false (by omega)).symm, hE⟩
    ·
     refine dE Tz15_0 (fun w' => w'.cell? ⟨O8, 0, none⟩ = some (iv x.o) ∧ w'.cell? ⟨O8, 1, none⟩ = some (iv x.w) ∧ w'.cell? ⟨0, 0, none⟩ = some (iv (-1 : Int)) ∧ w'.cell? ⟨0, 1, none⟩ = some (iv 0) ∧ w'.cell? ⟨O1, 3, none⟩ = some (iv x.o) ∧ w'.cell? ⟨O1, 4, none⟩ = some (iv x.w) ∧ w'.cell? ⟨O1, 0, none⟩ = some (iv x.c) ∧ w'.cell? ⟨O1, 1, none⟩ = some (iv x.n) ∧ w'.cell? ⟨O1, 2, none⟩ = some (iv x.t) ∧ w'.cell? ⟨O1, 5, none⟩ = some (iv x.k) ∧ w'.cell? ⟨O1, 6, none⟩ = some (.string x.x)) (⟨B0.1, B2.1, (hE.cell hRl.c0), (hE.cell hRl.c1), (B4.x B3).1, (B7.x B3).1, (B8.x B3).1, (Ba.x B3).1, (Bb.x B3).1, (Bc.x B3).1, (Be.x B3).1⟩) (fun ops Q Dz hb hL hR hK => ?_);refine mv4 hb hE B3 B0 B2 fun hE B3 B0 B2=>?_;have Df := hb.size;have Bm := A11 (B0.1) (B2.1) (hE.cell hRl.c0) (hE.cell hRl.c1) (B4.c B3) (B7.c B3) (B8.c B3) (Ba.c B3) (Bb.c B3) (Bc.c B3) (Be.c B3);refine wM 0 (.agg #[iv x.o, iv x.w]) hR (fun w hS => ld70 (hS.1) (hS.2.1)) Bm ?_;refine wM 1 (.agg #[iv (-1 : Int), iv 0]) hR (fun w hS => ld70 (hS.2.2.1) (hS.2.2.2.1)) Bm ?_;refine wL 2 (.bool false) hR (fun w _ => ex_binV (a := .agg #[iv x.o, iv x.w]) (b := .agg #[iv (-1 : Int), iv 0]) rfl (by kernel_rfl) (by kernel_rfl) (eqG_agg (by kernel_rfl)) (bin_eqv_f (key_eq _ _ _ _ _) hA)) Bm ?_;refine wW 3 (.bool false) 4 (pw O1 3) hR Bm ?_;refine wM 5 (iv x.o) hR (fun w hS => ld3 (hS.2.2.2.2.1)) Bm ?_;refine wC 6 49 #[iv x.o] hR ((isCentre_r (r := true) x.o _ (hqA)).mono ?_);rintro e Ef ⟨rfl, hb⟩;refine mv4 hb hE B3 B0 B2 fun hE B3 B0 B2=>?_;have Dg := hb.size;have C1 := A11 (B0.1) (B2.1) (hE.cell hRl.c0) (hE.cell hRl.c1) (B4.c B3) (B7.c B3) (B8.c B3) (Ba.c B3) (Bb.c B3) (Bc.c B3) (Be.c B3);refine ⟨_, rfl, C1, ?_⟩;refine wW 7 (.bool true) 8 (pw O1 4) hR C1 ?_;refine wM 9 (iv x.w) hR (fun w hS => ld3 (hS.2.2.2.2.2.1)) C1 ?_;refine wC 10 84 #[iv x.w, iv 1, iv 80] hR ((replica_isIn_r (r := true) x.w 1 80 _ (hqB)).mono ?_);rintro e Eg ⟨rfl, hb⟩;refine mv4 hb hE B3 B0 B2 fun hE B3 B0 B2=>?_;have Dh := hb.size;have Bp := A11 (B0.1) (B2.1) (hE.cell hRl.c0) (hE.cell hRl.c1) (B4.c B3) (B7.c B3) (B8.c B3) (Ba.c B3) (Bb.c B3) (Bc.c B3) (Be.c B3);refine ⟨_, rfl, Bp, ?_⟩;refine wW 11 (.bool true) 12 (.bool true) hR Bp ?_;refine wM 13 (.agg #[iv x.o, iv x.w]) hR (fun w hS => ld70 (hS.1) (hS.2.1)) Bp ?_;refine wM 14 (rvv x) hR (fun w hS => ld49 (hS.2.2.2.2.2.2.1) (hS.2.2.2.2.2.2.2.1) (hS.2.2.2.2.2.2.2.2.1) (hS.2.2.2.2.1) (hS.2.2.2.2.2.1) (hS.2.2.2.2.2.2.2.2.2.1) (hS.2.2.2.2.2.2.2.2.2.2)) Bp ?_;refine wC 15 68 #[rvv x] hR ((keyOf_c x _).mono ?_);rintro e Eh ⟨rfl, hb⟩;refine mv4 hb hE B3 B0 B2 fun hE B3 B0 B2=>?_;have Di := hb.size;have Bq := A11 (B0.1) (B2.1) (hE.cell hRl.c0) (hE.cell hRl.c1) (B4.c B3) (B7.c B3) (B8.c B3) (Ba.c B3) (Bb.c B3) (Bc.c B3) (Be.c B3);refine ⟨_, rfl, Bq, ?_⟩;refine wL 16 (.bool true) hR (fun w _ => ex_binV (a := .agg #[iv x.o, iv x.w]) (b := .agg #[iv x.c, iv x.n]) rfl (by kernel_rfl) (by kernel_rfl) (eqG_agg (by kernel_rfl)) (bin_nqv_f (key_eq _ _ _ _ _) hB)) Bq ?_;refine wW 17 (.bool true) 18 (.bool true) hR Bq ?_;refine wV 19 (.bool true) hR Bq ?_;refine we hL hR hK ?_;refine zq (cK [1,4] (fun L => ?_));refine zc (zp (pD (.bool true) (.bool true) ?_));refine pT (pw O1 0) ?_;refine pU (iv x.c) (xl (ld3 (B8.c B3))) ?_;rcases Bool.eq_false_or_eq_true (Globe.inB x.c 0 15) with Bv | Bv
     ·
      have Cq := Globe.inB_t.1 Bv;refine pS (sc 49 #[iv x.c] ((isCentre_r (r := true) x.c _ (Bv)).mono ?_));rintro e Ei ⟨rfl, hb⟩;refine mv2 hb hE B3 fun hE B3=>?_;have Dj := hb.size;refine ⟨_, rfl, pD (.bool true) (.bool true) ?_⟩;refine pT (pw O1 1) ?_;refine pU (iv x.n) (xl (ld3 (Ba.c B3))) ?_;rcases Bool.eq_false_or_eq_true (Globe.inB x.n 1 80) with Bw | Bw
      ·
       have Cr := Globe.inB_t.1 Bw;refine pS (sc 84 #[iv x.n, iv 1, iv 80] ((replica_isIn_r (r := true) x.n 1 80 _ (Bw)).mono ?_));rintro e Ej ⟨rfl, hb⟩;refine mv2 hb hE B3 fun hE B3=>?_;have Dk := hb.size;refine ⟨_, rfl, pD (.bool true) (.bool true) ?_⟩;refine pT (pw O1 2) ?_;refine pU (iv x.t) (xl (ld3 (Bb.c B3))) ?_;rcases Bool.eq_false_or_eq_true (Globe.inB x.t 0 1000000) with Bx | Bx
       ·
        have Cs := Globe.inB_t.1 Bx;refine pS (sc 84 #[iv x.t, iv 0, iv 1000000] ((replica_isIn_r (r := true) x.t 0 1000000 _ (Bx)).mono ?_));rintro e Ek ⟨rfl, hb⟩;refine mv2 hb hE B3 fun hE B3=>?_;have Dl := hb.size;refine ⟨_, rfl, pD (.bool true) (.bool true) ?_⟩;refine pT (pw O1 5) ?_;refine pU (iv x.k) (xl (ld3 (Bc.c B3))) ?_;rcases Bool.eq_false_or_eq_true (Globe.inB x.k 0 15) with By | By
        ·
         have Ct := Globe.inB_t.1 By;refine pS (sc 84 #[iv x.k, iv 0, iv 15] ((replica_isIn_r (r := true) x.k 0 15 _ (By)).mono ?_));rintro e El ⟨rfl, hb⟩;refine mv2 hb hE B3 fun hE B3=>?_;have C9 := hb.size;refine ⟨_, rfl, pD (.bool true) (.bool true) ?_⟩;refine pT (pw O1 6) ?_;refine pU (.string x.x) (xl (ld9 (Be.c B3))) ?_;refine pT (iv ((ByteArray.size x.x : Nat) : Int)) ?_
         by_cases C2 : ((ByteArray.size x.x : Nat) : Int) ≤ (4000 : Int)
         ·
          refine pU (.bool true) (ed (((ByteArray.size x.x : Nat) : Int) ≤ (4000 : Int)) (C2)) ?_;refine pD (.bool true) (.bool true) ?_;refine zn (cK [2] (fun L => ?_));refine cw_ret (qw_ret [.bool true] rfl ⟨(by kernel_rfl), trivial⟩ ?_);exact ⟨rb (show Rep.okR x = true from decide_eq_true (by omega)).symm, hE⟩
         ·
          refine pU (.bool false) (en (((ByteArray.size x.x : Nat) : Int) ≤ (4000 : Int)) (C2)) ?_;refine pD (.bool false) (.bool false) ?_;refine zn (cK [2] (fun L => ?_));refine cw_ret (qw_ret [.bool false] rfl ⟨(by kernel_rfl), trivial⟩ ?_);exact ⟨rb (show Rep.okR x = false from decide_eq_false (by omega)).symm, hE⟩
        ·
         have C5 := Globe.inB_f.1 By;refine pS (sc 84 #[iv x.k, iv 0, iv 15] ((replica_isIn_r (r := false) x.k 0 15 _ (By)).mono ?_));rintro e Dq ⟨rfl, hb⟩;replace hE := hE.trans hb;have Ca := hb.size;refine ⟨_, rfl, pD (.bool false) (.bool false) ?_⟩;refine pK ?_;refine pK ?_;refine pK ?_;refine pK ?_;refine pD (.bool false) (.bool false) ?_;refine zn (cK [2] (fun L => ?_));refine cw_ret (qw_ret [.bool false] rfl ⟨(by kernel_rfl), trivial⟩ ?_);exact ⟨rb (show Rep.okR x = false from decide_eq_false (by omega)).symm, hE⟩
       ·
        have C6 := Globe.inB_f.1 Bx;refine pS (sc 84 #[iv x.t, iv 0, iv 1000000] ((replica_isIn_r (r := false) x.t 0 1000000 _ (Bx)).mono ?_));rintro e Dr ⟨rfl, hb⟩;replace hE := hE.trans hb;have Cb := hb.size;refine ⟨_, rfl, pD (.bool false) (.bool false) ?_⟩;refine pK ?_;refine pK ?_;refine pK ?_;refine pD (.bool false) (.bool false) ?_;refine pK ?_;refine pK ?_;refine pK ?_;refine pK ?_;refine pD (.bool false) (.bool false) ?_;refine zn (cK [2] (fun L => ?_));refine cw_ret (qw_ret [.bool false] rfl ⟨(by kernel_rfl), trivial⟩ ?_);exact ⟨rb (show Rep.okR x = false from decide_eq_false (by omega)).symm, hE⟩
      ·
       have C7 := Globe.inB_f.1 Bw;refine pS (sc 84 #[iv x.n, iv 1, iv 80] ((replica_isIn_r (r := false) x.n 1 80 _ (Bw)).mono ?_));rintro e Dt ⟨rfl, hb⟩;replace hE := hE.trans hb;have Cc := hb.size;refine ⟨_, rfl, pD (.bool false) (.bool false) ?_⟩;refine pK ?_;refine pK ?_;refine pK ?_;refine pD (.bool false) (.bool false) ?_;refine pK ?_;refine pK ?_;refine pK ?_;refine pD (.bool false) (.bool false) ?_;refine pK ?_;refine pK ?_;refine pK ?_;refine pK ?_;refine pD (.bool false) (.bool false) ?_;refine zn (cK [2] (fun L => ?_));refine cw_ret (qw_ret [.bool false] rfl ⟨(by kernel_rfl), trivial⟩ ?_);exact ⟨rb (show Rep.okR x = false from decide_eq_false (by omega)).symm, hE⟩
     ·
      have C8 := Globe.inB_f.1 Bv;refine pS (sc 49 #[iv x.c] ((isCentre_r (r := false) x.c _ (Bv)).mono ?_));rintro e Du ⟨rfl, hb⟩;replace hE := hE.trans hb;have Cd := hb.size;refine ⟨_, rfl, pD (.bool false) (.bool false) ?_⟩;refine pK ?_;refine pK ?_;refine pK ?_;refine pD (.bool false) (.bool false) ?_;refine pK ?_;refine pK ?_;refine pK ?_;refine pD (.bool false) (.bool false) ?_;refine pK ?_;refine pK ?_;refine pK ?_;refine pD (.bool false) (.bool false) ?_;refine pK ?_;refine pK ?_;refine pK ?_;refine pK ?_;refine pD (.bool false) (.bool false) ?_;refine zn (cK [2] (fun L => ?_));refine cw_ret (qw_ret [.bool false] rfl ⟨(by kernel_rfl), trivial⟩ ?_);exact ⟨rb (show Rep.okR x = false from decide_eq_false (by omega)).symm, hE⟩
theorem formed_r (x : Rec) {r : Bool} (w : World) (hRl : RootAt w) (hr : Rep.okR x = r) : Calls Tryz.prog 50 #[rvv x] w fun e w' => e = .returned (.bool r) ∧ Ext w w' := hr ▸ formed_c x w hRl
instance {w w' : World} : MvC w w' (RootAt w) (RootAt w') := ⟨fun e h => h.ext e⟩
end Go.Proofs.YtfmoabgjaclkpaaGreatDoor

namespace Go.Proofs.YtfmoabgjaclkpaaGreatDoor
set_option maxRecDepth 1000000
set_option maxHeartbeats 4000000
set_option synthInstance.maxHeartbeats 0
set_option synthInstance.maxSize 9999
open Go.RowKit
def Tz16_0 : List Row := [(some 16, [0], []), (some 17, [1], []), (some 18, [10], []), (some 19, [17, 18], [1, 2]), (some 20, [0], []), (some 21, [2], []), (some 22, [10], []), (some 23, [21, 22], [5, 6]), (some 24, [0], []), (some 25, [2], []), (some 26, [10], []), (some 27, [25, 26], [9, 10]), (some 28, [24, 27], [8, 11]), (some 29, [28], [12]), (some 30, [0], []), (some 31, [1], []), (some 32, [10], []), (some 33, [31, 32], [15, 16]), (some 34, [30, 33], [14, 17]), (some 35, [34], [18]), (some 36, [16, 19], [0, 3, 0, 1, 2, 3, 8, 9, 10, 11, 12, 13, 19]), (none, [36, 29], [20, 13, 0, 1, 2, 3, 8, 9, 10, 11, 12, 13, 19]), (some 37, [20, 23], [4, 7, 0, 1, 2, 3, 4, 5, 6, 7, 8, 9, 10, 11, 12, 13, 14, 15, 16, 17, 18, 19, 20, 21]), (none, [37, 35], [22, 19, 21, 0, 1, 2, 3, 4, 5, 6, 7, 8, 9, 10, 11, 12, 13, 14, 15, 16, 17, 18, 19, 20, 21])]
namespace Rep
def swR (l : List Rec) (a b : Nat) : Nat → List Rec
 | 0 => l
 | i + 1 => ((swR l a b i).set (a + i) (recN (swR l a b i) (b + i))).set (b + i) (recN (swR l a b i) (a + i))
theorem swR_len (l : List Rec) (a b : Nat) : ∀ m, (swR l a b m).length = l.length
 | 0 => rfl
 | i + 1 => by unfold swR; rw [List.length_set, List.length_set, swR_len l a b i]
end Rep
theorem swapRange_c {a b mm : Nat} {g n c : Nat} {l : List Rec} (w : World) (hRc : RecsW w g l) (hl : l.length = n) (_hg : g < w.heap.size) (hn : n ≤ 1000) (h1 : a + mm ≤ b) (h2 : b + mm ≤ n) : Calls Tryz.prog 128 #[sv g 0 n c, iv a, iv b, iv mm, .func (.func 51) #[] #[]] w fun e w' => e = .returned (.tuple #[]) ∧ RecsW w' g (Rep.swR l a b mm) ∧ Wrote (fun k => k = g) w w' := by
 have Bg : Wrote (fun k => k = g) w w := Wrote.refl _ _;refine calls_cw 38 [(4, .func (.func 51) #[] #[]), (3, iv mm), (2, iv b), (1, iv a), (0, sv g 0 n c)] Tryz.func128 rfl Tryz.ntmps128 (by kernel_rfl) (by kernel_rfl) (fun L => ?_);have hE := Ext.refl w;refine zc (zp (pT (iv 0) ?_));refine zn (cw_block ?_);refine cw_loop [0, 1, 2, 3, 10] (fun ws' wr m => ∃ i : Nat, ∃ l2 : List Rec, ws' = [(0, sv g 0 n c), (1, iv a), (2, iv b), (3, iv mm), (10, iv i)] ∧ m = mm - i ∧ w.heap.size ≤ wr.heap.size ∧ Wrote (fun k => k = g) w wr ∧ RecsW wr g l2 ∧ i ≤ mm ∧ l2.length = n ∧ l2 = Rep.swR l a b i) (ws0 := [(0, sv g 0 n c), (1, iv a), (2, iv b), (3, iv mm), (10, iv 0)]) (by kernel_rfl) _ ⟨0, l, rfl, rfl, Nat.le_refl _, Bg, hRc, Nat.zero_le _, hl, rfl⟩ ?_;clear Bg hRc;rintro m3 L ws w2 ⟨i, l2, rfl, rfl, Ch, Bg, C0, hi, Cb, hs⟩;have Bx := Ext.refl w2
 by_cases hlt : i < mm
 ·
  refine zc (zc (zp (pD (iv i) (iv mm) ?_)));refine pU (.bool true) (ed (((i : Nat) : Int) < ((mm : Nat) : Int)) (by omega)) ?_;refine zn (zt ?_);refine cw_skip (zq (zc (cw_block ?_)));refine cw_join (fun ws' Y => ∃ l9 Bz : List Rec, ws' = [(0, sv g 0 n c), (1, iv a), (2, iv b), (3, iv mm), (10, iv i)] ∧ Wrote (fun k => k = g) w Y ∧ l9.length = n ∧ l9 = l2.set (a + i) (recN l2 (b + i)) ∧ RecsW Y g Bz ∧ Bz.length = n ∧ Bz = l9.set (b + i) (recN l2 (a + i)) ∧ w2.heap.size ≤ Y.heap.size) (fun hJ => ?_) ?_
  ·
   refine dE Tz16_0 (fun w' => True) (trivial) (fun ops Q X5 hb hL hR hK => ?_);replace Bx := Bx.trans hb;replace Bg := Bg.step hb;have Cc := hb.size;have hS := trivial;refine wW 0 (sv g 0 n c) 1 (iv a) hR hS ?_;refine wV 2 (iv i) hR hS ?_;refine wL 3 (iv ((a + i : Nat) : Int)) hR (fun w _ => ev_wrap (by kernel_rfl) (by omega) (by omega)) hS ?_;refine wW 4 (sv g 0 n c) 5 (iv b) hR hS ?_;refine wV 6 (iv i) hR hS ?_;refine wL 7 (iv ((b + i : Nat) : Int)) hR (fun w _ => ev_wrap (by kernel_rfl) (by omega) (by omega)) hS ?_;refine wW 8 (sv g 0 n c) 9 (iv b) hR hS ?_;refine wV 10 (iv i) hR hS ?_;refine wL 11 (iv ((b + i : Nat) : Int)) hR (fun w _ => ev_wrap (by kernel_rfl) (by omega) (by omega)) hS ?_;refine wL 12 (pw g ((b + i) * 7)) hR (fun w _ => ex_index (p := sv g 0 n c) (i := iv ((b + i : Nat) : Int)) rfl (by kernel_rfl) (by kernel_rfl) (ix23z (k := b + i) (by omega))) hS ?_;refine wW 14 (sv g 0 n c) 15 (iv a) hR hS ?_;refine wV 16 (iv i) hR hS ?_;refine wL 17 (iv ((a + i : Nat) : Int)) hR (fun w _ => ev_wrap (by kernel_rfl) (by omega) (by omega)) hS ?_;refine wL 18 (pw g ((a + i) * 7)) hR (fun w _ => ex_index (p := sv g 0 n c) (i := iv ((a + i : Nat) : Int)) rfl (by kernel_rfl) (by kernel_rfl) (ix23z (k := a + i) (by omega))) hS ?_;refine zw 13 19 hR ?_ ?_
   ·
    refine sn_eff (v := rvv (recN l2 (b + i))) (w' := X5) (xl (rl ((C0.ext Bx).ra (i := b + i) (by omega)))) ⟨trivial, ?_⟩;refine wS 19 hR (sn_eff (v := rvv (recN l2 (a + i))) (w' := X5) (ex_load rfl (by kernel_rfl) (rl ((C0.ext Bx).ra (i := a + i) (by omega)))) ⟨trivial, ?_⟩);refine wL 20 (pw g ((a + i) * 7)) hR (fun w _ => ex_index (p := sv g 0 n c) (i := iv ((a + i : Nat) : Int)) rfl (by kernel_rfl) (by kernel_rfl) (ix23z (k := a + i) (by omega))) trivial ?_;have Bh := (C0.ext Bx);have Bb : a + i < l2.length := by omega
    have B0 := Bh.w0 Bb;have B2 := Bh.w1 Bb;have B3 := Bh.w2 Bb;have B4 := Bh.w3 Bb;have B7 := Bh.w4 Bb;have B8 := Bh.w5 Bb;have Ba := Bh.w6 Bb;refine wS 21 hR (sn_setK7 (O := g) (j := (a + i) * 7) (v0 := iv ((recN l2 (b + i)).c : Int)) (v1 := iv ((recN l2 (b + i)).n : Int)) (v2 := iv ((recN l2 (b + i)).t : Int)) (v3 := iv ((recN l2 (b + i)).o : Int)) (v4 := iv ((recN l2 (b + i)).w : Int)) (v5 := iv ((recN l2 (b + i)).k : Int)) (v6 := .string ((recN l2 (b + i)).x)) (ex_store (p := pw g ((a + i) * 7)) (v := rvv (recN l2 (b + i))) rfl (by kernel_rfl) (by kernel_rfl) (st49 B0.1 B0.2 B2.1 B2.2 B3.1 B3.2 B4.1 B4.2 B7.1 B7.2 B8.1 B8.2 Ba.1 Ba.2)) B0 B2 B3 B4 B7 B8 Ba ?_);intro X8 ho Bp Bq Br Bs Bt Bu Bv hk;have Be := RecsW.set (i := a + i) (x := (recN l2 (b + i))) Bh ⟨Bp, Bq, Br, Bs, Bt, Bu, Bv⟩ hk;obtain ⟨l9, Bi⟩ : ∃ q, q = l2.set (a + i) (recN l2 (b + i)) := ⟨_, rfl⟩;rw [← Bi] at Be;have Bn : l9.length = n := by rw [Bi, List.length_set];exact Cb
    replace Bg := Bg.turn ho (.inl (rfl));have C5 := Nat.le_of_eq ho.size.symm;clear ho hk Bb Bp Bq Br Bs Bt Bu Bv B0 B2 B3 B4 B7 B8 Ba;refine ⟨trivial, ?_⟩;refine wL 22 (pw g ((b + i) * 7)) hR (fun w _ => ex_index (p := sv g 0 n c) (i := iv ((b + i : Nat) : Int)) rfl (by kernel_rfl) (by kernel_rfl) (ix23z (k := b + i) (by omega))) trivial ?_;have Bb : b + i < l9.length := by omega
    have B0 := Be.w0 Bb;have B2 := Be.w1 Bb;have B3 := Be.w2 Bb;have B4 := Be.w3 Bb;have B7 := Be.w4 Bb;have B8 := Be.w5 Bb;have Ba := Be.w6 Bb;refine wS 23 hR (sn_setK7 (O := g) (j := (b + i) * 7) (v0 := iv ((recN l2 (a + i)).c : Int)) (v1 := iv ((recN l2 (a + i)).n : Int)) (v2 := iv ((recN l2 (a + i)).t : Int)) (v3 := iv ((recN l2 (a + i)).o : Int)) (v4 := iv ((recN l2 (a + i)).w : Int)) (v5 := iv ((recN l2 (a + i)).k : Int)) (v6 := .string ((recN l2 (a + i)).x)) (ex_store (p := pw g ((b + i) * 7)) (v := rvv (recN l2 (a + i))) rfl (by kernel_rfl) (by kernel_rfl) (st49 B0.1 B0.2 B2.1 B2.2 B3.1 B3.2 B4.1 B4.2 B7.1 B7.2 B8.1 B8.2 Ba.1 Ba.2)) B0 B2 B3 B4 B7 B8 Ba ?_);intro Ce ho Bp Bq Br Bs Bt Bu Bv hk;have Bw := RecsW.set (i := b + i) (x := (recN l2 (a + i))) Be ⟨Bp, Bq, Br, Bs, Bt, Bu, Bv⟩ hk;obtain ⟨Bz, Bj⟩ : ∃ q, q = l9.set (b + i) (recN l2 (a + i)) := ⟨_, rfl⟩;rw [← Bj] at Bw;have Bo : Bz.length = n := by rw [Bj, List.length_set];exact Bn
    replace Bg := Bg.turn ho (.inl (rfl));have C6 := Nat.le_of_eq ho.size.symm;clear ho hk Bb Bp Bq Br Bs Bt Bu Bv B0 B2 B3 B4 B7 B8 Ba;refine ⟨trivial, ?_⟩;refine we hL hR hK ?_;exact zl hJ [0, 1, 2, 3, 10] ⟨l9, Bz, rfl, Bg, Bn, Bi, Bw, Bo, Bj, (T Cc (T C5 C6))⟩
   ·
    refine sn_eff (v := rvv (recN l2 (a + i))) (w' := X5) (xl (rl ((C0.ext Bx).ra (i := a + i) (by omega)))) ⟨trivial, ?_⟩;refine wS 13 hR (sn_eff (v := rvv (recN l2 (b + i))) (w' := X5) (ex_load rfl (by kernel_rfl) (rl ((C0.ext Bx).ra (i := b + i) (by omega)))) ⟨trivial, ?_⟩);refine wL 20 (pw g ((a + i) * 7)) hR (fun w _ => ex_index (p := sv g 0 n c) (i := iv ((a + i : Nat) : Int)) rfl (by kernel_rfl) (by kernel_rfl) (ix23z (k := a + i) (by omega))) trivial ?_;have Bc := (C0.ext Bx);have Bb : a + i < l2.length := by omega
    have B0 := Bc.w0 Bb;have B2 := Bc.w1 Bb;have B3 := Bc.w2 Bb;have B4 := Bc.w3 Bb;have B7 := Bc.w4 Bb;have B8 := Bc.w5 Bb;have Ba := Bc.w6 Bb;refine wS 21 hR (sn_setK7 (O := g) (j := (a + i) * 7) (v0 := iv ((recN l2 (b + i)).c : Int)) (v1 := iv ((recN l2 (b + i)).n : Int)) (v2 := iv ((recN l2 (b + i)).t : Int)) (v3 := iv ((recN l2 (b + i)).o : Int)) (v4 := iv ((recN l2 (b + i)).w : Int)) (v5 := iv ((recN l2 (b + i)).k : Int)) (v6 := .string ((recN l2 (b + i)).x)) (ex_store (p := pw g ((a + i) * 7)) (v := rvv (recN l2 (b + i))) rfl (by kernel_rfl) (by kernel_rfl) (st49 B0.1 B0.2 B2.1 B2.2 B3.1 B3.2 B4.1 B4.2 B7.1 B7.2 B8.1 B8.2 Ba.1 Ba.2)) B0 B2 B3 B4 B7 B8 Ba ?_);intro C9 ho Bp Bq Br Bs Bt Bu Bv hk;have Bf := RecsW.set (i := a + i) (x := (recN l2 (b + i))) Bc ⟨Bp, Bq, Br, Bs, Bt, Bu, Bv⟩ hk;obtain ⟨C3, Bk⟩ : ∃ q, q = l2.set (a + i) (recN l2 (b + i)) := ⟨_, rfl⟩;rw [← Bk] at Bf;have By : C3.length = n := by rw [Bk, List.length_set];exact Cb
    replace Bg := Bg.turn ho (.inl (rfl));have C7 := Nat.le_of_eq ho.size.symm;clear ho hk Bb Bp Bq Br Bs Bt Bu Bv B0 B2 B3 B4 B7 B8 Ba;refine ⟨trivial, ?_⟩;refine wL 22 (pw g ((b + i) * 7)) hR (fun w _ => ex_index (p := sv g 0 n c) (i := iv ((b + i : Nat) : Int)) rfl (by kernel_rfl) (by kernel_rfl) (ix23z (k := b + i) (by omega))) trivial ?_;have Bb : b + i < C3.length := by omega
    have B0 := Bf.w0 Bb;have B2 := Bf.w1 Bb;have B3 := Bf.w2 Bb;have B4 := Bf.w3 Bb;have B7 := Bf.w4 Bb;have B8 := Bf.w5 Bb;have Ba := Bf.w6 Bb;refine wS 23 hR (sn_setK7 (O := g) (j := (b + i) * 7) (v0 := iv ((recN l2 (a + i)).c : Int)) (v1 := iv ((recN l2 (a + i)).n : Int)) (v2 := iv ((recN l2 (a + i)).t : Int)) (v3 := iv ((recN l2 (a + i)).o : Int)) (v4 := iv ((recN l2 (a + i)).w : Int)) (v5 := iv ((recN l2 (a + i)).k : Int)) (v6 := .string ((recN l2 (a + i)).x)) (ex_store (p := pw g ((b + i) * 7)) (v := rvv (recN l2 (a + i))) rfl (by kernel_rfl) (by kernel_rfl) (st49 B0.1 B0.2 B2.1 B2.2 B3.1 B3.2 B4.1 B4.2 B7.1 B7.2 B8.1 B8.2 Ba.1 Ba.2)) B0 B2 B3 B4 B7 B8 Ba ?_);intro Cf ho Bp Bq Br Bs Bt Bu Bv hk;have C1 := RecsW.set (i := b + i) (x := (recN l2 (a + i))) Bf ⟨Bp, Bq, Br, Bs, Bt, Bu, Bv⟩ hk;obtain ⟨Cd, Bm⟩ : ∃ q, q = C3.set (b + i) (recN l2 (a + i)) := ⟨_, rfl⟩;rw [← Bm] at C1;have C2 : Cd.length = n := by rw [Bm, List.length_set];exact By
    replace Bg := Bg.turn ho (.inl (rfl));have C8 := Nat.le_of_eq ho.size.symm;clear ho hk Bb Bp Bq Br Bs Bt Bu Bv B0 B2 B3 B4 B7 B8 Ba;refine ⟨trivial, ?_⟩;refine we hL hR hK ?_;exact zl hJ [0, 1, 2, 3, 10] ⟨C3, Cd, rfl, Bg, By, Bk, C1, C2, Bm, (T Cc (T C7 C8))⟩
  ·
   clear Bg Bx;rintro L ws Ca ⟨l9, Bz, rfl, Bg, Bn, Bi, Bw, Bo, Bj, C4⟩;have Cg := Ext.refl Ca;refine qw_block (zq (zp (pT (iv i) ?_)));refine pU (iv ((i + 1 : Nat) : Int)) (ew (by omega) (by omega)) ?_;refine pT (iv ((i + 1 : Nat) : Int)) ?_;refine pl_nil (qw_round [0, 1, 2, 3, 10] (ws' := [(0, sv g 0 n c), (1, iv a), (2, iv b), (3, iv mm), (10, iv ((i + 1 : Nat) : Int))]) (by kernel_rfl) _ ?_ ⟨(i + 1), Bz, rfl, rfl, (T Ch C4), Bg, Bw, by omega, Bo, (by rw [Bj, Bi, hs]; rfl)⟩);omega
 ·
  have hin : i = mm := by omega
  refine zc (zc (zp (pD (iv i) (iv mm) ?_)));refine pU (.bool false) (en (((i : Nat) : Int) < ((mm : Nat) : Int)) (by omega)) ?_;refine zn (zf ?_);refine cw_exit (qw_then_exit (qw_then_exit (qw_block_out (qw_end [] rfl trivial ?_))));exact ⟨rfl, by rw [← hin, ← hs]; exact C0, Bg⟩
end Go.Proofs.YtfmoabgjaclkpaaGreatDoor

namespace Go.Proofs.YtfmoabgjaclkpaaGreatDoor
theorem recN_get {l : List Rec} {i : Nat} (h : i < l.length) : recN l i = l[i] := by unfold recN; rw [List.getElem?_eq_getElem h]; rfl
namespace Rep
theorem rec_ext {l l' : List Rec} (h : l.length = l'.length) (k : ∀ i, i < l.length → recN l i = recN l' i) : l = l' :=
 List.ext_getElem h fun i h1 h2 => by rw [← recN_get h1, ← recN_get h2]; exact k i h1
def le (x y : Rec) : Prop := ¬ ltL y x
theorem le_refl (x : Rec) : le x x := by unfold le ltL; omega
theorem le_trans {x y z : Rec} (h : le x y) (k : le y z) : le x z := by unfold le ltL at *; omega
theorem le_of_lt {x y : Rec} (h : ltL x y) : le x y := by unfold le ltL at *; omega
structure Mvd (l l' : List Rec) (a b : Nat) : Prop where
 perm : l'.Perm l
 out : ∀ k, k < a ∨ b ≤ k → recN l' k = recN l k
 img : ∀ k, a ≤ k → k < b → ∃ j, a ≤ j ∧ j < b ∧ recN l' k = recN l j
theorem Mvd.len {l l' : List Rec} {a b : Nat} (h : Mvd l l' a b) : l'.length = l.length := h.perm.length_eq
theorem Mvd.refl (l : List Rec) (a b : Nat) : Mvd l l a b := ⟨.refl _, fun _ _ => rfl, fun k h1 h2 => ⟨k, h1, h2, rfl⟩⟩
theorem Mvd.trans {l l' l'' : List Rec} {a b : Nat} (h : Mvd l l' a b) (k : Mvd l' l'' a b) : Mvd l l'' a b :=
 ⟨k.perm.trans h.perm, fun i hi => (k.out i hi).trans (h.out i hi), fun i h1 h2 => by
  obtain ⟨j, j1, j2, e⟩ := k.img i h1 h2
  obtain ⟨q, q1, q2, e'⟩ := h.img j j1 j2
  exact ⟨q, q1, q2, e.trans e'⟩⟩
theorem Mvd.wide {l l' : List Rec} {a b a' b' : Nat} (h : Mvd l l' a b) (ha : a' ≤ a) (hb : b ≤ b') : Mvd l l' a' b' :=
  ⟨h.perm, fun k hk => h.out k (by omega), fun k h1 h2 => by
    rcases Nat.lt_or_ge k a with q | q
    · exact ⟨k, h1, h2, h.out k (.inl q)⟩
    · rcases Nat.lt_or_ge k b with q2 | q2
      · obtain ⟨j, j1, j2, e⟩ := h.img k q q2
        exact ⟨j, by omega, by omega, e⟩
      · exact ⟨k, h1, h2, h.out k (.inr q2)⟩⟩
theorem swap_at {l : List Rec} {i j k : Nat} (hi : i < l.length) (hj : j < l.length) : recN ((l.set i (recN l j)).set j (recN l i)) k = if j = k then recN l i else if i = k then recN l j else recN l k := by
  rw [recN_set, recN_set, List.length_set]
  by_cases h : j = k
  · rw [if_pos ⟨h, hj⟩, if_pos h]
  · rw [if_neg (fun q => h q.1), if_neg h]
    by_cases h2 : i = k
    · rw [if_pos ⟨h2, hi⟩, if_pos h2]
    · rw [if_neg (fun q => h2 q.1), if_neg h2]
theorem Mvd.swap {l : List Rec} {a b i j : Nat} (hb : b ≤ l.length) (h1 : a ≤ i) (h2 : i < b) (h3 : a ≤ j) (h4 : j < b) : Mvd l ((l.set i (recN l j)).set j (recN l i)) a b := by
  have hi : i < l.length := by omega
  have hj : j < l.length := by omega
  refine ⟨?_, fun k hk => ?_, fun k k1 k2 => ?_⟩
  · rw [recN_get hi, recN_get hj]; exact List.set_set_perm hi hj
  · rw [swap_at hi hj, if_neg (by omega), if_neg (by omega)]
  · rw [swap_at hi hj]
    split
    · exact ⟨i, h1, h2, rfl⟩
    · split
      · exact ⟨j, h3, h4, rfl⟩
      · exact ⟨k, k1, k2, rfl⟩
theorem swR_at (l : List Rec) {a b : Nat} : ∀ m, a + m ≤ b → b + m ≤ l.length → ∀ k, recN (swR l a b m) k = if a ≤ k ∧ k < a + m then recN l (b + (k - a)) else if b ≤ k ∧ k < b + m then recN l (a + (k - b)) else recN l k
  | 0, _, _, k => by rw [if_neg (by omega), if_neg (by omega)]; rfl
  | m + 1, h1, h2, k => by
    have ih := swR_at l (a := a) (b := b) m (by omega) (by omega)
    unfold swR
    rw [swap_at (by rw [swR_len]; omega) (by rw [swR_len]; omega), ih k, ih (a + m), ih (b + m), if_neg (show ¬ (a ≤ a + m ∧ a + m < a + m) by omega), if_neg (show ¬ (b ≤ a + m ∧ a + m < b + m) by omega), if_neg (show ¬ (a ≤ b + m ∧ b + m < a + m) by omega), if_neg (show ¬ (b ≤ b + m ∧ b + m < b + m) by omega)]
    by_cases c1 : b + m = k
    · rw [if_pos c1, if_neg (by omega), if_pos (by omega)]; exact congrArg (recN l) (by omega)
    · rw [if_neg c1]
      by_cases c2 : a + m = k
      · rw [if_pos c2, if_pos (by omega)]; exact congrArg (recN l) (by omega)
      · rw [if_neg c2]
        repeat' split
        all_goals first | rfl | exact congrArg (recN l) (by omega) | (exfalso; omega)
theorem swR_mvd (l : List Rec) {a b : Nat} : ∀ m, a + m ≤ b → b + m ≤ l.length → Mvd l (swR l a b m) a (b + m)
 | 0, _, _ => Mvd.refl _ _ _
 | m + 1, h1, h2 => by
  have ih := (swR_mvd l (a := a) (b := b) m (by omega) (by omega)).wide (a' := a) (b' := b + (m + 1)) (Nat.le_refl _) (by omega)
  unfold swR
  exact ih.trans (Mvd.swap (i := a + m) (j := b + m) (by rw [swR_len]; omega) (by omega) (by omega) (by omega) (by omega))
def rotA (a m b k : Nat) : Nat := if a ≤ k ∧ k < a + (b - m) then m + (k - a) else if a + (b - m) ≤ k ∧ k < b then a + (k - a - (b - m)) else k
structure Rot (l l' : List Rec) (a m b : Nat) : Prop where
 mvd : Mvd l l' a b
 at_ : ∀ k, recN l' k = recN l (rotA a m b k)
theorem rot_none (l : List Rec) {a m b : Nat} (ha : a ≤ m) (hb : m ≤ b) (h : a = m ∨ m = b) : Rot l l a m b := ⟨Mvd.refl _ _ _, fun k => congrArg (recN l) (by unfold rotA; split <;> (try split) <;> omega)⟩
theorem rot_one {cur l' : List Rec} {m i j : Nat} (h : j < i) (hi : i ≤ m) (hj : m + j ≤ cur.length) (k : Rot (swR cur (m - i) m j) l' (m - (i - j)) m (m + j)) : Rot cur l' (m - i) m (m + j) :=
 ⟨(swR_mvd cur j (by omega) hj).trans (k.mvd.wide (by omega) (Nat.le_refl _)), fun q => by
  rw [k.at_, swR_at cur j (by omega) hj]
  unfold rotA
  repeat' split
  all_goals first | exact congrArg (recN cur) (by omega) | (exfalso; omega)⟩
theorem rot_two {cur l' : List Rec} {m i j : Nat} (h : i < j) (hi : i ≤ m) (hj : m + j ≤ cur.length) (k : Rot (swR cur (m - i) (m + j - i) i) l' (m - i) m (m + (j - i))) : Rot cur l' (m - i) m (m + j) :=
 ⟨(by have q := swR_mvd cur (a := m - i) (b := m + j - i) i (by omega) (by omega); rw [show m + j - i + i = m + j by omega] at q; exact q.trans (k.mvd.wide (Nat.le_refl _) (by omega))), fun q => by
  rw [k.at_, swR_at cur i (by omega) (by omega)]
  unfold rotA
  repeat' split
  all_goals first | exact congrArg (recN cur) (by omega) | (exfalso; omega)⟩
theorem rot_end {cur : List Rec} {m i : Nat} (hi : i ≤ m) (hj : m + i ≤ cur.length) : Rot cur (swR cur (m - i) m i) (m - i) m (m + i) :=
 ⟨swR_mvd cur i (by omega) hj, fun q => by
  rw [swR_at cur i (by omega) hj]
  unfold rotA
  repeat' split
  all_goals first | exact congrArg (recN cur) (by omega) | (exfalso; omega)⟩
def Sd (l : List Rec) (a b : Nat) : Prop := ∀ i j, a ≤ i → i < j → j < b → le (recN l i) (recN l j)
theorem Sd.le {l : List Rec} {a b i j : Nat} (h : Sd l a b) (h1 : a ≤ i) (h2 : i ≤ j) (h3 : j < b) : le (recN l i) (recN l j) := by
  rcases Nat.lt_or_ge i j with q | q
  · exact h i j h1 q h3
  · obtain rfl : i = j := by omega
    exact le_refl _
theorem Sd.sub {l : List Rec} {a b a' b' : Nat} (h : Sd l a b) (h1 : a ≤ a') (h2 : b' ≤ b) : Sd l a' b' := fun i j q1 q2 q3 => h i j (by omega) q2 (by omega)
theorem Sd.one (l : List Rec) {a b : Nat} (h : b ≤ a + 1) : Sd l a b := fun i j q1 q2 q3 => by omega
theorem Sd.out {l l' : List Rec} {a b c d : Nat} (h : Sd l a b) (k : Mvd l l' c d) (hd : b ≤ c ∨ d ≤ a) : Sd l' a b := fun i j q1 q2 q3 => by
 rw [k.out i (by omega), k.out j (by omega)]; exact h i j q1 q2 q3
structure Mgd (l l' : List Rec) (a b : Nat) : Prop where
 mvd : Mvd l l' a b
 sd : Sd l' a b
section
variable {l l1 : List Rec} {a m b s e : Nat} (hA : Sd l a m) (hB : Sd l m b) (h1 : a ≤ s) (h2 : s ≤ m) (h3 : m ≤ e) (h4 : e ≤ b) (hr : Rot l l1 s m e)
include hr in
theorem rot_lo {k : Nat} (hk : k < s) : recN l1 k = recN l k := hr.mvd.out k (.inl hk)
include hA h2 hr in
theorem sd_1 : Sd l1 a s := fun i j q1 q2 q3 => by rw [rot_lo hr (by omega), rot_lo hr q3]; exact hA i j q1 q2 (by omega)
include hB h4 hr in
theorem sd_2 : Sd l1 s (s + (e - m)) := fun i j q1 q2 q3 => by
 rw [hr.at_ i, hr.at_ j]
 unfold rotA
 rw [if_pos (by omega), if_pos (by omega)]
 exact hB _ _ (by omega) (by omega) (by omega)
include hA h1 hr in
theorem sd_3 : Sd l1 (s + (e - m)) e := fun i j q1 q2 q3 => by
 rw [hr.at_ i, hr.at_ j]
 unfold rotA
 rw [if_neg (by omega), if_pos (by omega), if_neg (by omega), if_pos (by omega)]
 exact hA _ _ (by omega) (by omega) (by omega)
include hB h3 hr in
theorem sd_4 : Sd l1 e b := fun i j q1 q2 q3 => by
 rw [hr.mvd.out i (.inr q1), hr.mvd.out j (.inr (by omega))]; exact hB i j (by omega) q2 q3
include hA hB h1 h2 h3 h4 hr in
theorem sym_join {l2 l3 : List Rec} (hx1 : s = a ∨ e = b ∨ le (recN l (s - 1)) (recN l e)) (hx2 : s = m ∨ e = m ∨ le (recN l (e - 1)) (recN l s)) (g2 : Mgd l1 l2 a (s + (e - m))) (g3 : Mgd l2 l3 (s + (e - m)) b) : Mgd l l3 a b := by
  have key : ∀ p q, (a ≤ p ∧ p < s ∨ m ≤ p ∧ p < e) → (s ≤ q ∧ q < m ∨ e ≤ q ∧ q < b) → le (recN l p) (recN l q) := by
    intro p q hp hq
    rcases hp with hp | hp
    · rcases hq with hq | hq
      · exact hA p q hp.1 (by omega) hq.2
      · have k1 := hA.le (i := p) (j := s - 1) hp.1 (by omega) (by omega)
        have k2 := hB.le (i := e) (j := q) (by omega) hq.1 hq.2
        rcases hx1 with x | x | x
        · omega
        · omega
        · exact le_trans k1 (le_trans x k2)
    · rcases hq with hq | hq
      · have k1 := hB.le (i := p) (j := e - 1) hp.1 (by omega) (by omega)
        have k2 := hA.le (i := s) (j := q) (by omega) hq.1 hq.2
        rcases hx2 with x | x | x
        · omega
        · omega
        · exact le_trans k1 (le_trans x k2)
      · exact hB p q hp.1 (by omega) hq.2
  refine ⟨(hr.mvd.wide h1 h4).trans ((g2.mvd.wide (Nat.le_refl _) (by omega)).trans (g3.mvd.wide (by omega) (Nat.le_refl _))), fun i j q1 q2 q3 => ?_⟩
  rcases Nat.lt_or_ge j (s + (e - m)) with c | c
  · rw [g3.mvd.out i (.inl (by omega)), g3.mvd.out j (.inl c)]; exact g2.sd i j q1 q2 c
  · rcases Nat.lt_or_ge i (s + (e - m)) with d | d
    · rw [g3.mvd.out i (.inl d)]
      obtain ⟨p, p1, p2, ep⟩ := g2.mvd.img i q1 d
      obtain ⟨q, z1, z2, eq⟩ := g3.mvd.img j c q3
      rw [ep, eq, g2.mvd.out q (.inr z1), hr.at_ p, hr.at_ q]
      refine key _ _ ?_ ?_ <;> unfold rotA <;> (repeat' split) <;> omega
    · exact g3.sd i j d q2 q3
end
structure Up (l cur : List Rec) (a k b : Nat) : Prop where
 mvd : Mvd l cur a b
 at_ : ∀ q, recN cur q = if a ≤ q ∧ q < k then recN l (q + 1) else if q = k then recN l a else recN l q
theorem Up.start (l : List Rec) (a b : Nat) : Up l l a a b := ⟨Mvd.refl _ _ _, fun q => by rw [if_neg (by omega)]; split <;> (try subst_vars) <;> rfl⟩
theorem Up.step {l cur : List Rec} {a k b : Nat} (h : Up l cur a k b) (hk : a ≤ k) (hb : k + 1 < b) (hl : b ≤ l.length) : Up l ((cur.set k (recN cur (k + 1))).set (k + 1) (recN cur k)) a (k + 1) b := by
 have hlen := h.mvd.len
 refine ⟨h.mvd.trans (Mvd.swap (by omega) hk (by omega) (by omega) hb), fun q => ?_⟩
 rw [swap_at (by omega) (by omega), h.at_ k, h.at_ (k + 1), h.at_ q]
 repeat' split
 all_goals first | (exact congrArg (recN l) (by omega)) | (exfalso; omega)
theorem Up.done {l cur : List Rec} {a i b : Nat} (h : Up l cur a (i - 1) b) (hB : Sd l (a + 1) b) (h1 : a + 1 ≤ i) (h2 : i ≤ b) (hx1 : i = a + 1 ∨ ltL (recN l (i - 1)) (recN l a)) (hx2 : i = b ∨ ¬ ltL (recN l i) (recN l a)) : Mgd l cur a b := by
 refine ⟨h.mvd, fun p q q1 q2 q3 => ?_⟩
 rw [h.at_ p, h.at_ q]
 have lo : ∀ z, a + 1 ≤ z → z < i → le (recN l z) (recN l a) := fun z z1 z2 => by
  rcases hx1 with x | x
  · omega
  · exact le_trans (hB.le (i := z) (j := i - 1) z1 (by omega) (by omega)) (le_of_lt x)
 have hi : ∀ z, i ≤ z → z < b → le (recN l a) (recN l z) := fun z z1 z2 => by
  rcases hx2 with x | x
  · omega
  · exact le_trans x (hB.le (i := i) (j := z) (by omega) z1 z2)
 repeat' split
 all_goals first | (exfalso; omega) | skip
 · exact hB _ _ (by omega) (by omega) (by omega)
 · exact lo _ (by omega) (by omega)
 · exact le_trans (lo _ (by omega) (by omega)) (hi _ (by omega) (by omega))
 · exact hi _ (by omega) (by omega)
 · exact hB _ _ (by omega) q2 q3
structure Down (l cur : List Rec) (a k m : Nat) : Prop where
 mvd : Mvd l cur a (m + 1)
 at_ : ∀ q, recN cur q = if k < q ∧ q ≤ m then recN l (q - 1) else if q = k then recN l m else recN l q
theorem Down.start (l : List Rec) (a m : Nat) : Down l l a m m := ⟨Mvd.refl _ _ _, fun q => by rw [if_neg (by omega)]; split <;> (try subst_vars) <;> rfl⟩
theorem Down.step {l cur : List Rec} {a k m : Nat} (h : Down l cur a k m) (hk : a < k) (hm : k ≤ m) (hl : m < l.length) : Down l ((cur.set k (recN cur (k - 1))).set (k - 1) (recN cur k)) a (k - 1) m := by
 have hlen := h.mvd.len
 refine ⟨h.mvd.trans (Mvd.swap (by omega) (by omega) (by omega) (by omega) (by omega)), fun q => ?_⟩
 rw [swap_at (by omega) (by omega), h.at_ k, h.at_ (k - 1), h.at_ q]
 repeat' split
 all_goals first | (exact congrArg (recN l) (by omega)) | (exfalso; omega)
theorem Down.done {l cur : List Rec} {a i m : Nat} (h : Down l cur a i m) (hA : Sd l a m) (h1 : a ≤ i) (h2 : i ≤ m) (hx1 : i = a ∨ ¬ ltL (recN l m) (recN l (i - 1))) (hx2 : i = m ∨ ltL (recN l m) (recN l i)) : Mgd l cur a (m + 1) := by
 refine ⟨h.mvd, fun p q q1 q2 q3 => ?_⟩
 rw [h.at_ p, h.at_ q]
 have lo : ∀ z, a ≤ z → z < i → le (recN l z) (recN l m) := fun z z1 z2 => by
  rcases hx1 with x | x
  · omega
  · exact le_trans (hA.le (i := z) (j := i - 1) z1 (by omega) (by omega)) x
 have hi : ∀ z, i ≤ z → z < m → le (recN l m) (recN l z) := fun z z1 z2 => by
  rcases hx2 with x | x
  · omega
  · exact le_trans (le_of_lt x) (hA.le (i := i) (j := z) (by omega) z1 z2)
 repeat' split
 all_goals first | (exfalso; omega) | skip
 · exact hA _ _ (by omega) (by omega) (by omega)
 · exact hi _ (by omega) (by omega)
 · exact hA.le (by omega) (by omega) (by omega)
 · exact lo _ (by omega) (by omega)
 · exact hA _ _ (by omega) q2 (by omega)
end Rep
end Go.Proofs.YtfmoabgjaclkpaaGreatDoor

namespace Go.Proofs.YtfmoabgjaclkpaaGreatDoor
set_option maxRecDepth 1000000
set_option maxHeartbeats 4000000
set_option synthInstance.maxHeartbeats 0
set_option synthInstance.maxSize 9999
open Go.RowKit
theorem ev_wrapN {w : World} {r : Result Next} {a : Int} {k : Nat} (h : r = .ok (.value (.int .i64 (IntKind.i64.wrap a))) w) (h0 : a = (k : Int)) (h1 : (k : Int) ≤ 9223372036854775807) : r = .ok (.value (.int .i64 k)) w := by
 subst h0; exact ev_wrap h (by omega) h1
theorem rotate_c {a m1 b : Nat} {g n c : Nat} {l : List Rec} (w : World) (hRc : RecsW w g l) (hl : l.length = n) (hg : g < w.heap.size) (hn : n ≤ 1000) (h1 : a < m1) (h2 : m1 < b) (h3 : b ≤ n) : Calls Tryz.prog 126 #[sv g 0 n c, iv a, iv m1, iv b, .func (.func 51) #[] #[]] w fun e w' => e = .returned (.tuple #[]) ∧ ∃ l', RecsW w' g l' ∧ Rep.Rot l l' a m1 b ∧ Wrote (fun k => k = g) w w' := by
 have B0 : Wrote (fun k => k = g) w w := Wrote.refl _ _;refine calls_cw 58 [(4, .func (.func 51) #[] #[]), (3, iv b), (2, iv m1), (1, iv a), (0, sv g 0 n c)] Tryz.func126 rfl Tryz.ntmps126 (by kernel_rfl) (by kernel_rfl) (fun L => ?_);have hE := Ext.refl w;refine zc (zp (pD (iv m1) (iv a) ?_));refine pU (iv ((m1 - a : Nat) : Int)) (ev_wrapN (a := ((m1 : Nat) : Int) - ((a : Nat) : Int)) (k := m1 - a) (by kernel_rfl) (by omega) (by omega)) ?_;refine pT (iv ((m1 - a : Nat) : Int)) ?_;refine zn (zc (zp (pD (iv b) (iv m1) ?_)));refine pU (iv ((b - m1 : Nat) : Int)) (ev_wrapN (a := ((b : Nat) : Int) - ((m1 : Nat) : Int)) (k := b - m1) (by kernel_rfl) (by omega) (by omega)) ?_;refine pT (iv ((b - m1 : Nat) : Int)) ?_;refine zn (zc (cw_block ?_));refine cw_loop [0, 2, 4, 10, 11] (fun ws' wr m => ∃ i j : Nat, ∃ l2 : List Rec, ws' = [(0, sv g 0 n c), (2, iv m1), (4, .func (.func 51) #[] #[]), (10, iv i), (11, iv j)] ∧ m = i + j ∧ w.heap.size ≤ wr.heap.size ∧ Wrote (fun k => k = g) w wr ∧ RecsW wr g l2 ∧ 0 < i ∧ 0 < j ∧ i ≤ m1 ∧ m1 + j ≤ n ∧ l2.length = n ∧ (∀ l', Rep.Rot l2 l' (m1 - i) m1 (m1 + j) → Rep.Rot l l' a m1 b)) (ws0 := [(0, sv g 0 n c), (2, iv m1), (4, .func (.func 51) #[] #[]), (10, iv ((m1 - a : Nat) : Int)), (11, iv ((b - m1 : Nat) : Int))]) (by kernel_rfl) _ ⟨(m1 - a), (b - m1), l, rfl, rfl, Nat.le_refl _, B0, hRc, by omega, by omega, by omega, by omega, hl, (fun l' k => by rw [show m1 - (m1 - a) = a by omega, show m1 + (b - m1) = b by omega] at k; exact k)⟩ ?_;clear B0 hRc;rintro m3 L ws w2 ⟨i, j, l2, rfl, rfl, Be, B0, B7, Bs, Bt, hi, hj, B8, hI⟩;have Br := Ext.refl w2;rcases Nat.lt_trichotomy i j with hlt | heq | hlt
 ·
  refine zc (zc (zp (pD (iv i) (iv j) ?_)));refine pU (.bool true) (eM ((i : Nat) : Int) ((j : Nat) : Int) (by omega)) ?_;refine zn (zt ?_);refine cw_skip (zq (cw_block ?_));refine zc (zp (pD (iv i) (iv j) ?_));refine pU (.bool false) (en (((i : Nat) : Int) > ((j : Nat) : Int)) (by omega)) ?_;refine zn (zf ?_);refine zc (zp (pD (sv g 0 n c) (iv m1) ?_));refine pT (iv i) ?_;refine pU (iv ((m1 - i : Nat) : Int)) (ev_wrapN (a := ((m1 : Nat) : Int) - ((i : Nat) : Int)) (k := m1 - i) (by kernel_rfl) (by omega) (by omega)) ?_;refine pD (iv m1) (iv j) ?_;refine pU (iv ((m1 + j : Nat) : Int)) (ew (by omega) (by omega)) ?_;refine pT (iv i) ?_;refine pU (iv ((m1 + j - i : Nat) : Int)) (ev_wrapN (a := ((m1 + j : Nat) : Int) - ((i : Nat) : Int)) (k := m1 + j - i) (by kernel_rfl) (by omega) (by omega)) ?_;refine pD (iv i) (.func (.func 51) #[] #[]) ?_;have Bo := B7;refine pS (sc 128 #[sv g 0 n c, iv ((m1 - i : Nat) : Int), iv ((m1 + j - i : Nat) : Int), iv i, .func (.func 51) #[] #[]] ((swapRange_c (a := m1 - i) (b := m1 + j - i) (mm := i) _ B7 B8 (Nat.lt_of_lt_of_le hg Be) hn (by omega) (by omega)).mono ?_));rintro e Bu ⟨rfl, Bi, hw⟩;replace B0 := B0.wrote hw (fun k hk => (show k = g from hk) ▸ (.inl (rfl)));have Bg := hw.size;obtain ⟨l7, B4⟩ : ∃ q, q = Rep.swR l2 (m1 - i) (m1 + j - i) i := ⟨_, rfl⟩;rw [← B4] at Bi;have Bf : l7.length = n := by rw [B4, Rep.swR_len];exact B8
  refine ⟨_, rfl, ?_⟩;refine zn (cK [0,2,4,10,11] (fun L => ?_));refine zp (pD (iv j) (iv i) ?_);refine pU (iv ((j - i : Nat) : Int)) (ev_wrapN (a := ((j : Nat) : Int) - ((i : Nat) : Int)) (k := j - i) (by kernel_rfl) (by omega) (by omega)) ?_;refine pT (iv ((j - i : Nat) : Int)) ?_;refine pl_nil (qw_block (qw_round [0, 2, 4, 10, 11] (ws' := [(0, sv g 0 n c), (2, iv m1), (4, .func (.func 51) #[] #[]), (10, iv i), (11, iv ((j - i : Nat) : Int))]) (by kernel_rfl) _ ?_ ⟨i, (j - i), l7, rfl, rfl, (T Be Bg), B0, Bi, by omega, by omega, by omega, by omega, Bf, (fun l' k => hI l' (Rep.rot_two hlt (by omega) (by omega) (by rw [← B4]; exact k)))⟩));omega
 ·
  refine zc (zc (zp (pD (iv i) (iv j) ?_)));refine pU (.bool false) (ev_nne (show _ = Result.ok (Next.value (Value.bool (((i : Nat) : Int) != ((j : Nat) : Int)))) _ from by kernel_rfl) (by omega)) ?_;refine zn (zf ?_);refine cw_exit (qw_then_exit (qw_then_exit (qw_block_out (zq (zp (pD (sv g 0 n c) (iv m1) ?_))))));refine pT (iv i) ?_;refine pU (iv ((m1 - i : Nat) : Int)) (ev_wrapN (a := ((m1 : Nat) : Int) - ((i : Nat) : Int)) (k := m1 - i) (by kernel_rfl) (by omega) (by omega)) ?_;refine pD (iv m1) (iv i) ?_;refine pT (.func (.func 51) #[] #[]) ?_;have Bj := B7;refine pS (sc 128 #[sv g 0 n c, iv ((m1 - i : Nat) : Int), iv m1, iv i, .func (.func 51) #[] #[]] ((swapRange_c (a := m1 - i) (b := m1) (mm := i) _ B7 B8 (Nat.lt_of_lt_of_le hg Be) hn (by omega) (by omega)).mono ?_));rintro e Bv ⟨rfl, Ba, hw⟩;replace B0 := B0.wrote hw (fun k hk => (show k = g from hk) ▸ (.inl (rfl)));have Bp := hw.size;obtain ⟨Bq, B2⟩ : ∃ q, q = Rep.swR l2 (m1 - i) m1 i := ⟨_, rfl⟩;rw [← B2] at Ba;have Bm : Bq.length = n := by rw [B2, Rep.swR_len];exact B8
  refine ⟨_, rfl, ?_⟩;refine pl_nil (qw_end [] rfl trivial ?_);subst heq;exact ⟨rfl, _, Ba, hI _ (by rw [B2]; exact Rep.rot_end (by omega) (by omega)), B0⟩
 ·
  refine zc (zc (zp (pD (iv i) (iv j) ?_)));refine pU (.bool true) (eM ((i : Nat) : Int) ((j : Nat) : Int) (by omega)) ?_;refine zn (zt ?_);refine cw_skip (zq (cw_block ?_));refine zc (zp (pD (iv i) (iv j) ?_));refine pU (.bool true) (ed (((i : Nat) : Int) > ((j : Nat) : Int)) (by omega)) ?_;refine zn (zt ?_);refine zc (zp (pD (sv g 0 n c) (iv m1) ?_));refine pT (iv i) ?_;refine pU (iv ((m1 - i : Nat) : Int)) (ev_wrapN (a := ((m1 : Nat) : Int) - ((i : Nat) : Int)) (k := m1 - i) (by kernel_rfl) (by omega) (by omega)) ?_;refine pD (iv m1) (iv j) ?_;refine pT (.func (.func 51) #[] #[]) ?_;have Bk := B7;refine pS (sc 128 #[sv g 0 n c, iv ((m1 - i : Nat) : Int), iv m1, iv j, .func (.func 51) #[] #[]] ((swapRange_c (a := m1 - i) (b := m1) (mm := j) _ B7 B8 (Nat.lt_of_lt_of_le hg Be) hn (by omega) (by omega)).mono ?_));rintro e Bw ⟨rfl, Bb, hw⟩;replace B0 := B0.wrote hw (fun k hk => (show k = g from hk) ▸ (.inl (rfl)));have Bh := hw.size;obtain ⟨Bn, B3⟩ : ∃ q, q = Rep.swR l2 (m1 - i) m1 j := ⟨_, rfl⟩;rw [← B3] at Bb;have Bc : Bn.length = n := by rw [B3, Rep.swR_len];exact B8
  refine ⟨_, rfl, ?_⟩;refine zn (cK [0,2,4,10,11] (fun L => ?_));refine zp (pD (iv i) (iv j) ?_);refine pU (iv ((i - j : Nat) : Int)) (ev_wrapN (a := ((i : Nat) : Int) - ((j : Nat) : Int)) (k := i - j) (by kernel_rfl) (by omega) (by omega)) ?_;refine pT (iv ((i - j : Nat) : Int)) ?_;refine pl_nil (qw_block (qw_round [0, 2, 4, 10, 11] (ws' := [(0, sv g 0 n c), (2, iv m1), (4, .func (.func 51) #[] #[]), (10, iv ((i - j : Nat) : Int)), (11, iv j)]) (by kernel_rfl) _ ?_ ⟨(i - j), j, Bn, rfl, rfl, (T Be Bh), B0, Bb, by omega, by omega, by omega, by omega, Bc, (fun l' k => hI l' (Rep.rot_one hlt (by omega) (by omega) (by rw [← B3]; exact k)))⟩));omega
end Go.Proofs.YtfmoabgjaclkpaaGreatDoor

namespace Go.Proofs.YtfmoabgjaclkpaaGreatDoor
set_option maxRecDepth 1000000
set_option maxHeartbeats 4000000
set_option synthInstance.maxHeartbeats 0
set_option synthInstance.maxSize 9999
open Go.RowKit
def Tz19_0 : List Row := [(some 18, [9], []), (some 19, [1], []), (some 20, [18, 19], [0, 1]), (some 21, [20], [2]), (some 22, [3, 21], [3]), (some 23, [0, 21], [3]), (some 24, [9, 21], [3]), (some 25, [23, 24, 21], [5, 6, 3]), (some 26, [25, 21], [7, 3]), (some 27, [0, 21], [3]), (some 28, [9, 21], [3]), (some 29, [28, 21], [10, 3]), (some 30, [27, 29, 21], [9, 11, 3]), (some 31, [30, 21], [12, 3]), (some 32, [22, 26, 31, 21], [4, 8, 13, 3, 3]), (some 33, [32, 21], [14, 3]), (some 34, [21, 33], [3, 15])]
def Tz19_1 : List Row := [(some 37, [0], []), (some 38, [9], []), (some 39, [0], []), (some 40, [9], []), (some 41, [40], [3]), (some 42, [0], []), (some 43, [9], []), (some 44, [43], [6]), (some 45, [42, 44], [5, 7]), (some 46, [45], [8]), (some 47, [0], []), (some 48, [9], []), (some 49, [47, 48], [10, 11]), (some 50, [49], [12]), (some 51, [37, 38], [0, 1, 0, 1, 5, 6, 7, 8, 9, 13]), (none, [51, 46], [14, 9, 0, 1, 5, 6, 7, 8, 9, 13]), (some 52, [39, 41], [2, 4, 0, 1, 2, 3, 4, 5, 6, 7, 8, 9, 10, 11, 12, 13, 14, 15]), (none, [52, 50], [16, 13, 15, 0, 1, 2, 3, 4, 5, 6, 7, 8, 9, 10, 11, 12, 13, 14, 15])]
namespace Rep
theorem Down.head {l cur : List Rec} {a k m : Nat} (h : Down l cur a k m) : recN cur k = recN l m := by rw [h.at_, if_neg (by omega), if_pos rfl]
theorem Down.low {l cur : List Rec} {a k m q : Nat} (h : Down l cur a k m) (hq : q < k) : recN cur q = recN l q := by rw [h.at_, if_neg (by omega), if_neg (by omega)]
end Rep
theorem insertion_c {a b : Nat} {g n c : Nat} {l : List Rec} (w : World) (hRc : RecsW w g l) (hl : l.length = n) (_hg : g < w.heap.size) (hn : n ≤ 1000) (h1 : a ≤ b) (h2 : b ≤ n) : Calls Tryz.prog 108 #[sv g 0 n c, iv a, iv b, .func (.func 51) #[] #[]] w fun e w' => e = .returned (.tuple #[]) ∧ ∃ l', RecsW w' g l' ∧ Rep.Mgd l l' a b ∧ Wrote (fun k => k = g) w w' := by
 have Bc : Wrote (fun k => k = g) w w := Wrote.refl _ _;refine calls_cw 53 [(3, .func (.func 51) #[] #[]), (2, iv b), (1, iv a), (0, sv g 0 n c)] Tryz.func108 rfl Tryz.ntmps108 (by kernel_rfl) (by kernel_rfl) (fun L => ?_);have hE := Ext.refl w;refine zc (zp (pT (iv a) ?_));refine pU (iv ((a + 1 : Nat) : Int)) (ew (by omega) (by omega)) ?_;refine pT (iv ((a + 1 : Nat) : Int)) ?_;refine zn (cw_block ?_);refine cw_loop [0, 1, 2, 3, 8] (fun ws' wr m => ∃ i : Nat, ∃ l2 : List Rec, ws' = [(0, sv g 0 n c), (1, iv a), (2, iv b), (3, .func (.func 51) #[] #[]), (8, iv i)] ∧ m = b - i ∧ w.heap.size ≤ wr.heap.size ∧ Wrote (fun k => k = g) w wr ∧ RecsW wr g l2 ∧ (i ≤ b ∨ i = a + 1) ∧ a + 1 ≤ i ∧ l2.length = n ∧ Rep.Mvd l l2 a b ∧ Rep.Sd l2 a i) (ws0 := [(0, sv g 0 n c), (1, iv a), (2, iv b), (3, .func (.func 51) #[] #[]), (8, iv ((a + 1 : Nat) : Int))]) (by kernel_rfl) _ ⟨(a + 1), l, rfl, rfl, Nat.le_refl _, Bc, hRc, .inr rfl, Nat.le_refl _, hl, Rep.Mvd.refl _ _ _, Rep.Sd.one _ (Nat.le_refl _)⟩ ?_;clear Bc hRc;rintro m3 L ws w2 ⟨i, l2, rfl, rfl, Cp, Bc, Co, hi, hai, Cv, hM, hS⟩;have D0 := Ext.refl w2
 by_cases hlt : i < b
 ·
  refine zc (zc (zp (pD (iv i) (iv b) ?_)));refine pU (.bool true) (ed (((i : Nat) : Int) < ((b : Nat) : Int)) (by omega)) ?_;refine zn (zt ?_);refine cw_skip (zq (zc (cw_block ?_)));refine zc (zp (pD (iv i) (iv i) ?_));refine zn (cw_block ?_);have C5 := Co;refine cw_loop [0, 1, 2, 3, 8, 9] (fun ws' wr m => ∃ j : Nat, ∃ l3 : List Rec, ws' = [(0, sv g 0 n c), (1, iv a), (2, iv b), (3, .func (.func 51) #[] #[]), (8, iv i), (9, iv j)] ∧ m = j - a ∧ w2.heap.size ≤ wr.heap.size ∧ Wrote (fun k => k = g) w wr ∧ RecsW wr g l3 ∧ j ≤ i ∧ a ≤ j ∧ l3.length = n ∧ Rep.Down l2 l3 a j i ∧ (j = i ∨ Rep.ltL (recN l2 i) (recN l2 j))) (ws0 := [(0, sv g 0 n c), (1, iv a), (2, iv b), (3, .func (.func 51) #[] #[]), (8, iv i), (9, iv i)]) (by kernel_rfl) _ ⟨i, l2, rfl, rfl, Nat.le_refl _, Bc, C5, Nat.le_refl _, by omega, Cv, Rep.Down.start _ _ _, .inl rfl⟩ ?_;clear Bc C5;rintro m8 L ws w7 ⟨j, l3, rfl, rfl, Ck, Bc, Bh, hj, haj, C8, hD, Cq⟩;have Be := Ext.refl w7
  by_cases hlt : a < j
  ·
   by_cases hq : Rep.listC (recN l3 j) (recN l3 (j - 1)) < 0
   ·
    refine zc (zc (dE Tz19_0 (fun w' => RecAt w' g (j * 7) (recN l3 j) ∧ RecAt w' g ((j - 1) * 7) (recN l3 (j - 1))) (⟨(Bh.ra (i := j) (by omega)), (Bh.ra (i := j - 1) (by omega))⟩) (fun ops Q Cx hb hL hR hK => ?_)));replace Be := Be.trans hb;replace Bc := Bc.step hb;have Cb := hb.size;have hS := A2 ((Bh.ext Be).ra (i := j) (by omega)) ((Bh.ext Be).ra (i := j - 1) (by omega));refine wW 0 (iv j) 1 (iv a) hR hS ?_;refine wL 2 (.bool true) hR (fun w _ => ev_dec (show _ = Result.ok (Next.value (Value.bool (decide (((j : Nat) : Int) > ((a : Nat) : Int))))) _ from by kernel_rfl) (by omega)) hS ?_;refine wW 3 (.bool true) 4 (.func (.func 51) #[] #[]) hR hS ?_;refine wW 5 (sv g 0 n c) 6 (iv j) hR hS ?_;refine wL 7 (pw g (j * 7)) hR (fun w _ => ex_index (p := sv g 0 n c) (i := iv j) rfl (by kernel_rfl) (by kernel_rfl) (ix23z (k := j) (by omega))) hS ?_;refine wM 8 (rvv (recN l3 j)) hR (fun w hS => rl hS.1) hS ?_;refine wW 9 (sv g 0 n c) 10 (iv j) hR hS ?_;refine wL 11 (iv ((j - 1 : Nat) : Int)) hR (fun w _ => ev_wrapN (a := ((j : Nat) : Int) - ((1 : Nat) : Int)) (k := j - 1) (by kernel_rfl) (by omega) (by omega)) hS ?_;refine wL 12 (pw g ((j - 1) * 7)) hR (fun w _ => ex_index (p := sv g 0 n c) (i := iv ((j - 1 : Nat) : Int)) rfl (by kernel_rfl) (by kernel_rfl) (ix23z (k := j - 1) (by omega))) hS ?_;refine wM 13 (rvv (recN l3 (j - 1))) hR (fun w hS => rl hS.2) hS ?_;refine wC 14 51 #[rvv (recN l3 j), rvv (recN l3 (j - 1))] hR ((listed_c ((recN l3 j)) ((recN l3 (j - 1))) _).mono ?_);rintro e Cw ⟨rfl, hb⟩;replace Be := Be.trans hb;replace Bc := Bc.step hb;have Cc := hb.size;have hS := A2 ((Bh.ext Be).ra (i := j) (by omega)) ((Bh.ext Be).ra (i := j - 1) (by omega));refine ⟨_, rfl, hS, ?_⟩;refine wL 15 (.bool true) hR (fun w _ => ev_dec (show _ = Result.ok (Next.value (Value.bool (decide ((Rep.listC ((recN l3 j)) ((recN l3 (j - 1))) : Int) < (0 : Int))))) _ from by kernel_rfl) (hq)) hS ?_;refine wV 16 (.bool true) hR hS ?_;refine we hL hR hK ?_;refine zq (cK [0,1,2,3,8,9,34] (fun L => ?_));refine zt ?_;refine cw_skip (zq (zc (cw_block ?_)));refine cw_join (fun ws' Y => ∃ Bz C1 : List Rec, ws' = [(0, sv g 0 n c), (1, iv a), (2, iv b), (3, .func (.func 51) #[] #[]), (8, iv i), (9, iv j)] ∧ Wrote (fun k => k = g) w Y ∧ Bz.length = n ∧ Bz = l3.set j (recN l3 (j - 1)) ∧ RecsW Y g C1 ∧ C1.length = n ∧ C1 = Bz.set (j - 1) (recN l3 j) ∧ Cw.heap.size ≤ Y.heap.size) (fun hJ => ?_) ?_
    ·
     refine dE Tz19_1 (fun w' => True) (trivial) (fun ops Q C2 hb hL hR hK => ?_);replace Be := Be.trans hb;replace Bc := Bc.step hb;have C7 := hb.size;have hS := trivial;refine wW 0 (sv g 0 n c) 1 (iv j) hR hS ?_;refine wW 2 (sv g 0 n c) 3 (iv j) hR hS ?_;refine wL 4 (iv ((j - 1 : Nat) : Int)) hR (fun w _ => ev_wrapN (a := ((j : Nat) : Int) - ((1 : Nat) : Int)) (k := j - 1) (by kernel_rfl) (by omega) (by omega)) hS ?_;refine wW 5 (sv g 0 n c) 6 (iv j) hR hS ?_;refine wL 7 (iv ((j - 1 : Nat) : Int)) hR (fun w _ => ev_wrapN (a := ((j : Nat) : Int) - ((1 : Nat) : Int)) (k := j - 1) (by kernel_rfl) (by omega) (by omega)) hS ?_;refine wL 8 (pw g ((j - 1) * 7)) hR (fun w _ => ex_index (p := sv g 0 n c) (i := iv ((j - 1 : Nat) : Int)) rfl (by kernel_rfl) (by kernel_rfl) (ix23z (k := j - 1) (by omega))) hS ?_;refine wW 10 (sv g 0 n c) 11 (iv j) hR hS ?_;refine wL 12 (pw g (j * 7)) hR (fun w _ => ex_index (p := sv g 0 n c) (i := iv j) rfl (by kernel_rfl) (by kernel_rfl) (ix23z (k := j) (by omega))) hS ?_;refine zw 9 13 hR ?_ ?_
     ·
      refine sn_eff (v := rvv (recN l3 (j - 1))) (w' := C2) (xl (rl ((Bh.ext Be).ra (i := j - 1) (by omega)))) ⟨trivial, ?_⟩;refine wS 13 hR (sn_eff (v := rvv (recN l3 j)) (w' := C2) (ex_load rfl (by kernel_rfl) (rl ((Bh.ext Be).ra (i := j) (by omega)))) ⟨trivial, ?_⟩);refine wL 14 (pw g (j * 7)) hR (fun w _ => ex_index (p := sv g 0 n c) (i := iv j) rfl (by kernel_rfl) (by kernel_rfl) (ix23z (k := j) (by omega))) trivial ?_;have Bf := (Bh.ext Be);have Bb : j < l3.length := by omega
      have B0 := Bf.w0 Bb;have B2 := Bf.w1 Bb;have B3 := Bf.w2 Bb;have B4 := Bf.w3 Bb;have B7 := Bf.w4 Bb;have B8 := Bf.w5 Bb;have Ba := Bf.w6 Bb;refine wS 15 hR (sn_setK7 (O := g) (j := j * 7) (v0 := iv ((recN l3 (j - 1)).c : Int)) (v1 := iv ((recN l3 (j - 1)).n : Int)) (v2 := iv ((recN l3 (j - 1)).t : Int)) (v3 := iv ((recN l3 (j - 1)).o : Int)) (v4 := iv ((recN l3 (j - 1)).w : Int)) (v5 := iv ((recN l3 (j - 1)).k : Int)) (v6 := .string ((recN l3 (j - 1)).x)) (ex_store (p := pw g (j * 7)) (v := rvv (recN l3 (j - 1))) rfl (by kernel_rfl) (by kernel_rfl) (st49 B0.1 B0.2 B2.1 B2.2 B3.1 B3.2 B4.1 B4.2 B7.1 B7.2 B8.1 B8.2 Ba.1 Ba.2)) B0 B2 B3 B4 B7 B8 Ba ?_);intro Cl ho Br Bs Bt Bu Bv Bw Bx hk;have Bi := RecsW.set (i := j) (x := (recN l3 (j - 1))) Bf ⟨Br, Bs, Bt, Bu, Bv, Bw, Bx⟩ hk;obtain ⟨Bz, Bk⟩ : ∃ q, q = l3.set j (recN l3 (j - 1)) := ⟨_, rfl⟩;rw [← Bk] at Bi;have Bp : Bz.length = n := by rw [Bk, List.length_set];exact C8
      replace Bc := Bc.turn ho (.inl (rfl));have Cd := Nat.le_of_eq ho.size.symm;clear ho hk Bb Br Bs Bt Bu Bv Bw Bx B0 B2 B3 B4 B7 B8 Ba;refine ⟨trivial, ?_⟩;refine wL 16 (pw g ((j - 1) * 7)) hR (fun w _ => ex_index (p := sv g 0 n c) (i := iv ((j - 1 : Nat) : Int)) rfl (by kernel_rfl) (by kernel_rfl) (ix23z (k := j - 1) (by omega))) trivial ?_;have Bb : j - 1 < Bz.length := by omega
      have B0 := Bi.w0 Bb;have B2 := Bi.w1 Bb;have B3 := Bi.w2 Bb;have B4 := Bi.w3 Bb;have B7 := Bi.w4 Bb;have B8 := Bi.w5 Bb;have Ba := Bi.w6 Bb;refine wS 17 hR (sn_setK7 (O := g) (j := (j - 1) * 7) (v0 := iv ((recN l3 j).c : Int)) (v1 := iv ((recN l3 j).n : Int)) (v2 := iv ((recN l3 j).t : Int)) (v3 := iv ((recN l3 j).o : Int)) (v4 := iv ((recN l3 j).w : Int)) (v5 := iv ((recN l3 j).k : Int)) (v6 := .string ((recN l3 j).x)) (ex_store (p := pw g ((j - 1) * 7)) (v := rvv (recN l3 j)) rfl (by kernel_rfl) (by kernel_rfl) (st49 B0.1 B0.2 B2.1 B2.2 B3.1 B3.2 B4.1 B4.2 B7.1 B7.2 B8.1 B8.2 Ba.1 Ba.2)) B0 B2 B3 B4 B7 B8 Ba ?_);intro Cs ho Br Bs Bt Bu Bv Bw Bx hk;have By := RecsW.set (i := j - 1) (x := (recN l3 j)) Bi ⟨Br, Bs, Bt, Bu, Bv, Bw, Bx⟩ hk;obtain ⟨C1, Bm⟩ : ∃ q, q = Bz.set (j - 1) (recN l3 j) := ⟨_, rfl⟩;rw [← Bm] at By;have Bq : C1.length = n := by rw [Bm, List.length_set];exact Bp
      replace Bc := Bc.turn ho (.inl (rfl));have Ce := Nat.le_of_eq ho.size.symm;clear ho hk Bb Br Bs Bt Bu Bv Bw Bx B0 B2 B3 B4 B7 B8 Ba;refine ⟨trivial, ?_⟩;refine we hL hR hK ?_;exact zl hJ [0, 1, 2, 3, 8, 9] ⟨Bz, C1, rfl, Bc, Bp, Bk, By, Bq, Bm, (T C7 (T Cd Ce))⟩
     ·
      refine sn_eff (v := rvv (recN l3 j)) (w' := C2) (xl (rl ((Bh.ext Be).ra (i := j) (by omega)))) ⟨trivial, ?_⟩;refine wS 9 hR (sn_eff (v := rvv (recN l3 (j - 1))) (w' := C2) (ex_load rfl (by kernel_rfl) (rl ((Bh.ext Be).ra (i := j - 1) (by omega)))) ⟨trivial, ?_⟩);refine wL 14 (pw g (j * 7)) hR (fun w _ => ex_index (p := sv g 0 n c) (i := iv j) rfl (by kernel_rfl) (by kernel_rfl) (ix23z (k := j) (by omega))) trivial ?_;have Bg := (Bh.ext Be);have Bb : j < l3.length := by omega
      have B0 := Bg.w0 Bb;have B2 := Bg.w1 Bb;have B3 := Bg.w2 Bb;have B4 := Bg.w3 Bb;have B7 := Bg.w4 Bb;have B8 := Bg.w5 Bb;have Ba := Bg.w6 Bb;refine wS 15 hR (sn_setK7 (O := g) (j := j * 7) (v0 := iv ((recN l3 (j - 1)).c : Int)) (v1 := iv ((recN l3 (j - 1)).n : Int)) (v2 := iv ((recN l3 (j - 1)).t : Int)) (v3 := iv ((recN l3 (j - 1)).o : Int)) (v4 := iv ((recN l3 (j - 1)).w : Int)) (v5 := iv ((recN l3 (j - 1)).k : Int)) (v6 := .string ((recN l3 (j - 1)).x)) (ex_store (p := pw g (j * 7)) (v := rvv (recN l3 (j - 1))) rfl (by kernel_rfl) (by kernel_rfl) (st49 B0.1 B0.2 B2.1 B2.2 B3.1 B3.2 B4.1 B4.2 B7.1 B7.2 B8.1 B8.2 Ba.1 Ba.2)) B0 B2 B3 B4 B7 B8 Ba ?_);intro Cm ho Br Bs Bt Bu Bv Bw Bx hk;have Bj := RecsW.set (i := j) (x := (recN l3 (j - 1))) Bg ⟨Br, Bs, Bt, Bu, Bv, Bw, Bx⟩ hk;obtain ⟨C9, Bn⟩ : ∃ q, q = l3.set j (recN l3 (j - 1)) := ⟨_, rfl⟩;rw [← Bn] at Bj;have C0 : C9.length = n := by rw [Bn, List.length_set];exact C8
      replace Bc := Bc.turn ho (.inl (rfl));have Cf := Nat.le_of_eq ho.size.symm;clear ho hk Bb Br Bs Bt Bu Bv Bw Bx B0 B2 B3 B4 B7 B8 Ba;refine ⟨trivial, ?_⟩;refine wL 16 (pw g ((j - 1) * 7)) hR (fun w _ => ex_index (p := sv g 0 n c) (i := iv ((j - 1 : Nat) : Int)) rfl (by kernel_rfl) (by kernel_rfl) (ix23z (k := j - 1) (by omega))) trivial ?_;have Bb : j - 1 < C9.length := by omega
      have B0 := Bj.w0 Bb;have B2 := Bj.w1 Bb;have B3 := Bj.w2 Bb;have B4 := Bj.w3 Bb;have B7 := Bj.w4 Bb;have B8 := Bj.w5 Bb;have Ba := Bj.w6 Bb;refine wS 17 hR (sn_setK7 (O := g) (j := (j - 1) * 7) (v0 := iv ((recN l3 j).c : Int)) (v1 := iv ((recN l3 j).n : Int)) (v2 := iv ((recN l3 j).t : Int)) (v3 := iv ((recN l3 j).o : Int)) (v4 := iv ((recN l3 j).w : Int)) (v5 := iv ((recN l3 j).k : Int)) (v6 := .string ((recN l3 j).x)) (ex_store (p := pw g ((j - 1) * 7)) (v := rvv (recN l3 j)) rfl (by kernel_rfl) (by kernel_rfl) (st49 B0.1 B0.2 B2.1 B2.2 B3.1 B3.2 B4.1 B4.2 B7.1 B7.2 B8.1 B8.2 Ba.1 Ba.2)) B0 B2 B3 B4 B7 B8 Ba ?_);intro Ct ho Br Bs Bt Bu Bv Bw Bx hk;have C4 := RecsW.set (i := j - 1) (x := (recN l3 j)) Bj ⟨Br, Bs, Bt, Bu, Bv, Bw, Bx⟩ hk;obtain ⟨Cr, Bo⟩ : ∃ q, q = C9.set (j - 1) (recN l3 j) := ⟨_, rfl⟩;rw [← Bo] at C4;have C6 : Cr.length = n := by rw [Bo, List.length_set];exact C0
      replace Bc := Bc.turn ho (.inl (rfl));have Cg := Nat.le_of_eq ho.size.symm;clear ho hk Bb Br Bs Bt Bu Bv Bw Bx B0 B2 B3 B4 B7 B8 Ba;refine ⟨trivial, ?_⟩;refine we hL hR hK ?_;exact zl hJ [0, 1, 2, 3, 8, 9] ⟨C9, Cr, rfl, Bc, C0, Bn, C4, C6, Bo, (T C7 (T Cf Cg))⟩
    ·
     clear Bc Be;rintro L ws Cn ⟨Bz, C1, rfl, Bc, Bp, Bk, By, Bq, Bm, Ca⟩;have Cu := Ext.refl Cn;refine qw_block (zq (zp (pT (iv j) ?_)));refine pU (iv ((j - 1 : Nat) : Int)) (ev_wrapN (a := ((j : Nat) : Int) - ((1 : Nat) : Int)) (k := j - 1) (by kernel_rfl) (by omega) (by omega)) ?_;refine pT (iv ((j - 1 : Nat) : Int)) ?_;refine pl_nil (qw_round [0, 1, 2, 3, 8, 9] (ws' := [(0, sv g 0 n c), (1, iv a), (2, iv b), (3, .func (.func 51) #[] #[]), (8, iv i), (9, iv ((j - 1 : Nat) : Int))]) (by kernel_rfl) _ ?_ ⟨(j - 1), C1, rfl, rfl, (T Ck (T Cb (T Cc Ca))), Bc, By, by omega, by omega, Bq, (by rw [Bm, Bk]; exact hD.step (by omega) (by omega) (by omega)), (.inr (by have k := Rep.listC_neg.1 hq; rwa [hD.head, hD.low (by omega)] at k))⟩);omega
   ·
    have C3 := hD.done hS (by omega) (by omega) (.inr (fun k => hq (Rep.listC_neg.2 (by rw [hD.head, hD.low (by omega)]; exact k)))) Cq;refine zc (zc (dE Tz19_0 (fun w' => RecAt w' g (j * 7) (recN l3 j) ∧ RecAt w' g ((j - 1) * 7) (recN l3 (j - 1))) (⟨(Bh.ra (i := j) (by omega)), (Bh.ra (i := j - 1) (by omega))⟩) (fun ops Q Cy hb hL hR hK => ?_)));replace Be := Be.trans hb;replace Bc := Bc.step hb;have Ch := hb.size;have hS := A2 ((Bh.ext Be).ra (i := j) (by omega)) ((Bh.ext Be).ra (i := j - 1) (by omega));refine wW 0 (iv j) 1 (iv a) hR hS ?_;refine wL 2 (.bool true) hR (fun w _ => ev_dec (show _ = Result.ok (Next.value (Value.bool (decide (((j : Nat) : Int) > ((a : Nat) : Int))))) _ from by kernel_rfl) (by omega)) hS ?_;refine wW 3 (.bool true) 4 (.func (.func 51) #[] #[]) hR hS ?_;refine wW 5 (sv g 0 n c) 6 (iv j) hR hS ?_;refine wL 7 (pw g (j * 7)) hR (fun w _ => ex_index (p := sv g 0 n c) (i := iv j) rfl (by kernel_rfl) (by kernel_rfl) (ix23z (k := j) (by omega))) hS ?_;refine wM 8 (rvv (recN l3 j)) hR (fun w hS => rl hS.1) hS ?_;refine wW 9 (sv g 0 n c) 10 (iv j) hR hS ?_;refine wL 11 (iv ((j - 1 : Nat) : Int)) hR (fun w _ => ev_wrapN (a := ((j : Nat) : Int) - ((1 : Nat) : Int)) (k := j - 1) (by kernel_rfl) (by omega) (by omega)) hS ?_;refine wL 12 (pw g ((j - 1) * 7)) hR (fun w _ => ex_index (p := sv g 0 n c) (i := iv ((j - 1 : Nat) : Int)) rfl (by kernel_rfl) (by kernel_rfl) (ix23z (k := j - 1) (by omega))) hS ?_;refine wM 13 (rvv (recN l3 (j - 1))) hR (fun w hS => rl hS.2) hS ?_;refine wC 14 51 #[rvv (recN l3 j), rvv (recN l3 (j - 1))] hR ((listed_c ((recN l3 j)) ((recN l3 (j - 1))) _).mono ?_);rintro e D1 ⟨rfl, hb⟩;replace Be := Be.trans hb;replace Bc := Bc.step hb;have Ci := hb.size;have hS := A2 ((Bh.ext Be).ra (i := j) (by omega)) ((Bh.ext Be).ra (i := j - 1) (by omega));refine ⟨_, rfl, hS, ?_⟩;refine wL 15 (.bool false) hR (fun w _ => ev_ndec (show _ = Result.ok (Next.value (Value.bool (decide ((Rep.listC ((recN l3 j)) ((recN l3 (j - 1))) : Int) < (0 : Int))))) _ from by kernel_rfl) (hq)) hS ?_;refine wV 16 (.bool false) hR hS ?_;refine we hL hR hK ?_;refine zq (cK [0,1,2,3,8,9,34] (fun L => ?_));refine zf ?_;refine cw_exit (qw_then_exit (qw_then_exit (qw_block_out (qw_block (zq (zp (pT (iv i) ?_)))))));refine pU (iv ((i + 1 : Nat) : Int)) (ew (by omega) (by omega)) ?_;refine pT (iv ((i + 1 : Nat) : Int)) ?_;refine pl_nil (zr [0, 1, 2, 3, 8] _ ?_ ⟨(i + 1), l3, rfl, rfl, (T Cp (T Ck (T Ch Ci))), Bc, (Bh.ext Be), .inl (by omega), by omega, C8, (hM.trans (C3.mvd.wide (Nat.le_refl _) (by omega))), C3.sd⟩);omega
  ·
   have C3 := hD.done hS (by omega) (by omega) (.inl (by omega)) Cq;refine zc (zc (dE Tz19_0 (fun w' => True) (trivial) (fun ops Q Cz hb hL hR hK => ?_)));replace Be := Be.trans hb;replace Bc := Bc.step hb;have Cj := hb.size;have hS := trivial;refine wW 0 (iv j) 1 (iv a) hR hS ?_;refine wL 2 (.bool false) hR (fun w _ => ev_ndec (show _ = Result.ok (Next.value (Value.bool (decide (((j : Nat) : Int) > ((a : Nat) : Int))))) _ from by kernel_rfl) (by omega)) hS ?_;refine wV 3 (.bool false) hR hS ?_;refine wK 4 hR hS ?_;refine wK 5 hR hS ?_;refine wK 6 hR hS ?_;refine wK 7 hR hS ?_;refine wK 8 hR hS ?_;refine wK 9 hR hS ?_;refine wK 10 hR hS ?_;refine wK 11 hR hS ?_;refine wK 12 hR hS ?_;refine wK 13 hR hS ?_;refine wK 14 hR hS ?_;refine wK 15 hR hS ?_;refine wV 16 (.bool false) hR hS ?_;refine we hL hR hK ?_;refine zq (cK [0,1,2,3,8,9,34] (fun L => ?_));refine zf ?_;refine cw_exit (qw_then_exit (qw_then_exit (qw_block_out (qw_block (zq (zp (pT (iv i) ?_)))))));refine pU (iv ((i + 1 : Nat) : Int)) (ew (by omega) (by omega)) ?_;refine pT (iv ((i + 1 : Nat) : Int)) ?_;refine pl_nil (zr [0, 1, 2, 3, 8] _ ?_ ⟨(i + 1), l3, rfl, rfl, (T Cp (T Ck Cj)), Bc, (Bh.ext Be), .inl (by omega), by omega, C8, (hM.trans (C3.mvd.wide (Nat.le_refl _) (by omega))), C3.sd⟩);omega
 ·
  refine zc (zc (zp (pD (iv i) (iv b) ?_)));refine pU (.bool false) (en (((i : Nat) : Int) < ((b : Nat) : Int)) (by omega)) ?_;refine zn (zf ?_);refine cw_exit (qw_then_exit (qw_then_exit (qw_block_out (qw_end [] rfl trivial ?_))));exact ⟨rfl, _, Co, ⟨hM, hS.sub (Nat.le_refl _) (by omega)⟩, Bc⟩
end Go.Proofs.YtfmoabgjaclkpaaGreatDoor

namespace Go.Proofs.YtfmoabgjaclkpaaGreatDoor
set_option maxRecDepth 1000000
set_option maxHeartbeats 4000000
set_option synthInstance.maxHeartbeats 0
set_option synthInstance.maxSize 9999
open Go.RowKit
def Tz20_0 : List Row := [(some 40, [4], []), (some 41, [0], []), (some 42, [12], []), (some 43, [41, 42], [1, 2]), (some 44, [43], [3]), (some 45, [0], []), (some 46, [1], []), (some 47, [45, 46], [5, 6]), (some 48, [47], [7]), (some 49, [40, 44, 48], [0, 4, 8]), (some 50, [49], [9])]
def Tz20_1 : List Row := [(some 61, [0], []), (some 62, [13], []), (some 63, [0], []), (some 64, [13], []), (some 65, [64], [3]), (some 66, [0], []), (some 67, [13], []), (some 68, [67], [6]), (some 69, [66, 68], [5, 7]), (some 70, [69], [8]), (some 71, [0], []), (some 72, [13], []), (some 73, [71, 72], [10, 11]), (some 74, [73], [12]), (some 75, [61, 62], [0, 1, 0, 1, 5, 6, 7, 8, 9, 13]), (none, [75, 70], [14, 9, 0, 1, 5, 6, 7, 8, 9, 13]), (some 76, [63, 65], [2, 4, 0, 1, 2, 3, 4, 5, 6, 7, 8, 9, 10, 11, 12, 13, 14, 15]), (none, [76, 74], [16, 13, 15, 0, 1, 2, 3, 4, 5, 6, 7, 8, 9, 10, 11, 12, 13, 14, 15])]
def Tz20_2 : List Row := [(some 92, [4], []), (some 93, [0], []), (some 94, [2], []), (some 95, [93, 94], [1, 2]), (some 96, [95], [3]), (some 97, [0], []), (some 98, [16], []), (some 99, [97, 98], [5, 6]), (some 100, [99], [7]), (some 101, [92, 96, 100], [0, 4, 8]), (some 102, [101], [9]), (some 103, [102], [10])]
def Tz20_3 : List Row := [(some 113, [0], []), (some 114, [17], []), (some 115, [0], []), (some 116, [17], []), (some 117, [116], [3]), (some 118, [0], []), (some 119, [17], []), (some 120, [119], [6]), (some 121, [118, 120], [5, 7]), (some 122, [121], [8]), (some 123, [0], []), (some 124, [17], []), (some 125, [123, 124], [10, 11]), (some 126, [125], [12]), (some 127, [113, 114], [0, 1, 0, 1, 5, 6, 7, 8, 9, 13]), (none, [127, 122], [14, 9, 0, 1, 5, 6, 7, 8, 9, 13]), (some 128, [115, 117], [2, 4, 0, 1, 2, 3, 4, 5, 6, 7, 8, 9, 10, 11, 12, 13, 14, 15]), (none, [128, 126], [16, 13, 15, 0, 1, 2, 3, 4, 5, 6, 7, 8, 9, 10, 11, 12, 13, 14, 15])]
def Tz20_4 : List Row := [(some 158, [4], []), (some 159, [0], []), (some 160, [22], []), (some 161, [23], []), (some 162, [160, 161], [2, 3]), (some 163, [159, 162], [1, 4]), (some 164, [163], [5]), (some 165, [0], []), (some 166, [23], []), (some 167, [165, 166], [7, 8]), (some 168, [167], [9]), (some 169, [158, 164, 168], [0, 6, 10]), (some 170, [169], [11]), (some 171, [170], [12])]
theorem ev_wrapU {w : World} {r : Result Next} {a : Int} (h : r = .ok (.value (.int .u64 (IntKind.u64.wrap a))) w) (h0 : 0 ≤ a) (h1 : a < 18446744073709551616) : r = .ok (.value (.int .u64 a)) w := by
 have e : IntKind.u64.wrap a = a := by rw [IntKind.wrap_u64]; omega
 rw [h, e]
theorem eqG_shr {P : Program} {w : World} {t : TypeId} {x y : Operand} {a b : Value} : (eqGuard .shr t x y a b).run P w = .ok () w := by simp [eqGuard]
theorem bin_shrU1 {P : Program} {w : World} {t : TypeId} {S : Nat} : (binOp .shr t (.int .u64 (S : Int)) (.int .u64 1)).run P w = .ok (.int .u64 ((S / 2 : Nat) : Int)) w := by
 have e : (S : Int).fdiv (2 ^ 1) = ((S / 2 : Nat) : Int) := by rw [Int.fdiv_eq_ediv_of_nonneg _ (by decide)]; simp
 simp only [binOp, Op.shift, IntKind.bits, if_neg (show ¬ ((1 : Int) < 0) by decide), show min (1 : Int).toNat 64 = 1 by decide, e]
 rfl
theorem symMerge_c : ∀ (sz : Nat) {a m1 b : Nat} {g n c : Nat} {l : List Rec} (w : World) (_hRc : RecsW w g l) (_hl : l.length = n) (_hg : g < w.heap.size) (_hn : n ≤ 1000) (_h1 : a < m1) (_h2 : m1 < b) (_h3 : b ≤ n) (_hsz : b - a ≤ sz) (_hA : Rep.Sd l a m1) (_hB : Rep.Sd l m1 b), Calls Tryz.prog 121 #[sv g 0 n c, iv a, iv m1, iv b, .func (.func 51) #[] #[]] w fun e w' => e = .returned (.tuple #[]) ∧ ∃ l', RecsW w' g l' ∧ Rep.Mgd l l' a b ∧ Wrote (fun k => k = g) w w' := by
 intro sz
 induction sz with
 | zero => intro a m1 b g n c l w hRc hl hg hn h1 h2 h3 hsz;omega
 | succ sz ih =>
  intro a m1 b g n c l w hRc hl hg hn h1 h2 h3 hsz hA hB;have B0 : Wrote (fun k => k = g) w w := Wrote.refl _ _;refine calls_cw 220 [(4, .func (.func 51) #[] #[]), (3, iv b), (2, iv m1), (1, iv a), (0, sv g 0 n c)] Tryz.func121 rfl Tryz.ntmps121 (by kernel_rfl) (by kernel_rfl) (fun L => ?_);have hE := Ext.refl w;refine zc (zc (zp (pD (iv m1) (iv a) ?_)));refine pU (iv ((m1 - a : Nat) : Int)) (ev_wrapN (a := ((m1 : Nat) : Int) - ((a : Nat) : Int)) (k := m1 - a) (by kernel_rfl) (by omega) (by omega)) ?_
  by_cases D6 : ((m1 - a : Nat) : Int) = (1 : Int)
  ·
   refine pU (.bool true) (eE ((m1 - a : Nat) : Int) (1 : Int) (D6)) ?_;refine zn (zt ?_);refine zc (zp (pD (iv m1) (iv m1) ?_));refine zn (zc (zp (pD (iv b) (iv b) ?_)));refine zn (zc (cw_block ?_));refine cw_loop [0, 1, 4, 10, 11] (fun ws' wr m => ∃ i j : Nat, ws' = [(0, sv g 0 n c), (1, iv a), (4, .func (.func 51) #[] #[]), (10, iv i), (11, iv j)] ∧ m = j - i ∧ w.heap.size ≤ wr.heap.size ∧ Ext w wr ∧ Wrote (fun k => k = g) w wr ∧ i ≤ j ∧ m1 ≤ i ∧ j ≤ b ∧ (i = m1 ∨ Rep.ltL (recN l (i - 1)) (recN l a)) ∧ (j = b ∨ ¬ Rep.ltL (recN l j) (recN l a))) (ws0 := [(0, sv g 0 n c), (1, iv a), (4, .func (.func 51) #[] #[]), (10, iv m1), (11, iv b)]) (by kernel_rfl) _ ⟨m1, b, rfl, rfl, Nat.le_refl _, hE, B0, by omega, Nat.le_refl _, Nat.le_refl _, .inl rfl, .inl rfl⟩ ?_;clear B0 hE;rintro m4 L ws w3 ⟨i, j, rfl, rfl, E0, hE, B0, hij, hil, hjh, Cr, Cs⟩
   by_cases hlt : i < j
   ·
    by_cases hq : Rep.listC (recN l ((i + j) / 2)) (recN l a) < 0
    ·
     refine zc (zc (zp (pD (iv i) (iv j) ?_)));refine pU (.bool true) (ed (((i : Nat) : Int) < ((j : Nat) : Int)) (by omega)) ?_;refine zn (zt ?_);refine cw_skip (zq (cw_block ?_));refine zc (zp (pD (iv i) (iv j) ?_));refine pU (iv ((i + j : Nat) : Int)) (ew (by omega) (by omega)) ?_;refine pU (.int .u64 ((i + j : Nat) : Int)) (ev_wrapU (a := ((i + j : Nat) : Int)) (by kernel_rfl) (by omega) (by omega)) ?_;refine pU (.int .u64 ((((i + j) / 2 : Nat) : Int) : Int)) (ex_binV (a := .int .u64 ((i + j : Nat) : Int)) (b := .int .u64 1) rfl (by kernel_rfl) (by kernel_rfl) eqG_shr bin_shrU1) ?_;refine pU (iv ((((i + j) / 2 : Nat) : Int) : Int)) (ev_wrapN (a := (((i + j) / 2 : Nat) : Int)) (k := (i + j) / 2) (by kernel_rfl) (by omega) (by omega)) ?_;refine pT (iv ((((i + j) / 2 : Nat) : Int) : Int)) ?_;refine zn (cK [0,1,4,10,11,12] (fun L => ?_));refine zc (dE Tz20_0 (fun w' => RecAt w' g (((i + j) / 2) * 7) (recN l ((i + j) / 2)) ∧ RecAt w' g (a * 7) (recN l a)) (⟨((hRc.ext hE).ra (i := (i + j) / 2) (by omega)), ((hRc.ext hE).ra (i := a) (by omega))⟩) (fun ops Q X5 hb hL hR hK => ?_));replace hE := hE.trans hb;replace B0 := B0.step hb;have Eu := hb.size;have hS := A2 ((hRc.ext hE).ra (i := (i + j) / 2) (by omega)) ((hRc.ext hE).ra (i := a) (by omega));refine wW 0 (.func (.func 51) #[] #[]) 1 (sv g 0 n c) hR hS ?_;refine wV 2 (iv ((((i + j) / 2 : Nat) : Int) : Int)) hR hS ?_;refine wL 3 (pw g (((i + j) / 2) * 7)) hR (fun w _ => ex_index (p := sv g 0 n c) (i := iv (((i + j) / 2 : Nat) : Int)) rfl (by kernel_rfl) (by kernel_rfl) (ix23z (k := (i + j) / 2) (by omega))) hS ?_;refine wM 4 (rvv (recN l ((i + j) / 2))) hR (fun w hS => rl hS.1) hS ?_;refine wW 5 (sv g 0 n c) 6 (iv a) hR hS ?_;refine wL 7 (pw g (a * 7)) hR (fun w _ => ex_index (p := sv g 0 n c) (i := iv a) rfl (by kernel_rfl) (by kernel_rfl) (ix23z (k := a) (by omega))) hS ?_;refine wM 8 (rvv (recN l a)) hR (fun w hS => rl hS.2) hS ?_;refine wC 9 51 #[rvv (recN l ((i + j) / 2)), rvv (recN l a)] hR ((listed_c ((recN l ((i + j) / 2))) ((recN l a)) _).mono ?_);rintro e w7 ⟨rfl, hb⟩;replace hE := hE.trans hb;replace B0 := B0.step hb;have F7 := hb.size;have hS := A2 ((hRc.ext hE).ra (i := (i + j) / 2) (by omega)) ((hRc.ext hE).ra (i := a) (by omega));refine ⟨_, rfl, hS, ?_⟩;refine wL 10 (.bool true) hR (fun w _ => ev_dec (show _ = Result.ok (Next.value (Value.bool (decide ((Rep.listC ((recN l ((i + j) / 2))) ((recN l a)) : Int) < (0 : Int))))) _ from by kernel_rfl) (hq)) hS ?_;refine we hL hR hK ?_;refine zq (cK [0,1,4,10,11,12,50] (fun L => ?_));refine zt ?_;refine zp (pT (iv ((((i + j) / 2 : Nat) : Int) : Int)) ?_);refine pU (iv (((((i + j) / 2) + 1 : Nat) : Int) : Int)) (ew (by omega) (by omega)) ?_;refine pT (iv (((((i + j) / 2) + 1 : Nat) : Int) : Int)) ?_;refine pl_nil (qw_block (qw_round [0, 1, 4, 10, 11] (ws' := [(0, sv g 0 n c), (1, iv a), (4, .func (.func 51) #[] #[]), (10, iv (((((i + j) / 2) + 1 : Nat) : Int) : Int)), (11, iv j)]) (by kernel_rfl) _ ?_ ⟨((i + j) / 2 + 1), j, rfl, rfl, (T E0 (T Eu F7)), hE, B0, by omega, by omega, by omega, (.inr (by rw [Nat.add_sub_cancel]; exact Rep.listC_neg.1 hq)), Cs⟩));omega
    ·
     refine zc (zc (zp (pD (iv i) (iv j) ?_)));refine pU (.bool true) (ed (((i : Nat) : Int) < ((j : Nat) : Int)) (by omega)) ?_;refine zn (zt ?_);refine cw_skip (zq (cw_block ?_));refine zc (zp (pD (iv i) (iv j) ?_));refine pU (iv ((i + j : Nat) : Int)) (ew (by omega) (by omega)) ?_;refine pU (.int .u64 ((i + j : Nat) : Int)) (ev_wrapU (a := ((i + j : Nat) : Int)) (by kernel_rfl) (by omega) (by omega)) ?_;refine pU (.int .u64 ((((i + j) / 2 : Nat) : Int) : Int)) (ex_binV (a := .int .u64 ((i + j : Nat) : Int)) (b := .int .u64 1) rfl (by kernel_rfl) (by kernel_rfl) eqG_shr bin_shrU1) ?_;refine pU (iv ((((i + j) / 2 : Nat) : Int) : Int)) (ev_wrapN (a := (((i + j) / 2 : Nat) : Int)) (k := (i + j) / 2) (by kernel_rfl) (by omega) (by omega)) ?_;refine pT (iv ((((i + j) / 2 : Nat) : Int) : Int)) ?_;refine zn (cK [0,1,4,10,11,12] (fun L => ?_));refine zc (dE Tz20_0 (fun w' => RecAt w' g (((i + j) / 2) * 7) (recN l ((i + j) / 2)) ∧ RecAt w' g (a * 7) (recN l a)) (⟨((hRc.ext hE).ra (i := (i + j) / 2) (by omega)), ((hRc.ext hE).ra (i := a) (by omega))⟩) (fun ops Q X9 hb hL hR hK => ?_));replace hE := hE.trans hb;replace B0 := B0.step hb;have Dx := hb.size;have hS := A2 ((hRc.ext hE).ra (i := (i + j) / 2) (by omega)) ((hRc.ext hE).ra (i := a) (by omega));refine wW 0 (.func (.func 51) #[] #[]) 1 (sv g 0 n c) hR hS ?_;refine wV 2 (iv ((((i + j) / 2 : Nat) : Int) : Int)) hR hS ?_;refine wL 3 (pw g (((i + j) / 2) * 7)) hR (fun w _ => ex_index (p := sv g 0 n c) (i := iv (((i + j) / 2 : Nat) : Int)) rfl (by kernel_rfl) (by kernel_rfl) (ix23z (k := (i + j) / 2) (by omega))) hS ?_;refine wM 4 (rvv (recN l ((i + j) / 2))) hR (fun w hS => rl hS.1) hS ?_;refine wW 5 (sv g 0 n c) 6 (iv a) hR hS ?_;refine wL 7 (pw g (a * 7)) hR (fun w _ => ex_index (p := sv g 0 n c) (i := iv a) rfl (by kernel_rfl) (by kernel_rfl) (ix23z (k := a) (by omega))) hS ?_;refine wM 8 (rvv (recN l a)) hR (fun w hS => rl hS.2) hS ?_;refine wC 9 51 #[rvv (recN l ((i + j) / 2)), rvv (recN l a)] hR ((listed_c ((recN l ((i + j) / 2))) ((recN l a)) _).mono ?_);rintro e Fu ⟨rfl, hb⟩;replace hE := hE.trans hb;replace B0 := B0.step hb;have Dy := hb.size;have hS := A2 ((hRc.ext hE).ra (i := (i + j) / 2) (by omega)) ((hRc.ext hE).ra (i := a) (by omega));refine ⟨_, rfl, hS, ?_⟩;refine wL 10 (.bool false) hR (fun w _ => ev_ndec (show _ = Result.ok (Next.value (Value.bool (decide ((Rep.listC ((recN l ((i + j) / 2))) ((recN l a)) : Int) < (0 : Int))))) _ from by kernel_rfl) (hq)) hS ?_;refine we hL hR hK ?_;refine zq (cK [0,1,4,10,11,12,50] (fun L => ?_));refine zf ?_;refine zp (pD (iv ((((i + j) / 2 : Nat) : Int) : Int)) (iv ((((i + j) / 2 : Nat) : Int) : Int)) ?_);refine pl_nil (qw_block (zr [0, 1, 4, 10, 11] _ ?_ ⟨i, ((i + j) / 2), rfl, rfl, (T E0 (T Dx Dy)), hE, B0, by omega, by omega, by omega, Cr, (.inr (fun k => hq (Rep.listC_neg.2 k)))⟩));omega
   ·
    refine zc (zc (zp (pD (iv i) (iv j) ?_)));refine pU (.bool false) (en (((i : Nat) : Int) < ((j : Nat) : Int)) (by omega)) ?_;refine zn (zf ?_);refine cw_exit (qw_then_exit (qw_then_exit (qw_block_out (zq (zc (zc (zp (pD (iv a) (iv a) ?_))))))));refine zn (cw_block ?_);have C6 := (hRc.ext hE);refine cw_loop [0, 10, 13] (fun ws' wr m => ∃ k : Nat, ∃ l2 : List Rec, ws' = [(0, sv g 0 n c), (10, iv i), (13, iv k)] ∧ m = i - 1 - k ∧ w3.heap.size ≤ wr.heap.size ∧ Wrote (fun k => k = g) w wr ∧ RecsW wr g l2 ∧ a ≤ k ∧ k ≤ i - 1 ∧ l2.length = n ∧ Rep.Up l l2 a k b) (ws0 := [(0, sv g 0 n c), (10, iv i), (13, iv a)]) (by kernel_rfl) _ ⟨a, l, rfl, rfl, Nat.le_refl _, B0, C6, Nat.le_refl _, by omega, hl, Rep.Up.start _ _ _⟩ ?_;clear C6 B0;rintro Fr L ws Ej ⟨k, l2, rfl, rfl, Dz, B0, C4, hak, hki, D8, hU⟩;have Bx := Ext.refl Ej
    by_cases hlt : k < i - 1
    ·
     refine zc (zc (zp (pD (iv k) (iv i) ?_)));refine pU (iv ((i - 1 : Nat) : Int)) (ev_wrapN (a := ((i : Nat) : Int) - ((1 : Nat) : Int)) (k := i - 1) (by kernel_rfl) (by omega) (by omega)) ?_;refine pU (.bool true) (ed (((k : Nat) : Int) < ((i - 1 : Nat) : Int)) (by omega)) ?_;refine zn (zt ?_);refine cw_skip (zq (zc (cw_block ?_)));refine cw_join (fun ws' Y => ∃ Cj Ct : List Rec, ws' = [(0, sv g 0 n c), (10, iv i), (13, iv k)] ∧ Wrote (fun k => k = g) w Y ∧ Cj.length = n ∧ Cj = l2.set k (recN l2 (k + 1)) ∧ RecsW Y g Ct ∧ Ct.length = n ∧ Ct = Cj.set (k + 1) (recN l2 k) ∧ Ej.heap.size ≤ Y.heap.size) (fun hJ => ?_) ?_
     ·
      refine dE Tz20_1 (fun w' => True) (trivial) (fun ops Q Cy hb hL hR hK => ?_);replace Bx := Bx.trans hb;replace B0 := B0.step hb;have Di := hb.size;have hS := trivial;refine wW 0 (sv g 0 n c) 1 (iv k) hR hS ?_;refine wW 2 (sv g 0 n c) 3 (iv k) hR hS ?_;refine wL 4 (iv ((k + 1 : Nat) : Int)) hR (fun w _ => ev_wrap (by kernel_rfl) (by omega) (by omega)) hS ?_;refine wW 5 (sv g 0 n c) 6 (iv k) hR hS ?_;refine wL 7 (iv ((k + 1 : Nat) : Int)) hR (fun w _ => ev_wrap (by kernel_rfl) (by omega) (by omega)) hS ?_;refine wL 8 (pw g ((k + 1) * 7)) hR (fun w _ => ex_index (p := sv g 0 n c) (i := iv ((k + 1 : Nat) : Int)) rfl (by kernel_rfl) (by kernel_rfl) (ix23z (k := k + 1) (by omega))) hS ?_;refine wW 10 (sv g 0 n c) 11 (iv k) hR hS ?_;refine wL 12 (pw g (k * 7)) hR (fun w _ => ex_index (p := sv g 0 n c) (i := iv k) rfl (by kernel_rfl) (by kernel_rfl) (ix23z (k := k) (by omega))) hS ?_;refine zw 9 13 hR ?_ ?_
      ·
       refine sn_eff (v := rvv (recN l2 (k + 1))) (w' := Cy) (xl (rl ((C4.ext Bx).ra (i := k + 1) (by omega)))) ⟨trivial, ?_⟩;refine wS 13 hR (sn_eff (v := rvv (recN l2 k)) (w' := Cy) (ex_load rfl (by kernel_rfl) (rl ((C4.ext Bx).ra (i := k) (by omega)))) ⟨trivial, ?_⟩);refine wL 14 (pw g (k * 7)) hR (fun w _ => ex_index (p := sv g 0 n c) (i := iv k) rfl (by kernel_rfl) (by kernel_rfl) (ix23z (k := k) (by omega))) trivial ?_;have Bg := (C4.ext Bx);have Bc : k < l2.length := by omega
       have B2 := Bg.w0 Bc;have B3 := Bg.w1 Bc;have B4 := Bg.w2 Bc;have B7 := Bg.w3 Bc;have B8 := Bg.w4 Bc;have Ba := Bg.w5 Bc;have Bb := Bg.w6 Bc;refine wS 15 hR (sn_setK7 (O := g) (j := k * 7) (v0 := iv ((recN l2 (k + 1)).c : Int)) (v1 := iv ((recN l2 (k + 1)).n : Int)) (v2 := iv ((recN l2 (k + 1)).t : Int)) (v3 := iv ((recN l2 (k + 1)).o : Int)) (v4 := iv ((recN l2 (k + 1)).w : Int)) (v5 := iv ((recN l2 (k + 1)).k : Int)) (v6 := .string ((recN l2 (k + 1)).x)) (ex_store (p := pw g (k * 7)) (v := rvv (recN l2 (k + 1))) rfl (by kernel_rfl) (by kernel_rfl) (st49 B2.1 B2.2 B3.1 B3.2 B4.1 B4.2 B7.1 B7.2 B8.1 B8.2 Ba.1 Ba.2 Bb.1 Bb.2)) B2 B3 B4 B7 B8 Ba Bb ?_);intro El ho Bm Bn Bo Bp Bq Br Bs hk;have Bt := RecsW.set (i := k) (x := (recN l2 (k + 1))) Bg ⟨Bm, Bn, Bo, Bp, Bq, Br, Bs⟩ hk;obtain ⟨Cj, Bz⟩ : ∃ q, q = l2.set k (recN l2 (k + 1)) := ⟨_, rfl⟩;rw [← Bz] at Bt;have Cc : Cj.length = n := by rw [Bz, List.length_set];exact D8
       replace B0 := B0.turn ho (.inl (rfl));have E1 := Nat.le_of_eq ho.size.symm;clear ho hk Bc Bm Bn Bo Bp Bq Br Bs B2 B3 B4 B7 B8 Ba Bb;refine ⟨trivial, ?_⟩;refine wL 16 (pw g ((k + 1) * 7)) hR (fun w _ => ex_index (p := sv g 0 n c) (i := iv ((k + 1 : Nat) : Int)) rfl (by kernel_rfl) (by kernel_rfl) (ix23z (k := k + 1) (by omega))) trivial ?_;have Bc : k + 1 < Cj.length := by omega
       have B2 := Bt.w0 Bc;have B3 := Bt.w1 Bc;have B4 := Bt.w2 Bc;have B7 := Bt.w3 Bc;have B8 := Bt.w4 Bc;have Ba := Bt.w5 Bc;have Bb := Bt.w6 Bc;refine wS 17 hR (sn_setK7 (O := g) (j := (k + 1) * 7) (v0 := iv ((recN l2 k).c : Int)) (v1 := iv ((recN l2 k).n : Int)) (v2 := iv ((recN l2 k).t : Int)) (v3 := iv ((recN l2 k).o : Int)) (v4 := iv ((recN l2 k).w : Int)) (v5 := iv ((recN l2 k).k : Int)) (v6 := .string ((recN l2 k).x)) (ex_store (p := pw g ((k + 1) * 7)) (v := rvv (recN l2 k)) rfl (by kernel_rfl) (by kernel_rfl) (st49 B2.1 B2.2 B3.1 B3.2 B4.1 B4.2 B7.1 B7.2 B8.1 B8.2 Ba.1 Ba.2 Bb.1 Bb.2)) B2 B3 B4 B7 B8 Ba Bb ?_);intro F0 ho Bm Bn Bo Bp Bq Br Bs hk;have Cg := RecsW.set (i := k + 1) (x := (recN l2 k)) Bt ⟨Bm, Bn, Bo, Bp, Bq, Br, Bs⟩ hk;obtain ⟨Ct, C0⟩ : ∃ q, q = Cj.set (k + 1) (recN l2 k) := ⟨_, rfl⟩;rw [← C0] at Cg;have Cd : Ct.length = n := by rw [C0, List.length_set];exact Cc
       replace B0 := B0.turn ho (.inl (rfl));have E2 := Nat.le_of_eq ho.size.symm;clear ho hk Bc Bm Bn Bo Bp Bq Br Bs B2 B3 B4 B7 B8 Ba Bb;refine ⟨trivial, ?_⟩;refine we hL hR hK ?_;exact zl hJ [0, 10, 13] ⟨Cj, Ct, rfl, B0, Cc, Bz, Cg, Cd, C0, (T Di (T E1 E2))⟩
      ·
       refine sn_eff (v := rvv (recN l2 k)) (w' := Cy) (xl (rl ((C4.ext Bx).ra (i := k) (by omega)))) ⟨trivial, ?_⟩;refine wS 9 hR (sn_eff (v := rvv (recN l2 (k + 1))) (w' := Cy) (ex_load rfl (by kernel_rfl) (rl ((C4.ext Bx).ra (i := k + 1) (by omega)))) ⟨trivial, ?_⟩);refine wL 14 (pw g (k * 7)) hR (fun w _ => ex_index (p := sv g 0 n c) (i := iv k) rfl (by kernel_rfl) (by kernel_rfl) (ix23z (k := k) (by omega))) trivial ?_;have Bh := (C4.ext Bx);have Bc : k < l2.length := by omega
       have B2 := Bh.w0 Bc;have B3 := Bh.w1 Bc;have B4 := Bh.w2 Bc;have B7 := Bh.w3 Bc;have B8 := Bh.w4 Bc;have Ba := Bh.w5 Bc;have Bb := Bh.w6 Bc;refine wS 15 hR (sn_setK7 (O := g) (j := k * 7) (v0 := iv ((recN l2 (k + 1)).c : Int)) (v1 := iv ((recN l2 (k + 1)).n : Int)) (v2 := iv ((recN l2 (k + 1)).t : Int)) (v3 := iv ((recN l2 (k + 1)).o : Int)) (v4 := iv ((recN l2 (k + 1)).w : Int)) (v5 := iv ((recN l2 (k + 1)).k : Int)) (v6 := .string ((recN l2 (k + 1)).x)) (ex_store (p := pw g (k * 7)) (v := rvv (recN l2 (k + 1))) rfl (by kernel_rfl) (by kernel_rfl) (st49 B2.1 B2.2 B3.1 B3.2 B4.1 B4.2 B7.1 B7.2 B8.1 B8.2 Ba.1 Ba.2 Bb.1 Bb.2)) B2 B3 B4 B7 B8 Ba Bb ?_);intro Em ho Bm Bn Bo Bp Bq Br Bs hk;have Bu := RecsW.set (i := k) (x := (recN l2 (k + 1))) Bh ⟨Bm, Bn, Bo, Bp, Bq, Br, Bs⟩ hk;obtain ⟨Do, C8⟩ : ∃ q, q = l2.set k (recN l2 (k + 1)) := ⟨_, rfl⟩;rw [← C8] at Bu;have Cl : Do.length = n := by rw [C8, List.length_set];exact D8
       replace B0 := B0.turn ho (.inl (rfl));have E3 := Nat.le_of_eq ho.size.symm;clear ho hk Bc Bm Bn Bo Bp Bq Br Bs B2 B3 B4 B7 B8 Ba Bb;refine ⟨trivial, ?_⟩;refine wL 16 (pw g ((k + 1) * 7)) hR (fun w _ => ex_index (p := sv g 0 n c) (i := iv ((k + 1 : Nat) : Int)) rfl (by kernel_rfl) (by kernel_rfl) (ix23z (k := k + 1) (by omega))) trivial ?_;have Bc : k + 1 < Do.length := by omega
       have B2 := Bu.w0 Bc;have B3 := Bu.w1 Bc;have B4 := Bu.w2 Bc;have B7 := Bu.w3 Bc;have B8 := Bu.w4 Bc;have Ba := Bu.w5 Bc;have Bb := Bu.w6 Bc;refine wS 17 hR (sn_setK7 (O := g) (j := (k + 1) * 7) (v0 := iv ((recN l2 k).c : Int)) (v1 := iv ((recN l2 k).n : Int)) (v2 := iv ((recN l2 k).t : Int)) (v3 := iv ((recN l2 k).o : Int)) (v4 := iv ((recN l2 k).w : Int)) (v5 := iv ((recN l2 k).k : Int)) (v6 := .string ((recN l2 k).x)) (ex_store (p := pw g ((k + 1) * 7)) (v := rvv (recN l2 k)) rfl (by kernel_rfl) (by kernel_rfl) (st49 B2.1 B2.2 B3.1 B3.2 B4.1 B4.2 B7.1 B7.2 B8.1 B8.2 Ba.1 Ba.2 Bb.1 Bb.2)) B2 B3 B4 B7 B8 Ba Bb ?_);intro F1 ho Bm Bn Bo Bp Bq Br Bs hk;have D3 := RecsW.set (i := k + 1) (x := (recN l2 k)) Bu ⟨Bm, Bn, Bo, Bp, Bq, Br, Bs⟩ hk;obtain ⟨Ev, C9⟩ : ∃ q, q = Do.set (k + 1) (recN l2 k) := ⟨_, rfl⟩;rw [← C9] at D3;have D9 : Ev.length = n := by rw [C9, List.length_set];exact Cl
       replace B0 := B0.turn ho (.inl (rfl));have E4 := Nat.le_of_eq ho.size.symm;clear ho hk Bc Bm Bn Bo Bp Bq Br Bs B2 B3 B4 B7 B8 Ba Bb;refine ⟨trivial, ?_⟩;refine we hL hR hK ?_;exact zl hJ [0, 10, 13] ⟨Do, Ev, rfl, B0, Cl, C8, D3, D9, C9, (T Di (T E3 E4))⟩
     ·
      clear B0 Bx;rintro L ws Ep ⟨Cj, Ct, rfl, B0, Cc, Bz, Cg, Cd, C0, Dv⟩;have F4 := Ext.refl Ep;refine qw_block (zq (zp (pT (iv k) ?_)));refine pU (iv ((k + 1 : Nat) : Int)) (ew (by omega) (by omega)) ?_;refine pT (iv ((k + 1 : Nat) : Int)) ?_;refine pl_nil (qw_round [0, 10, 13] (ws' := [(0, sv g 0 n c), (10, iv i), (13, iv ((k + 1 : Nat) : Int))]) (by kernel_rfl) _ ?_ ⟨(k + 1), Ct, rfl, rfl, (T Dz Dv), B0, Cg, by omega, by omega, Cd, (by rw [C0, Bz]; exact hU.step (by omega) (by omega) (by omega))⟩);omega
    ·
     have Dr : Rep.Mgd l l2 a b := by
      obtain rfl : k = i - 1 := by omega
      obtain rfl : m1 = a + 1 := by omega
      exact hU.done hB (by omega) (by omega) Cr (by rw [show i = j by omega]; exact Cs)
     refine zc (zc (zp (pD (iv k) (iv i) ?_)));refine pU (iv ((i - 1 : Nat) : Int)) (ev_wrapN (a := ((i : Nat) : Int) - ((1 : Nat) : Int)) (k := i - 1) (by kernel_rfl) (by omega) (by omega)) ?_;refine pU (.bool false) (en (((k : Nat) : Int) < ((i - 1 : Nat) : Int)) (by omega)) ?_;refine zn (zf ?_);refine cw_exit (qw_then_exit (qw_then_exit (qw_block_out (zq (cw_ret (qw_then_ret (qw_ret [] rfl trivial ?_)))))));exact ⟨rfl, _, C4, Dr, B0⟩
  ·
   refine pU (.bool false) (eN ((m1 - a : Nat) : Int) (1 : Int) (D6)) ?_;refine zn (zf ?_);refine cw_skip (zq (zc (zc (zp (pD (iv b) (iv m1) ?_)))));refine pU (iv ((b - m1 : Nat) : Int)) (ev_wrapN (a := ((b : Nat) : Int) - ((m1 : Nat) : Int)) (k := b - m1) (by kernel_rfl) (by omega) (by omega)) ?_
   by_cases D7 : ((b - m1 : Nat) : Int) = (1 : Int)
   ·
    refine pU (.bool true) (eE ((b - m1 : Nat) : Int) (1 : Int) (D7)) ?_;refine zn (zt ?_);refine zc (zp (pD (iv a) (iv a) ?_));refine zn (cK [0,2,4,14] (fun L => ?_));refine zc (zp (pD (iv m1) (iv m1) ?_));refine zn (zc (cw_block ?_));refine cw_loop [0, 2, 4, 14, 15] (fun ws' wr m => ∃ i j : Nat, ws' = [(0, sv g 0 n c), (2, iv m1), (4, .func (.func 51) #[] #[]), (14, iv i), (15, iv j)] ∧ m = j - i ∧ w.heap.size ≤ wr.heap.size ∧ Ext w wr ∧ Wrote (fun k => k = g) w wr ∧ i ≤ j ∧ a ≤ i ∧ j ≤ m1 ∧ (i = a ∨ ¬ Rep.ltL (recN l m1) (recN l (i - 1))) ∧ (j = m1 ∨ Rep.ltL (recN l m1) (recN l j))) (ws0 := [(0, sv g 0 n c), (2, iv m1), (4, .func (.func 51) #[] #[]), (14, iv a), (15, iv m1)]) (by kernel_rfl) _ ⟨a, m1, rfl, rfl, Nat.le_refl _, hE, B0, by omega, Nat.le_refl _, Nat.le_refl _, .inl rfl, .inl rfl⟩ ?_;clear B0 hE;rintro Fs L ws Fi ⟨i, j, rfl, rfl, Dj, hE, B0, hij, hil, hjh, Cr, Cs⟩
    by_cases hlt : i < j
    ·
     by_cases hq : Rep.listC (recN l m1) (recN l ((i + j) / 2)) < 0
     ·
      refine zc (zc (zp (pD (iv i) (iv j) ?_)));refine pU (.bool true) (ed (((i : Nat) : Int) < ((j : Nat) : Int)) (by omega)) ?_;refine zn (zt ?_);refine cw_skip (zq (cw_block ?_));refine zc (zp (pD (iv i) (iv j) ?_));refine pU (iv ((i + j : Nat) : Int)) (ew (by omega) (by omega)) ?_;refine pU (.int .u64 ((i + j : Nat) : Int)) (ev_wrapU (a := ((i + j : Nat) : Int)) (by kernel_rfl) (by omega) (by omega)) ?_;refine pU (.int .u64 ((((i + j) / 2 : Nat) : Int) : Int)) (ex_binV (a := .int .u64 ((i + j : Nat) : Int)) (b := .int .u64 1) rfl (by kernel_rfl) (by kernel_rfl) eqG_shr bin_shrU1) ?_;refine pU (iv ((((i + j) / 2 : Nat) : Int) : Int)) (ev_wrapN (a := (((i + j) / 2 : Nat) : Int)) (k := (i + j) / 2) (by kernel_rfl) (by omega) (by omega)) ?_;refine pT (iv ((((i + j) / 2 : Nat) : Int) : Int)) ?_;refine zn (cK [0,2,4,14,15,16] (fun L => ?_));refine zc (dE Tz20_2 (fun w' => RecAt w' g (m1 * 7) (recN l m1) ∧ RecAt w' g (((i + j) / 2) * 7) (recN l ((i + j) / 2))) (⟨((hRc.ext hE).ra (i := m1) (by omega)), ((hRc.ext hE).ra (i := (i + j) / 2) (by omega))⟩) (fun ops Q Fj hb hL hR hK => ?_));replace hE := hE.trans hb;replace B0 := B0.step hb;have E5 := hb.size;have hS := A2 ((hRc.ext hE).ra (i := m1) (by omega)) ((hRc.ext hE).ra (i := (i + j) / 2) (by omega));refine wW 0 (.func (.func 51) #[] #[]) 1 (sv g 0 n c) hR hS ?_;refine wV 2 (iv m1) hR hS ?_;refine wL 3 (pw g (m1 * 7)) hR (fun w _ => ex_index (p := sv g 0 n c) (i := iv m1) rfl (by kernel_rfl) (by kernel_rfl) (ix23z (k := m1) (by omega))) hS ?_;refine wM 4 (rvv (recN l m1)) hR (fun w hS => rl hS.1) hS ?_;refine wW 5 (sv g 0 n c) 6 (iv ((((i + j) / 2 : Nat) : Int) : Int)) hR hS ?_;refine wL 7 (pw g (((i + j) / 2) * 7)) hR (fun w _ => ex_index (p := sv g 0 n c) (i := iv (((i + j) / 2 : Nat) : Int)) rfl (by kernel_rfl) (by kernel_rfl) (ix23z (k := (i + j) / 2) (by omega))) hS ?_;refine wM 8 (rvv (recN l ((i + j) / 2))) hR (fun w hS => rl hS.2) hS ?_;refine wC 9 51 #[rvv (recN l m1), rvv (recN l ((i + j) / 2))] hR ((listed_c ((recN l m1)) ((recN l ((i + j) / 2))) _).mono ?_);rintro e Fv ⟨rfl, hb⟩;replace hE := hE.trans hb;replace B0 := B0.step hb;have E6 := hb.size;have hS := A2 ((hRc.ext hE).ra (i := m1) (by omega)) ((hRc.ext hE).ra (i := (i + j) / 2) (by omega));refine ⟨_, rfl, hS, ?_⟩;refine wL 10 (.bool true) hR (fun w _ => ev_dec (show _ = Result.ok (Next.value (Value.bool (decide ((Rep.listC ((recN l m1)) ((recN l ((i + j) / 2))) : Int) < (0 : Int))))) _ from by kernel_rfl) (hq)) hS ?_;refine wV 11 (.bool false) hR hS ?_;refine we hL hR hK ?_;refine zq (cK [0,2,4,14,15,16,103] (fun L => ?_));refine zf ?_;refine zp (pD (iv ((((i + j) / 2 : Nat) : Int) : Int)) (iv ((((i + j) / 2 : Nat) : Int) : Int)) ?_);refine pl_nil (qw_block (zr [0, 2, 4, 14, 15] _ ?_ ⟨i, ((i + j) / 2), rfl, rfl, (T Dj (T E5 E6)), hE, B0, by omega, by omega, by omega, Cr, (.inr (Rep.listC_neg.1 hq))⟩));omega
     ·
      refine zc (zc (zp (pD (iv i) (iv j) ?_)));refine pU (.bool true) (ed (((i : Nat) : Int) < ((j : Nat) : Int)) (by omega)) ?_;refine zn (zt ?_);refine cw_skip (zq (cw_block ?_));refine zc (zp (pD (iv i) (iv j) ?_));refine pU (iv ((i + j : Nat) : Int)) (ew (by omega) (by omega)) ?_;refine pU (.int .u64 ((i + j : Nat) : Int)) (ev_wrapU (a := ((i + j : Nat) : Int)) (by kernel_rfl) (by omega) (by omega)) ?_;refine pU (.int .u64 ((((i + j) / 2 : Nat) : Int) : Int)) (ex_binV (a := .int .u64 ((i + j : Nat) : Int)) (b := .int .u64 1) rfl (by kernel_rfl) (by kernel_rfl) eqG_shr bin_shrU1) ?_;refine pU (iv ((((i + j) / 2 : Nat) : Int) : Int)) (ev_wrapN (a := (((i + j) / 2 : Nat) : Int)) (k := (i + j) / 2) (by kernel_rfl) (by omega) (by omega)) ?_;refine pT (iv ((((i + j) / 2 : Nat) : Int) : Int)) ?_;refine zn (cK [0,2,4,14,15,16] (fun L => ?_));refine zc (dE Tz20_2 (fun w' => RecAt w' g (m1 * 7) (recN l m1) ∧ RecAt w' g (((i + j) / 2) * 7) (recN l ((i + j) / 2))) (⟨((hRc.ext hE).ra (i := m1) (by omega)), ((hRc.ext hE).ra (i := (i + j) / 2) (by omega))⟩) (fun ops Q Fk hb hL hR hK => ?_));replace hE := hE.trans hb;replace B0 := B0.step hb;have E7 := hb.size;have hS := A2 ((hRc.ext hE).ra (i := m1) (by omega)) ((hRc.ext hE).ra (i := (i + j) / 2) (by omega));refine wW 0 (.func (.func 51) #[] #[]) 1 (sv g 0 n c) hR hS ?_;refine wV 2 (iv m1) hR hS ?_;refine wL 3 (pw g (m1 * 7)) hR (fun w _ => ex_index (p := sv g 0 n c) (i := iv m1) rfl (by kernel_rfl) (by kernel_rfl) (ix23z (k := m1) (by omega))) hS ?_;refine wM 4 (rvv (recN l m1)) hR (fun w hS => rl hS.1) hS ?_;refine wW 5 (sv g 0 n c) 6 (iv ((((i + j) / 2 : Nat) : Int) : Int)) hR hS ?_;refine wL 7 (pw g (((i + j) / 2) * 7)) hR (fun w _ => ex_index (p := sv g 0 n c) (i := iv (((i + j) / 2 : Nat) : Int)) rfl (by kernel_rfl) (by kernel_rfl) (ix23z (k := (i + j) / 2) (by omega))) hS ?_;refine wM 8 (rvv (recN l ((i + j) / 2))) hR (fun w hS => rl hS.2) hS ?_;refine wC 9 51 #[rvv (recN l m1), rvv (recN l ((i + j) / 2))] hR ((listed_c ((recN l m1)) ((recN l ((i + j) / 2))) _).mono ?_);rintro e Fw ⟨rfl, hb⟩;replace hE := hE.trans hb;replace B0 := B0.step hb;have E8 := hb.size;have hS := A2 ((hRc.ext hE).ra (i := m1) (by omega)) ((hRc.ext hE).ra (i := (i + j) / 2) (by omega));refine ⟨_, rfl, hS, ?_⟩;refine wL 10 (.bool false) hR (fun w _ => ev_ndec (show _ = Result.ok (Next.value (Value.bool (decide ((Rep.listC ((recN l m1)) ((recN l ((i + j) / 2))) : Int) < (0 : Int))))) _ from by kernel_rfl) (hq)) hS ?_;refine wV 11 (.bool true) hR hS ?_;refine we hL hR hK ?_;refine zq (cK [0,2,4,14,15,16,103] (fun L => ?_));refine zt ?_;refine zp (pT (iv ((((i + j) / 2 : Nat) : Int) : Int)) ?_);refine pU (iv (((((i + j) / 2) + 1 : Nat) : Int) : Int)) (ew (by omega) (by omega)) ?_;refine pT (iv (((((i + j) / 2) + 1 : Nat) : Int) : Int)) ?_;refine pl_nil (qw_block (qw_round [0, 2, 4, 14, 15] (ws' := [(0, sv g 0 n c), (2, iv m1), (4, .func (.func 51) #[] #[]), (14, iv (((((i + j) / 2) + 1 : Nat) : Int) : Int)), (15, iv j)]) (by kernel_rfl) _ ?_ ⟨((i + j) / 2 + 1), j, rfl, rfl, (T Dj (T E7 E8)), hE, B0, by omega, by omega, by omega, (.inr (by rw [Nat.add_sub_cancel]; exact fun k => hq (Rep.listC_neg.2 k))), Cs⟩));omega
    ·
     refine zc (zc (zp (pD (iv i) (iv j) ?_)));refine pU (.bool false) (en (((i : Nat) : Int) < ((j : Nat) : Int)) (by omega)) ?_;refine zn (zf ?_);refine cw_exit (qw_then_exit (qw_then_exit (qw_block_out (zq (zc (zc (zp (pD (iv m1) (iv m1) ?_))))))));refine zn (cw_block ?_);have C7 := (hRc.ext hE);refine cw_loop [0, 14, 17] (fun ws' wr m => ∃ k : Nat, ∃ l2 : List Rec, ws' = [(0, sv g 0 n c), (14, iv i), (17, iv k)] ∧ m = k - i ∧ Fi.heap.size ≤ wr.heap.size ∧ Wrote (fun k => k = g) w wr ∧ RecsW wr g l2 ∧ i ≤ k ∧ k ≤ m1 ∧ l2.length = n ∧ Rep.Down l l2 a k m1) (ws0 := [(0, sv g 0 n c), (14, iv i), (17, iv m1)]) (by kernel_rfl) _ ⟨m1, l, rfl, rfl, Nat.le_refl _, B0, C7, by omega, Nat.le_refl _, hl, Rep.Down.start _ _ _⟩ ?_;clear C7 B0;rintro Ft L ws Ek ⟨k, l2, rfl, rfl, E9, B0, C4, hik, hkm, D8, hU⟩;have By := Ext.refl Ek
     by_cases hlt : i < k
     ·
      refine zc (zc (zp (pD (iv k) (iv i) ?_)));refine pU (.bool true) (ed (((k : Nat) : Int) > ((i : Nat) : Int)) (by omega)) ?_;refine zn (zt ?_);refine cw_skip (zq (zc (cw_block ?_)));refine cw_join (fun ws' Y => ∃ Ck Cu : List Rec, ws' = [(0, sv g 0 n c), (14, iv i), (17, iv k)] ∧ Wrote (fun k => k = g) w Y ∧ Ck.length = n ∧ Ck = l2.set k (recN l2 (k - 1)) ∧ RecsW Y g Cu ∧ Cu.length = n ∧ Cu = Ck.set (k - 1) (recN l2 k) ∧ Ek.heap.size ≤ Y.heap.size) (fun hJ => ?_) ?_
      ·
       refine dE Tz20_3 (fun w' => True) (trivial) (fun ops Q Cz hb hL hR hK => ?_);replace By := By.trans hb;replace B0 := B0.step hb;have Dk := hb.size;have hS := trivial;refine wW 0 (sv g 0 n c) 1 (iv k) hR hS ?_;refine wW 2 (sv g 0 n c) 3 (iv k) hR hS ?_;refine wL 4 (iv ((k - 1 : Nat) : Int)) hR (fun w _ => ev_wrapN (a := ((k : Nat) : Int) - ((1 : Nat) : Int)) (k := k - 1) (by kernel_rfl) (by omega) (by omega)) hS ?_;refine wW 5 (sv g 0 n c) 6 (iv k) hR hS ?_;refine wL 7 (iv ((k - 1 : Nat) : Int)) hR (fun w _ => ev_wrapN (a := ((k : Nat) : Int) - ((1 : Nat) : Int)) (k := k - 1) (by kernel_rfl) (by omega) (by omega)) hS ?_;refine wL 8 (pw g ((k - 1) * 7)) hR (fun w _ => ex_index (p := sv g 0 n c) (i := iv ((k - 1 : Nat) : Int)) rfl (by kernel_rfl) (by kernel_rfl) (ix23z (k := k - 1) (by omega))) hS ?_;refine wW 10 (sv g 0 n c) 11 (iv k) hR hS ?_;refine wL 12 (pw g (k * 7)) hR (fun w _ => ex_index (p := sv g 0 n c) (i := iv k) rfl (by kernel_rfl) (by kernel_rfl) (ix23z (k := k) (by omega))) hS ?_;refine zw 9 13 hR ?_ ?_
       ·
        refine sn_eff (v := rvv (recN l2 (k - 1))) (w' := Cz) (xl (rl ((C4.ext By).ra (i := k - 1) (by omega)))) ⟨trivial, ?_⟩;refine wS 13 hR (sn_eff (v := rvv (recN l2 k)) (w' := Cz) (ex_load rfl (by kernel_rfl) (rl ((C4.ext By).ra (i := k) (by omega)))) ⟨trivial, ?_⟩);refine wL 14 (pw g (k * 7)) hR (fun w _ => ex_index (p := sv g 0 n c) (i := iv k) rfl (by kernel_rfl) (by kernel_rfl) (ix23z (k := k) (by omega))) trivial ?_;have Bi := (C4.ext By);have Bc : k < l2.length := by omega
        have B2 := Bi.w0 Bc;have B3 := Bi.w1 Bc;have B4 := Bi.w2 Bc;have B7 := Bi.w3 Bc;have B8 := Bi.w4 Bc;have Ba := Bi.w5 Bc;have Bb := Bi.w6 Bc;refine wS 15 hR (sn_setK7 (O := g) (j := k * 7) (v0 := iv ((recN l2 (k - 1)).c : Int)) (v1 := iv ((recN l2 (k - 1)).n : Int)) (v2 := iv ((recN l2 (k - 1)).t : Int)) (v3 := iv ((recN l2 (k - 1)).o : Int)) (v4 := iv ((recN l2 (k - 1)).w : Int)) (v5 := iv ((recN l2 (k - 1)).k : Int)) (v6 := .string ((recN l2 (k - 1)).x)) (ex_store (p := pw g (k * 7)) (v := rvv (recN l2 (k - 1))) rfl (by kernel_rfl) (by kernel_rfl) (st49 B2.1 B2.2 B3.1 B3.2 B4.1 B4.2 B7.1 B7.2 B8.1 B8.2 Ba.1 Ba.2 Bb.1 Bb.2)) B2 B3 B4 B7 B8 Ba Bb ?_);intro En ho Bm Bn Bo Bp Bq Br Bs hk;have Bv := RecsW.set (i := k) (x := (recN l2 (k - 1))) Bi ⟨Bm, Bn, Bo, Bp, Bq, Br, Bs⟩ hk;obtain ⟨Ck, C1⟩ : ∃ q, q = l2.set k (recN l2 (k - 1)) := ⟨_, rfl⟩;rw [← C1] at Bv;have Ce : Ck.length = n := by rw [C1, List.length_set];exact D8
        replace B0 := B0.turn ho (.inl (rfl));have Ea := Nat.le_of_eq ho.size.symm;clear ho hk Bc Bm Bn Bo Bp Bq Br Bs B2 B3 B4 B7 B8 Ba Bb;refine ⟨trivial, ?_⟩;refine wL 16 (pw g ((k - 1) * 7)) hR (fun w _ => ex_index (p := sv g 0 n c) (i := iv ((k - 1 : Nat) : Int)) rfl (by kernel_rfl) (by kernel_rfl) (ix23z (k := k - 1) (by omega))) trivial ?_;have Bc : k - 1 < Ck.length := by omega
        have B2 := Bv.w0 Bc;have B3 := Bv.w1 Bc;have B4 := Bv.w2 Bc;have B7 := Bv.w3 Bc;have B8 := Bv.w4 Bc;have Ba := Bv.w5 Bc;have Bb := Bv.w6 Bc;refine wS 17 hR (sn_setK7 (O := g) (j := (k - 1) * 7) (v0 := iv ((recN l2 k).c : Int)) (v1 := iv ((recN l2 k).n : Int)) (v2 := iv ((recN l2 k).t : Int)) (v3 := iv ((recN l2 k).o : Int)) (v4 := iv ((recN l2 k).w : Int)) (v5 := iv ((recN l2 k).k : Int)) (v6 := .string ((recN l2 k).x)) (ex_store (p := pw g ((k - 1) * 7)) (v := rvv (recN l2 k)) rfl (by kernel_rfl) (by kernel_rfl) (st49 B2.1 B2.2 B3.1 B3.2 B4.1 B4.2 B7.1 B7.2 B8.1 B8.2 Ba.1 Ba.2 Bb.1 Bb.2)) B2 B3 B4 B7 B8 Ba Bb ?_);intro F2 ho Bm Bn Bo Bp Bq Br Bs hk;have Ci := RecsW.set (i := k - 1) (x := (recN l2 k)) Bv ⟨Bm, Bn, Bo, Bp, Bq, Br, Bs⟩ hk;obtain ⟨Cu, C2⟩ : ∃ q, q = Ck.set (k - 1) (recN l2 k) := ⟨_, rfl⟩;rw [← C2] at Ci;have Cf : Cu.length = n := by rw [C2, List.length_set];exact Ce
        replace B0 := B0.turn ho (.inl (rfl));have Eb := Nat.le_of_eq ho.size.symm;clear ho hk Bc Bm Bn Bo Bp Bq Br Bs B2 B3 B4 B7 B8 Ba Bb;refine ⟨trivial, ?_⟩;refine we hL hR hK ?_;exact zl hJ [0, 14, 17] ⟨Ck, Cu, rfl, B0, Ce, C1, Ci, Cf, C2, (T Dk (T Ea Eb))⟩
       ·
        refine sn_eff (v := rvv (recN l2 k)) (w' := Cz) (xl (rl ((C4.ext By).ra (i := k) (by omega)))) ⟨trivial, ?_⟩;refine wS 9 hR (sn_eff (v := rvv (recN l2 (k - 1))) (w' := Cz) (ex_load rfl (by kernel_rfl) (rl ((C4.ext By).ra (i := k - 1) (by omega)))) ⟨trivial, ?_⟩);refine wL 14 (pw g (k * 7)) hR (fun w _ => ex_index (p := sv g 0 n c) (i := iv k) rfl (by kernel_rfl) (by kernel_rfl) (ix23z (k := k) (by omega))) trivial ?_;have Bj := (C4.ext By);have Bc : k < l2.length := by omega
        have B2 := Bj.w0 Bc;have B3 := Bj.w1 Bc;have B4 := Bj.w2 Bc;have B7 := Bj.w3 Bc;have B8 := Bj.w4 Bc;have Ba := Bj.w5 Bc;have Bb := Bj.w6 Bc;refine wS 15 hR (sn_setK7 (O := g) (j := k * 7) (v0 := iv ((recN l2 (k - 1)).c : Int)) (v1 := iv ((recN l2 (k - 1)).n : Int)) (v2 := iv ((recN l2 (k - 1)).t : Int)) (v3 := iv ((recN l2 (k - 1)).o : Int)) (v4 := iv ((recN l2 (k - 1)).w : Int)) (v5 := iv ((recN l2 (k - 1)).k : Int)) (v6 := .string ((recN l2 (k - 1)).x)) (ex_store (p := pw g (k * 7)) (v := rvv (recN l2 (k - 1))) rfl (by kernel_rfl) (by kernel_rfl) (st49 B2.1 B2.2 B3.1 B3.2 B4.1 B4.2 B7.1 B7.2 B8.1 B8.2 Ba.1 Ba.2 Bb.1 Bb.2)) B2 B3 B4 B7 B8 Ba Bb ?_);intro Eo ho Bm Bn Bo Bp Bq Br Bs hk;have Bw := RecsW.set (i := k) (x := (recN l2 (k - 1))) Bj ⟨Bm, Bn, Bo, Bp, Bq, Br, Bs⟩ hk;obtain ⟨Dp, Ca⟩ : ∃ q, q = l2.set k (recN l2 (k - 1)) := ⟨_, rfl⟩;rw [← Ca] at Bw;have Cm : Dp.length = n := by rw [Ca, List.length_set];exact D8
        replace B0 := B0.turn ho (.inl (rfl));have Ec := Nat.le_of_eq ho.size.symm;clear ho hk Bc Bm Bn Bo Bp Bq Br Bs B2 B3 B4 B7 B8 Ba Bb;refine ⟨trivial, ?_⟩;refine wL 16 (pw g ((k - 1) * 7)) hR (fun w _ => ex_index (p := sv g 0 n c) (i := iv ((k - 1 : Nat) : Int)) rfl (by kernel_rfl) (by kernel_rfl) (ix23z (k := k - 1) (by omega))) trivial ?_;have Bc : k - 1 < Dp.length := by omega
        have B2 := Bw.w0 Bc;have B3 := Bw.w1 Bc;have B4 := Bw.w2 Bc;have B7 := Bw.w3 Bc;have B8 := Bw.w4 Bc;have Ba := Bw.w5 Bc;have Bb := Bw.w6 Bc;refine wS 17 hR (sn_setK7 (O := g) (j := (k - 1) * 7) (v0 := iv ((recN l2 k).c : Int)) (v1 := iv ((recN l2 k).n : Int)) (v2 := iv ((recN l2 k).t : Int)) (v3 := iv ((recN l2 k).o : Int)) (v4 := iv ((recN l2 k).w : Int)) (v5 := iv ((recN l2 k).k : Int)) (v6 := .string ((recN l2 k).x)) (ex_store (p := pw g ((k - 1) * 7)) (v := rvv (recN l2 k)) rfl (by kernel_rfl) (by kernel_rfl) (st49 B2.1 B2.2 B3.1 B3.2 B4.1 B4.2 B7.1 B7.2 B8.1 B8.2 Ba.1 Ba.2 Bb.1 Bb.2)) B2 B3 B4 B7 B8 Ba Bb ?_);intro F3 ho Bm Bn Bo Bp Bq Br Bs hk;have D5 := RecsW.set (i := k - 1) (x := (recN l2 k)) Bw ⟨Bm, Bn, Bo, Bp, Bq, Br, Bs⟩ hk;obtain ⟨Ew, Cb⟩ : ∃ q, q = Dp.set (k - 1) (recN l2 k) := ⟨_, rfl⟩;rw [← Cb] at D5;have Da : Ew.length = n := by rw [Cb, List.length_set];exact Cm
        replace B0 := B0.turn ho (.inl (rfl));have Ed := Nat.le_of_eq ho.size.symm;clear ho hk Bc Bm Bn Bo Bp Bq Br Bs B2 B3 B4 B7 B8 Ba Bb;refine ⟨trivial, ?_⟩;refine we hL hR hK ?_;exact zl hJ [0, 14, 17] ⟨Dp, Ew, rfl, B0, Cm, Ca, D5, Da, Cb, (T Dk (T Ec Ed))⟩
      ·
       clear B0 By;rintro L ws Er ⟨Ck, Cu, rfl, B0, Ce, C1, Ci, Cf, C2, Dw⟩;have F5 := Ext.refl Er;refine qw_block (zq (zp (pT (iv k) ?_)));refine pU (iv ((k - 1 : Nat) : Int)) (ev_wrapN (a := ((k : Nat) : Int) - ((1 : Nat) : Int)) (k := k - 1) (by kernel_rfl) (by omega) (by omega)) ?_;refine pT (iv ((k - 1 : Nat) : Int)) ?_;refine pl_nil (qw_round [0, 14, 17] (ws' := [(0, sv g 0 n c), (14, iv i), (17, iv ((k - 1 : Nat) : Int))]) (by kernel_rfl) _ ?_ ⟨(k - 1), Cu, rfl, rfl, (T E9 Dw), B0, Ci, by omega, by omega, Cf, (by rw [C2, C1]; exact hU.step (by omega) (by omega) (by omega))⟩);omega
     ·
      have Dr : Rep.Mgd l l2 a b := by
       obtain rfl : k = i := by omega
       obtain rfl : b = m1 + 1 := by omega
       exact hU.done hA (by omega) (by omega) Cr (by rw [show k = j by omega]; exact Cs)
      refine zc (zc (zp (pD (iv k) (iv i) ?_)));refine pU (.bool false) (en (((k : Nat) : Int) > ((i : Nat) : Int)) (by omega)) ?_;refine zn (zf ?_);refine cw_exit (qw_then_exit (qw_then_exit (qw_block_out (zq (cw_ret (qw_then_ret (qw_ret [] rfl trivial ?_)))))));exact ⟨rfl, _, C4, Dr, B0⟩
   ·
    refine pU (.bool false) (eN ((b - m1 : Nat) : Int) (1 : Int) (D7)) ?_;refine zn (zf ?_);refine cw_skip (zq (cw_seq ?_));obtain ⟨md, hmd⟩ : ∃ q, q = (a + b) / 2 := ⟨_, rfl⟩;refine zp (pD (iv a) (iv b) ?_);refine pU (iv ((a + b : Nat) : Int)) (ew (by omega) (by omega)) ?_;refine pU (.int .u64 ((a + b : Nat) : Int)) (ev_wrapU (a := ((a + b : Nat) : Int)) (by kernel_rfl) (by omega) (by omega)) ?_;refine pU (.int .u64 ((((a + b) / 2 : Nat) : Int) : Int)) (ex_binV (a := .int .u64 ((a + b : Nat) : Int)) (b := .int .u64 1) rfl (by kernel_rfl) (by kernel_rfl) eqG_shr bin_shrU1) ?_;refine pU (iv md) (ev_wrapN (a := (((a + b) / 2 : Nat) : Int)) (k := md) (by kernel_rfl) (by omega) (by omega)) ?_;refine pT (iv md) ?_;refine zn (cK [0,1,2,3,4,18] (fun L => ?_));refine zc (zp (pD (iv md) (iv m1) ?_));refine pU (iv ((md + m1 : Nat) : Int)) (ew (by omega) (by omega)) ?_;refine pT (iv ((md + m1 : Nat) : Int)) ?_;refine zn (zc (zp (pD (iv 0) (iv 0) ?_)));refine zn (zc (cw_join (fun ws' wr => ∃ s0 r0 : Nat, ws' = [(0, sv g 0 n c), (1, iv a), (2, iv m1), (3, iv b), (4, .func (.func 51) #[] #[]), (18, iv md), (19, iv ((md + m1 : Nat) : Int)), (20, iv s0), (21, iv r0)] ∧ w.heap.size ≤ wr.heap.size ∧ Ext w wr ∧ Wrote (fun k => k = g) w wr ∧ RecsW wr g l ∧ a ≤ s0 ∧ s0 ≤ r0 ∧ r0 ≤ m1 ∧ r0 ≤ md ∧ md + m1 ≤ s0 + b ∧ (s0 = a ∨ s0 + b = md + m1) ∧ (r0 = m1 ∨ r0 = md)) (fun hJ => ?_) ?_))
    ·
     refine cw_seq ?_
     by_cases hlt : md < m1
     ·
      refine zp (pD (iv m1) (iv md) ?_);refine pU (.bool true) (ed (((m1 : Nat) : Int) > ((md : Nat) : Int)) (by omega)) ?_;refine zn (cK [0,1,2,3,4,18,19,140] (fun L => ?_));refine zt ?_;refine zc (zp (pD (iv ((md + m1 : Nat) : Int)) (iv b) ?_));refine pU (iv ((md + m1 - b : Nat) : Int)) (ev_wrapN (a := ((md + m1 : Nat) : Int) - ((b : Nat) : Int)) (k := md + m1 - b) (by kernel_rfl) (by omega) (by omega)) ?_;refine pT (iv ((md + m1 - b : Nat) : Int)) ?_;refine zn (zp (pD (iv md) (iv md) ?_));refine pl_nil ?_;exact zl hJ [0, 1, 2, 3, 4, 18, 19, 20, 21] ⟨md + m1 - b, md, rfl, (Nat.le_refl _), (Ext.refl _), B0, hRc, by omega, by omega, by omega, by omega, by omega, by omega, by omega⟩
     ·
      refine zp (pD (iv m1) (iv md) ?_);refine pU (.bool false) (en (((m1 : Nat) : Int) > ((md : Nat) : Int)) (by omega)) ?_;refine zn (cK [0,1,2,3,4,18,19,140] (fun L => ?_));refine zf ?_;refine zc (zp (pD (iv a) (iv a) ?_));refine zn (zp (pD (iv m1) (iv m1) ?_));refine pl_nil ?_;exact zl hJ [0, 1, 2, 3, 4, 18, 19, 20, 21] ⟨a, m1, rfl, (Nat.le_refl _), (Ext.refl _), B0, hRc, by omega, by omega, by omega, by omega, by omega, by omega, by omega⟩
    ·
     clear B0 hRc hE;rintro L ws Dq ⟨s0, r0, rfl, Cx, hE, B0, hRc, Fl, Fm, E0, Fo, Fp, Fq, Eu⟩;refine zq (zc (zp (pT (iv ((md + m1 : Nat) : Int)) ?_)));refine pU (iv ((md + m1 - 1 : Nat) : Int)) (ev_wrapN (a := ((md + m1 : Nat) : Int) - ((1 : Nat) : Int)) (k := md + m1 - 1) (by kernel_rfl) (by omega) (by omega)) ?_;refine pT (iv ((md + m1 - 1 : Nat) : Int)) ?_;refine zn (zc (cw_block ?_));have Be := Ext.refl Dq;refine cw_loop [0, 1, 2, 3, 4, 18, 19, 20, 21, 22] (fun ws' wr m => ∃ i j : Nat, ws' = [(0, sv g 0 n c), (1, iv a), (2, iv m1), (3, iv b), (4, .func (.func 51) #[] #[]), (18, iv md), (19, iv ((md + m1 : Nat) : Int)), (20, iv i), (21, iv j), (22, iv ((md + m1 - 1 : Nat) : Int))] ∧ m = j - i ∧ Dq.heap.size ≤ wr.heap.size ∧ Ext w wr ∧ Ext Dq wr ∧ Wrote (fun k => k = g) w wr ∧ i ≤ j ∧ s0 ≤ i ∧ j ≤ r0 ∧ (i = s0 ∨ ¬ Rep.ltL (recN l (md + m1 - i)) (recN l (i - 1))) ∧ (j = r0 ∨ Rep.ltL (recN l (md + m1 - 1 - j)) (recN l j))) (ws0 := [(0, sv g 0 n c), (1, iv a), (2, iv m1), (3, iv b), (4, .func (.func 51) #[] #[]), (18, iv md), (19, iv ((md + m1 : Nat) : Int)), (20, iv s0), (21, iv r0), (22, iv ((md + m1 - 1 : Nat) : Int))]) (by kernel_rfl) _ ⟨s0, r0, rfl, rfl, Nat.le_refl _, hE, Be, B0, by omega, Nat.le_refl _, Nat.le_refl _, .inl rfl, .inl rfl⟩ ?_;clear B0 hE Be;rintro F8 L ws Eh ⟨i, j, rfl, rfl, C3, hE, Be, B0, hij, hil, hjh, Cr, Cs⟩
     by_cases hlt : i < j
     ·
      by_cases hq : Rep.listC (recN l (md + m1 - 1 - (i + j) / 2)) (recN l ((i + j) / 2)) < 0
      ·
       refine zc (zc (zp (pD (iv i) (iv j) ?_)));refine pU (.bool true) (ed (((i : Nat) : Int) < ((j : Nat) : Int)) (by omega)) ?_;refine zn (zt ?_);refine cw_skip (zq (cw_block ?_));refine zc (zp (pD (iv i) (iv j) ?_));refine pU (iv ((i + j : Nat) : Int)) (ew (by omega) (by omega)) ?_;refine pU (.int .u64 ((i + j : Nat) : Int)) (ev_wrapU (a := ((i + j : Nat) : Int)) (by kernel_rfl) (by omega) (by omega)) ?_;refine pU (.int .u64 ((((i + j) / 2 : Nat) : Int) : Int)) (ex_binV (a := .int .u64 ((i + j : Nat) : Int)) (b := .int .u64 1) rfl (by kernel_rfl) (by kernel_rfl) eqG_shr bin_shrU1) ?_;refine pU (iv ((((i + j) / 2 : Nat) : Int) : Int)) (ev_wrapN (a := (((i + j) / 2 : Nat) : Int)) (k := (i + j) / 2) (by kernel_rfl) (by omega) (by omega)) ?_;refine pT (iv ((((i + j) / 2 : Nat) : Int) : Int)) ?_;refine zn (cK [0,1,2,3,4,18,19,20,21,22,23] (fun L => ?_));refine zc (dE Tz20_4 (fun w' => RecAt w' g ((md + m1 - 1 - (i + j) / 2) * 7) (recN l (md + m1 - 1 - (i + j) / 2)) ∧ RecAt w' g (((i + j) / 2) * 7) (recN l ((i + j) / 2))) (⟨((hRc.ext Be).ra (i := md + m1 - 1 - (i + j) / 2) (by omega)), ((hRc.ext Be).ra (i := (i + j) / 2) (by omega))⟩) (fun ops Q Ey hb hL hR hK => ?_));refine mv2 hb hE Be fun hE Be=>?_;replace B0 := B0.step hb;have Db := hb.size;have hS := A2 ((hRc.ext Be).ra (i := md + m1 - 1 - (i + j) / 2) (by omega)) ((hRc.ext Be).ra (i := (i + j) / 2) (by omega));refine wW 0 (.func (.func 51) #[] #[]) 1 (sv g 0 n c) hR hS ?_;refine wW 2 (iv ((md + m1 - 1 : Nat) : Int)) 3 (iv ((((i + j) / 2 : Nat) : Int) : Int)) hR hS ?_;refine wL 4 (iv (((md + m1 - 1 - (i + j) / 2 : Nat) : Int) : Int)) hR (fun w _ => ev_wrapN (a := ((md + m1 - 1 : Nat) : Int) - (((i + j) / 2 : Nat) : Int)) (k := md + m1 - 1 - (i + j) / 2) (by kernel_rfl) (by omega) (by omega)) hS ?_;refine wL 5 (pw g ((md + m1 - 1 - (i + j) / 2) * 7)) hR (fun w _ => ex_index (p := sv g 0 n c) (i := iv ((md + m1 - 1 - (i + j) / 2 : Nat) : Int)) rfl (by kernel_rfl) (by kernel_rfl) (ix23z (k := md + m1 - 1 - (i + j) / 2) (by omega))) hS ?_;refine wM 6 (rvv (recN l (md + m1 - 1 - (i + j) / 2))) hR (fun w hS => rl hS.1) hS ?_;refine wW 7 (sv g 0 n c) 8 (iv ((((i + j) / 2 : Nat) : Int) : Int)) hR hS ?_;refine wL 9 (pw g (((i + j) / 2) * 7)) hR (fun w _ => ex_index (p := sv g 0 n c) (i := iv (((i + j) / 2 : Nat) : Int)) rfl (by kernel_rfl) (by kernel_rfl) (ix23z (k := (i + j) / 2) (by omega))) hS ?_;refine wM 10 (rvv (recN l ((i + j) / 2))) hR (fun w hS => rl hS.2) hS ?_;refine wC 11 51 #[rvv (recN l (md + m1 - 1 - (i + j) / 2)), rvv (recN l ((i + j) / 2))] hR ((listed_c ((recN l (md + m1 - 1 - (i + j) / 2))) ((recN l ((i + j) / 2))) _).mono ?_);rintro e Fc ⟨rfl, hb⟩;refine mv2 hb hE Be fun hE Be=>?_;replace B0 := B0.step hb;have Dc := hb.size;have hS := A2 ((hRc.ext Be).ra (i := md + m1 - 1 - (i + j) / 2) (by omega)) ((hRc.ext Be).ra (i := (i + j) / 2) (by omega));refine ⟨_, rfl, hS, ?_⟩;refine wL 12 (.bool true) hR (fun w _ => ev_dec (show _ = Result.ok (Next.value (Value.bool (decide ((Rep.listC ((recN l (md + m1 - 1 - (i + j) / 2))) ((recN l ((i + j) / 2))) : Int) < (0 : Int))))) _ from by kernel_rfl) (hq)) hS ?_;refine wV 13 (.bool false) hR hS ?_;refine we hL hR hK ?_;refine zq (cK [0,1,2,3,4,18,19,20,21,22,23,171] (fun L => ?_));refine zf ?_;refine zp (pD (iv ((((i + j) / 2 : Nat) : Int) : Int)) (iv ((((i + j) / 2 : Nat) : Int) : Int)) ?_);refine pl_nil (qw_block (zr [0, 1, 2, 3, 4, 18, 19, 20, 21, 22] _ ?_ ⟨i, ((i + j) / 2), rfl, rfl, (T C3 (T Db Dc)), hE, Be, B0, by omega, by omega, by omega, Cr, (.inr (Rep.listC_neg.1 hq))⟩));omega
      ·
       refine zc (zc (zp (pD (iv i) (iv j) ?_)));refine pU (.bool true) (ed (((i : Nat) : Int) < ((j : Nat) : Int)) (by omega)) ?_;refine zn (zt ?_);refine cw_skip (zq (cw_block ?_));refine zc (zp (pD (iv i) (iv j) ?_));refine pU (iv ((i + j : Nat) : Int)) (ew (by omega) (by omega)) ?_;refine pU (.int .u64 ((i + j : Nat) : Int)) (ev_wrapU (a := ((i + j : Nat) : Int)) (by kernel_rfl) (by omega) (by omega)) ?_;refine pU (.int .u64 ((((i + j) / 2 : Nat) : Int) : Int)) (ex_binV (a := .int .u64 ((i + j : Nat) : Int)) (b := .int .u64 1) rfl (by kernel_rfl) (by kernel_rfl) eqG_shr bin_shrU1) ?_;refine pU (iv ((((i + j) / 2 : Nat) : Int) : Int)) (ev_wrapN (a := (((i + j) / 2 : Nat) : Int)) (k := (i + j) / 2) (by kernel_rfl) (by omega) (by omega)) ?_;refine pT (iv ((((i + j) / 2 : Nat) : Int) : Int)) ?_;refine zn (cK [0,1,2,3,4,18,19,20,21,22,23] (fun L => ?_));refine zc (dE Tz20_4 (fun w' => RecAt w' g ((md + m1 - 1 - (i + j) / 2) * 7) (recN l (md + m1 - 1 - (i + j) / 2)) ∧ RecAt w' g (((i + j) / 2) * 7) (recN l ((i + j) / 2))) (⟨((hRc.ext Be).ra (i := md + m1 - 1 - (i + j) / 2) (by omega)), ((hRc.ext Be).ra (i := (i + j) / 2) (by omega))⟩) (fun ops Q Ez hb hL hR hK => ?_));refine mv2 hb hE Be fun hE Be=>?_;replace B0 := B0.step hb;have Dd := hb.size;have hS := A2 ((hRc.ext Be).ra (i := md + m1 - 1 - (i + j) / 2) (by omega)) ((hRc.ext Be).ra (i := (i + j) / 2) (by omega));refine wW 0 (.func (.func 51) #[] #[]) 1 (sv g 0 n c) hR hS ?_;refine wW 2 (iv ((md + m1 - 1 : Nat) : Int)) 3 (iv ((((i + j) / 2 : Nat) : Int) : Int)) hR hS ?_;refine wL 4 (iv (((md + m1 - 1 - (i + j) / 2 : Nat) : Int) : Int)) hR (fun w _ => ev_wrapN (a := ((md + m1 - 1 : Nat) : Int) - (((i + j) / 2 : Nat) : Int)) (k := md + m1 - 1 - (i + j) / 2) (by kernel_rfl) (by omega) (by omega)) hS ?_;refine wL 5 (pw g ((md + m1 - 1 - (i + j) / 2) * 7)) hR (fun w _ => ex_index (p := sv g 0 n c) (i := iv ((md + m1 - 1 - (i + j) / 2 : Nat) : Int)) rfl (by kernel_rfl) (by kernel_rfl) (ix23z (k := md + m1 - 1 - (i + j) / 2) (by omega))) hS ?_;refine wM 6 (rvv (recN l (md + m1 - 1 - (i + j) / 2))) hR (fun w hS => rl hS.1) hS ?_;refine wW 7 (sv g 0 n c) 8 (iv ((((i + j) / 2 : Nat) : Int) : Int)) hR hS ?_;refine wL 9 (pw g (((i + j) / 2) * 7)) hR (fun w _ => ex_index (p := sv g 0 n c) (i := iv (((i + j) / 2 : Nat) : Int)) rfl (by kernel_rfl) (by kernel_rfl) (ix23z (k := (i + j) / 2) (by omega))) hS ?_;refine wM 10 (rvv (recN l ((i + j) / 2))) hR (fun w hS => rl hS.2) hS ?_;refine wC 11 51 #[rvv (recN l (md + m1 - 1 - (i + j) / 2)), rvv (recN l ((i + j) / 2))] hR ((listed_c ((recN l (md + m1 - 1 - (i + j) / 2))) ((recN l ((i + j) / 2))) _).mono ?_);rintro e Fd ⟨rfl, hb⟩;refine mv2 hb hE Be fun hE Be=>?_;replace B0 := B0.step hb;have De := hb.size;have hS := A2 ((hRc.ext Be).ra (i := md + m1 - 1 - (i + j) / 2) (by omega)) ((hRc.ext Be).ra (i := (i + j) / 2) (by omega));refine ⟨_, rfl, hS, ?_⟩;refine wL 12 (.bool false) hR (fun w _ => ev_ndec (show _ = Result.ok (Next.value (Value.bool (decide ((Rep.listC ((recN l (md + m1 - 1 - (i + j) / 2))) ((recN l ((i + j) / 2))) : Int) < (0 : Int))))) _ from by kernel_rfl) (hq)) hS ?_;refine wV 13 (.bool true) hR hS ?_;refine we hL hR hK ?_;refine zq (cK [0,1,2,3,4,18,19,20,21,22,23,171] (fun L => ?_));refine zt ?_;refine zp (pT (iv ((((i + j) / 2 : Nat) : Int) : Int)) ?_);refine pU (iv (((((i + j) / 2) + 1 : Nat) : Int) : Int)) (ew (by omega) (by omega)) ?_;refine pT (iv (((((i + j) / 2) + 1 : Nat) : Int) : Int)) ?_;refine pl_nil (qw_block (qw_round [0, 1, 2, 3, 4, 18, 19, 20, 21, 22] (ws' := [(0, sv g 0 n c), (1, iv a), (2, iv m1), (3, iv b), (4, .func (.func 51) #[] #[]), (18, iv md), (19, iv ((md + m1 : Nat) : Int)), (20, iv (((((i + j) / 2) + 1 : Nat) : Int) : Int)), (21, iv j), (22, iv ((md + m1 - 1 : Nat) : Int))]) (by kernel_rfl) _ ?_ ⟨((i + j) / 2 + 1), j, rfl, rfl, (T C3 (T Dd De)), hE, Be, B0, by omega, by omega, by omega, (.inr (by rw [Nat.add_sub_cancel, show md + m1 - ((i + j) / 2 + 1) = md + m1 - 1 - (i + j) / 2 by omega]; exact fun k => hq (Rep.listC_neg.2 k))), Cs⟩));omega
     ·
      refine zc (zc (zp (pD (iv i) (iv j) ?_)));refine pU (.bool false) (en (((i : Nat) : Int) < ((j : Nat) : Int)) (by omega)) ?_;refine zn (zf ?_);refine cw_exit (qw_then_exit (qw_then_exit (qw_block_out (zq (cw_seq ?_)))));obtain rfl : i = j := by omega
      obtain ⟨e9, F6⟩ : ∃ q, q = md + m1 - i := ⟨_, rfl⟩;have C5 : md = i + (e9 - m1) := by omega
      have Ee : i = a ∨ e9 = b ∨ Rep.le (recN l (i - 1)) (recN l e9) := by
       rcases Cr with x | x
       · omega
       · rw [F6];exact .inr (.inr x)
      have Ef : i = m1 ∨ e9 = m1 ∨ Rep.le (recN l (e9 - 1)) (recN l i) := by
       rcases Cs with x | x
       · omega
       · rw [show e9 - 1 = md + m1 - 1 - i by omega];exact .inr (.inr (Rep.le_of_lt x))
      refine zp (pD (iv ((md + m1 : Nat) : Int)) (iv i) ?_);refine pU (iv e9) (ev_wrapN (a := ((md + m1 : Nat) : Int) - ((i : Nat) : Int)) (k := e9) (by kernel_rfl) (by omega) (by omega)) ?_;refine pT (iv e9) ?_;refine zn (cK [0,1,2,3,4,18,20,24] (fun L => ?_));refine cw_seq ?_;have Bk := (hRc.ext Be);refine cw_join (fun ws' wr => ∃ l1 : List Rec, ws' = [(0, sv g 0 n c), (1, iv a), (3, iv b), (4, .func (.func 51) #[] #[]), (18, iv md), (20, iv i), (24, iv e9)] ∧ Eh.heap.size ≤ wr.heap.size ∧ Wrote (fun k => k = g) w wr ∧ RecsW wr g l1 ∧ l1.length = n ∧ Rep.Rot l l1 i m1 e9) (fun hJ => ?_) ?_
      ·
       refine cw_seq ?_
       by_cases D6 : i < m1
       ·
        by_cases Es : m1 < e9
        ·
         refine zp (pD (iv i) (iv m1) ?_);refine pU (.bool true) (ed (((i : Nat) : Int) < ((m1 : Nat) : Int)) (by omega)) ?_;refine pD (.bool true) (iv m1) ?_;refine pT (iv e9) ?_;refine pU (.bool true) (ed (((m1 : Nat) : Int) < ((e9 : Nat) : Int)) (by omega)) ?_;refine pT (.bool true) ?_;refine zn (cK [0,1,2,3,4,18,20,24,185] (fun L => ?_));refine zt ?_;refine zp (pD (sv g 0 n c) (iv i) ?_);refine pD (iv m1) (iv e9) ?_;refine pT (.func (.func 51) #[] #[]) ?_;refine pS (sc 126 #[sv g 0 n c, iv i, iv m1, iv e9, .func (.func 51) #[] #[]] ((rotate_c _ Bk hl (Nat.lt_of_lt_of_le hg (T Cx C3)) hn (by omega) (by omega) (by omega)).mono ?_));rintro e Fe ⟨rfl, Dl, D0, Cn, hw⟩;replace B0 := B0.wrote hw (fun k hk => (show k = g from hk) ▸ (.inl (rfl)));have Df := hw.size;have Cv : Dl.length = n := (Cn.mvd).len.trans hl;have Bf := Cn;refine ⟨_, rfl, ?_⟩;refine pl_nil ?_;exact zl hJ [0, 1, 3, 4, 18, 20, 24] ⟨Dl, rfl, Df, B0, D0, Cv, Bf⟩
        ·
         have Bf := Rep.rot_none l (a := i) (m := m1) (b := e9) (by omega) (by omega) (by omega);refine zp (pD (iv i) (iv m1) ?_);refine pU (.bool true) (ed (((i : Nat) : Int) < ((m1 : Nat) : Int)) (by omega)) ?_;refine pD (.bool true) (iv m1) ?_;refine pT (iv e9) ?_;refine pU (.bool false) (en (((m1 : Nat) : Int) < ((e9 : Nat) : Int)) (by omega)) ?_;refine pT (.bool false) ?_;refine zn (cK [0,1,2,3,4,18,20,24,185] (fun L => ?_));refine zf ?_;refine cw_skip ?_;exact zl hJ [0, 1, 3, 4, 18, 20, 24] ⟨l, rfl, (Nat.le_refl _), B0, Bk, hl, Bf⟩
       ·
        have Bf := Rep.rot_none l (a := i) (m := m1) (b := e9) (by omega) (by omega) (by omega);refine zp (pD (iv i) (iv m1) ?_);refine pU (.bool false) (en (((i : Nat) : Int) < ((m1 : Nat) : Int)) (by omega)) ?_;refine pT (.bool false) ?_;refine pK ?_;refine pK ?_;refine pK ?_;refine pT (.bool false) ?_;refine zn (cK [0,1,2,3,4,18,20,24,185] (fun L => ?_));refine zf ?_;refine cw_skip ?_;exact zl hJ [0, 1, 3, 4, 18, 20, 24] ⟨l, rfl, (Nat.le_refl _), B0, Bk, hl, Bf⟩
      ·
       clear Bk B0;rintro L ws Ei ⟨l1, rfl, Cq, B0, Dn, Ch, hr⟩;refine zq (zc (cw_join (fun ws' wr => ∃ l2 : List Rec, ws' = [(0, sv g 0 n c), (3, iv b), (4, .func (.func 51) #[] #[]), (18, iv md), (24, iv e9)] ∧ Ei.heap.size ≤ wr.heap.size ∧ Wrote (fun k => k = g) w wr ∧ RecsW wr g l2 ∧ l2.length = n ∧ Rep.Mgd l1 l2 a md) (fun hJ => ?_) ?_))
       ·
        refine cw_seq ?_
        by_cases D6 : a < i
        ·
         by_cases Es : i < md
         ·
          refine zp (pD (iv a) (iv i) ?_);refine pU (.bool true) (ed (((a : Nat) : Int) < ((i : Nat) : Int)) (by omega)) ?_;refine pD (.bool true) (iv i) ?_;refine pT (iv md) ?_;refine pU (.bool true) (ed (((i : Nat) : Int) < ((md : Nat) : Int)) (by omega)) ?_;refine pT (.bool true) ?_;refine zn (cK [0,1,3,4,18,20,24,199] (fun L => ?_));refine zt ?_;refine zp (pD (sv g 0 n c) (iv a) ?_);refine pD (iv i) (iv md) ?_;refine pT (.func (.func 51) #[] #[]) ?_;refine pS (sc 121 #[sv g 0 n c, iv a, iv i, iv md, .func (.func 51) #[] #[]] ((ih _ Dn Ch (by omega) hn (by omega) (by omega) (by omega) (by omega) (Rep.sd_1 hA (by omega) hr) ((Rep.sd_2 hB (by omega) hr).sub (Nat.le_refl _) (by omega))).mono ?_));rintro e Ff ⟨rfl, Dm, D1, Co, hw⟩;replace B0 := B0.wrote hw (fun k hk => (show k = g from hk) ▸ (.inl (rfl)));have Dh := hw.size;have Cw : Dm.length = n := (Co.mvd).len.trans Ch;have Bf := Co;refine ⟨_, rfl, ?_⟩;refine pl_nil ?_;exact zl hJ [0, 3, 4, 18, 24] ⟨Dm, rfl, Dh, B0, D1, Cw, Bf⟩
         ·
          have Bf : Rep.Mgd l1 l1 a md := ⟨Rep.Mvd.refl _ _ _, by rcases Nat.lt_or_ge a i with q | q; exact (Rep.sd_1 hA (by omega) hr).sub (Nat.le_refl _) (by omega); have z := Rep.sd_2 hB (by omega) hr; exact z.sub (by omega) (by omega)⟩;refine zp (pD (iv a) (iv i) ?_);refine pU (.bool true) (ed (((a : Nat) : Int) < ((i : Nat) : Int)) (by omega)) ?_;refine pD (.bool true) (iv i) ?_;refine pT (iv md) ?_;refine pU (.bool false) (en (((i : Nat) : Int) < ((md : Nat) : Int)) (by omega)) ?_;refine pT (.bool false) ?_;refine zn (cK [0,1,3,4,18,20,24,199] (fun L => ?_));refine zf ?_;refine cw_skip ?_;exact zl hJ [0, 3, 4, 18, 24] ⟨l1, rfl, (Nat.le_refl _), B0, Dn, Ch, Bf⟩
        ·
         have Bf : Rep.Mgd l1 l1 a md := ⟨Rep.Mvd.refl _ _ _, by rcases Nat.lt_or_ge a i with q | q; exact (Rep.sd_1 hA (by omega) hr).sub (Nat.le_refl _) (by omega); have z := Rep.sd_2 hB (by omega) hr; exact z.sub (by omega) (by omega)⟩;refine zp (pD (iv a) (iv i) ?_);refine pU (.bool false) (en (((a : Nat) : Int) < ((i : Nat) : Int)) (by omega)) ?_;refine pT (.bool false) ?_;refine pK ?_;refine pK ?_;refine pK ?_;refine pT (.bool false) ?_;refine zn (cK [0,1,3,4,18,20,24,199] (fun L => ?_));refine zf ?_;refine cw_skip ?_;exact zl hJ [0, 3, 4, 18, 24] ⟨l1, rfl, (Nat.le_refl _), B0, Dn, Ch, Bf⟩
       ·
        clear B0 Dn;rintro L ws Fg ⟨l2, rfl, Dg, B0, Dt, D4, g2⟩;refine zq (cw_seq ?_)
        by_cases D6 : md < e9
        ·
         by_cases Es : e9 < b
         ·
          refine zp (pD (iv md) (iv e9) ?_);refine pU (.bool true) (ed (((md : Nat) : Int) < ((e9 : Nat) : Int)) (by omega)) ?_;refine pD (.bool true) (iv e9) ?_;refine pT (iv b) ?_;refine pU (.bool true) (ed (((e9 : Nat) : Int) < ((b : Nat) : Int)) (by omega)) ?_;refine pT (.bool true) ?_;refine zn (zt ?_);refine zp (pD (sv g 0 n c) (iv md) ?_);refine pD (iv e9) (iv b) ?_;refine pT (.func (.func 51) #[] #[]) ?_;refine pS (sc 121 #[sv g 0 n c, iv md, iv e9, iv b, .func (.func 51) #[] #[]] ((ih _ Dt D4 (by omega) hn (by omega) (by omega) (by omega) (by omega) (((Rep.sd_3 hA (by omega) hr).sub (a' := md) (by omega) (Nat.le_refl _)).out g2.mvd (.inr (Nat.le_refl _))) ((Rep.sd_4 hB (by omega) hr).out g2.mvd (.inr (by omega)))).mono ?_));rintro e Fh ⟨rfl, Eg, D2, Cp, hw⟩;replace B0 := B0.wrote hw (fun k hk => (show k = g from hk) ▸ (.inl (rfl)));have Et := hw.size;have Du : Eg.length = n := (Cp.mvd).len.trans D4;have Bf := Cp;refine ⟨_, rfl, ?_⟩;refine pl_nil (qw_end [] rfl trivial ?_);exact ⟨rfl, _, D2, Rep.sym_join hA hB (by omega) (by omega) (by omega) (by omega) hr Ee Ef (by rw [← C5]; exact g2) (by rw [← C5]; exact Bf), B0⟩
         ·
          have Bf : Rep.Mgd l2 l2 md b := ⟨Rep.Mvd.refl _ _ _, by rcases Nat.lt_or_ge md e9 with q | q; exact (((Rep.sd_3 hA (by omega) hr).sub (a' := md) (by omega) (Nat.le_refl _)).out g2.mvd (.inr (Nat.le_refl _))).sub (Nat.le_refl _) (by omega); exact ((Rep.sd_4 hB (by omega) hr).out g2.mvd (.inr (by omega))).sub (by omega) (Nat.le_refl _)⟩;refine zp (pD (iv md) (iv e9) ?_);refine pU (.bool true) (ed (((md : Nat) : Int) < ((e9 : Nat) : Int)) (by omega)) ?_;refine pD (.bool true) (iv e9) ?_;refine pT (iv b) ?_;refine pU (.bool false) (en (((e9 : Nat) : Int) < ((b : Nat) : Int)) (by omega)) ?_;refine pT (.bool false) ?_;refine zn (zf ?_);refine cw_skip (qw_end [] rfl trivial ?_);exact ⟨rfl, _, Dt, Rep.sym_join hA hB (by omega) (by omega) (by omega) (by omega) hr Ee Ef (by rw [← C5]; exact g2) (by rw [← C5]; exact Bf), B0⟩
        ·
         have Bf : Rep.Mgd l2 l2 md b := ⟨Rep.Mvd.refl _ _ _, by rcases Nat.lt_or_ge md e9 with q | q; exact (((Rep.sd_3 hA (by omega) hr).sub (a' := md) (by omega) (Nat.le_refl _)).out g2.mvd (.inr (Nat.le_refl _))).sub (Nat.le_refl _) (by omega); exact ((Rep.sd_4 hB (by omega) hr).out g2.mvd (.inr (by omega))).sub (by omega) (Nat.le_refl _)⟩;refine zp (pD (iv md) (iv e9) ?_);refine pU (.bool false) (en (((md : Nat) : Int) < ((e9 : Nat) : Int)) (by omega)) ?_;refine pT (.bool false) ?_;refine pK ?_;refine pK ?_;refine pK ?_;refine pT (.bool false) ?_;refine zn (zf ?_);refine cw_skip (qw_end [] rfl trivial ?_);exact ⟨rfl, _, Dt, Rep.sym_join hA hB (by omega) (by omega) (by omega) (by omega) hr Ee Ef (by rw [← C5]; exact g2) (by rw [← C5]; exact Bf), B0⟩
end Go.Proofs.YtfmoabgjaclkpaaGreatDoor

namespace Go.Proofs.YtfmoabgjaclkpaaGreatDoor
set_option maxRecDepth 1000000
set_option maxHeartbeats 4000000
set_option synthInstance.maxHeartbeats 0
set_option synthInstance.maxSize 9999
open Go.RowKit
namespace Rep
def Bl (l : List Rec) (z lo hi : Nat) : Prop := ∀ k i j, lo ≤ i → z * k ≤ i → i < j → j < z * (k + 1) → j < hi → le (recN l i) (recN l j)
theorem blk_lt {z k K i : Nat} (h1 : z * k ≤ i) (h2 : i < z * K) : z * (k + 1) ≤ z * K := Nat.mul_le_mul_left z (Nat.lt_of_mul_lt_mul_left (Nat.lt_of_le_of_lt h1 h2))
theorem Bl.next {l l' : List Rec} {z a K b : Nat} (h : Bl l z 0 a) (ha : a = z * K) (g : Mgd l l' a b) : Bl l' z 0 b := by
  subst ha
  intro k i j _ h1 h2 h3 h4
  rcases Nat.lt_or_ge j (z * K) with q | q
  · rw [g.mvd.out i (.inl (by omega)), g.mvd.out j (.inl q)]; exact h k i j (Nat.zero_le _) h1 h2 h3 q
  · rcases Nat.lt_or_ge i (z * K) with q2 | q2
    · have := blk_lt h1 q2; omega
    · exact g.sd i j q2 h2 h4
theorem Bl.keep {l l' : List Rec} {z lo hi c d : Nat} (h : Bl l z lo hi) (m : Mvd l l' c d) (hd : d ≤ lo) : Bl l' z lo hi := fun k i j h0 h1 h2 h3 h4 => by
 rw [m.out i (.inr (by omega)), m.out j (.inr (by omega))]; exact h k i j h0 h1 h2 h3 h4
theorem Bl.more {l : List Rec} {z lo lo' hi : Nat} (h : Bl l z lo hi) (hd : lo ≤ lo') : Bl l z lo' hi := fun k i j h0 => h k i j (T hd h0)
theorem Bl.sd {l : List Rec} {z a K lo hi b : Nat} (h : Bl l z lo hi) (ha : a = z * K) (h1 : lo ≤ a) (h2 : b ≤ a + z) (h3 : b ≤ hi) : Sd l a b := by
 subst ha
 exact fun i j q1 q2 q3 => h K i j (by omega) q1 q2 (by rw [Nat.mul_succ]; omega) (by omega)
theorem two_mul_mul (z K : Nat) : 2 * z * K = z * (2 * K) := by rw [Nat.mul_comm 2 z, Nat.mul_assoc]
theorem Bl.rest {l : List Rec} {z a K n : Nat} (h : Bl l (2 * z) 0 a) (ha : a = 2 * z * K) (g : Bl l z a n) (hn : n ≤ a + z) : Bl l (2 * z) 0 n := by
  subst ha
  intro k i j _ h1 h2 h3 h4
  rcases Nat.lt_or_ge j (2 * z * K) with q | q
  · exact h k i j (Nat.zero_le _) h1 h2 h3 q
  · rcases Nat.lt_or_ge i (2 * z * K) with q2 | q2
    · have := blk_lt h1 q2; omega
    · exact g (2 * K) i j q2 (by rw [← two_mul_mul]; exact q2) h2 (by rw [Nat.mul_succ, ← two_mul_mul]; omega) h4
theorem Bl.all {l : List Rec} {z n : Nat} (h : Bl l z 0 n) (hz : n ≤ z) : Sd l 0 n := fun i j _ q2 q3 => h 0 i j (Nat.zero_le _) (by omega) q2 (by omega) q3
theorem Bl.nil (l : List Rec) (z : Nat) : Bl l z 0 0 := fun k i j _ _ _ _ h => by omega
end Rep
theorem stable_c {g n c : Nat} {l : List Rec} (w : World) (hRc : RecsW w g l) (hl : l.length = n) (hg : g < w.heap.size) (hn : n ≤ 1000) : Calls Tryz.prog 106 #[sv g 0 n c, iv n, .func (.func 51) #[] #[]] w fun e w' => e = .returned (.tuple #[]) ∧ ∃ l', RecsW w' g l' ∧ Rep.Mgd l l' 0 n ∧ Wrote (fun k => k = g) w w' := by
 have B0 : Wrote (fun k => k = g) w w := Wrote.refl _ _;refine calls_cw 63 [(2, .func (.func 51) #[] #[]), (1, iv n), (0, sv g 0 n c)] Tryz.func106 rfl Tryz.ntmps106 (by kernel_rfl) (by kernel_rfl) (fun L => ?_);have hE := Ext.refl w;refine zc (zp (pT (iv 20) ?_));refine zn (zc (zp (pD (iv 20) (iv 0) ?_)));refine pT (iv 20) ?_;refine zn (zc (cw_block ?_));refine cw_loop [0, 1, 2, 6, 7, 8] (fun ws' wr m => ∃ a b K : Nat, ∃ l2 : List Rec, ws' = [(0, sv g 0 n c), (1, iv n), (2, .func (.func 51) #[] #[]), (6, iv 20), (7, iv a), (8, iv b)] ∧ m = n - a ∧ w.heap.size ≤ wr.heap.size ∧ Wrote (fun k => k = g) w wr ∧ RecsW wr g l2 ∧ a = 20 * K ∧ b = a + 20 ∧ a ≤ n ∧ l2.length = n ∧ Rep.Bl l2 20 0 a ∧ Rep.Mvd l l2 0 n) (ws0 := [(0, sv g 0 n c), (1, iv n), (2, .func (.func 51) #[] #[]), (6, iv 20), (7, iv 0), (8, iv 20)]) (by kernel_rfl) _ ⟨0, 20, 0, l, rfl, rfl, Nat.le_refl _, B0, hRc, rfl, rfl, Nat.zero_le _, hl, Rep.Bl.nil _ _, Rep.Mvd.refl _ _ _⟩ ?_;clear B0 hRc;rintro m3 L ws w2 ⟨a, b, K, l2, rfl, rfl, Bm, B0, Bo, ha, hb, han, Bp, hB, hM⟩;have Ck := Ext.refl w2
 by_cases hlt : b ≤ n
 ·
  refine zc (zc (zp (pD (iv b) (iv n) ?_)));refine pU (.bool true) (ed (((b : Nat) : Int) ≤ ((n : Nat) : Int)) (by omega)) ?_;refine zn (zt ?_);refine cw_skip (zq (cw_block ?_));refine zc (zp (pD (sv g 0 n c) (iv a) ?_));refine pD (iv b) (.func (.func 51) #[] #[]) ?_;have Cd := Bo;refine pS (sc 108 #[sv g 0 n c, iv a, iv b, .func (.func 51) #[] #[]] ((insertion_c _ Bo Bp (Nat.lt_of_lt_of_le hg Bm) hn (by omega) (by omega)).mono ?_));rintro e Cn ⟨rfl, l5, Cc, C7, hw⟩;replace B0 := B0.wrote hw (fun k hk => (show k = g from hk) ▸ (.inl (rfl)));have Bx := hw.size;have Bw : l5.length = n := (C7.mvd).len.trans Bp;have B2 := C7;refine ⟨_, rfl, ?_⟩;refine zn (zc (zp (pD (iv b) (iv b) ?_)));refine zn (cK [0,1,2,6,7,8] (fun L => ?_));refine zp (pD (iv b) (iv 20) ?_);refine pU (iv ((b + 20 : Nat) : Int)) (ew (by omega) (by omega)) ?_;refine pT (iv ((b + 20 : Nat) : Int)) ?_;refine pl_nil (qw_block (zr [0, 1, 2, 6, 7, 8] _ ?_ ⟨b, (b + 20), (K + 1), l5, rfl, rfl, (T Bm Bx), B0, Cc, by omega, rfl, by omega, Bw, (hB.next ha B2), (hM.trans (B2.mvd.wide (Nat.zero_le _) (by omega)))⟩));omega
 ·
  refine zc (zc (zp (pD (iv b) (iv n) ?_)));refine pU (.bool false) (en (((b : Nat) : Int) ≤ ((n : Nat) : Int)) (by omega)) ?_;refine zn (zf ?_);refine cw_exit (qw_then_exit (qw_then_exit (qw_block_out (zq (zc (zp (pD (sv g 0 n c) (iv a) ?_)))))));refine pD (iv n) (.func (.func 51) #[] #[]) ?_;have C4 := Bo;refine pS (sc 108 #[sv g 0 n c, iv a, iv n, .func (.func 51) #[] #[]] ((insertion_c _ Bo Bp (Nat.lt_of_lt_of_le hg Bm) hn (by omega) (by omega)).mono ?_));rintro e Cj ⟨rfl, C8, Bb, Bi, hw⟩;replace B0 := B0.wrote hw (fun k hk => (show k = g from hk) ▸ (.inl (rfl)));have Bn := hw.size;have Bf : C8.length = n := (Bi.mvd).len.trans Bp;have B2 := Bi;refine ⟨_, rfl, ?_⟩;refine zn (cw_block ?_);refine cw_loop [0, 1, 2, 6] (fun ws' wr m => ∃ z : Nat, ∃ l3 : List Rec, ws' = [(0, sv g 0 n c), (1, iv n), (2, .func (.func 51) #[] #[]), (6, iv z)] ∧ m = n - z ∧ Cj.heap.size ≤ wr.heap.size ∧ Wrote (fun k => k = g) w wr ∧ RecsW wr g l3 ∧ 20 ≤ z ∧ l3.length = n ∧ Rep.Bl l3 z 0 n ∧ Rep.Mvd l l3 0 n) (ws0 := [(0, sv g 0 n c), (1, iv n), (2, .func (.func 51) #[] #[]), (6, iv 20)]) (by kernel_rfl) _ ⟨20, C8, rfl, rfl, Nat.le_refl _, B0, Bb, Nat.le_refl _, Bf, (hB.next ha B2), (hM.trans (B2.mvd.wide (Nat.zero_le _) (Nat.le_refl _)))⟩ ?_;clear B0 Bb;rintro Cl L ws C0 ⟨z, l3, rfl, rfl, B4, B0, C3, hz, Ci, C1, C2⟩;have Ce := Ext.refl C0
  by_cases hlt : z < n
  ·
   refine zc (zc (zp (pD (iv z) (iv n) ?_)));refine pU (.bool true) (ed (((z : Nat) : Int) < ((n : Nat) : Int)) (by omega)) ?_;refine zn (zt ?_);refine cw_skip (zq (cw_block ?_));refine zc (zp (pT (iv z) ?_));refine pU (iv ((2 * z : Nat) : Int)) (ew (by omega) (by omega)) ?_;refine pD (iv 0) (iv ((2 * z : Nat) : Int)) ?_;refine zn (zc (cw_block ?_));have B7 := C3;refine cw_loop [0, 1, 2, 6, 7, 8] (fun ws' wr m => ∃ a2 b2 K2 : Nat, ∃ l4 : List Rec, ws' = [(0, sv g 0 n c), (1, iv n), (2, .func (.func 51) #[] #[]), (6, iv z), (7, iv a2), (8, iv b2)] ∧ m = n - a2 ∧ C0.heap.size ≤ wr.heap.size ∧ Wrote (fun k => k = g) w wr ∧ RecsW wr g l4 ∧ a2 = 2 * z * K2 ∧ b2 = a2 + 2 * z ∧ a2 ≤ n ∧ l4.length = n ∧ Rep.Bl l4 (2 * z) 0 a2 ∧ Rep.Bl l4 z a2 n ∧ Rep.Mvd l l4 0 n) (ws0 := [(0, sv g 0 n c), (1, iv n), (2, .func (.func 51) #[] #[]), (6, iv z), (7, iv 0), (8, iv ((2 * z : Nat) : Int))]) (by kernel_rfl) _ ⟨0, (2 * z), 0, l3, rfl, rfl, Nat.le_refl _, B0, B7, rfl, (Nat.zero_add _).symm, Nat.zero_le _, Ci, Rep.Bl.nil _ _, C1, C2⟩ ?_;clear B0 B7;rintro Cm L ws Cb ⟨a2, b2, K2, l4, rfl, rfl, B3, B0, Bc, B8, Ch, Cg, Be, Br, Ba, Bs⟩;have Cf := Ext.refl Cb
   by_cases hlt : b2 ≤ n
   ·
    refine zc (zc (zp (pD (iv b2) (iv n) ?_)));refine pU (.bool true) (ed (((b2 : Nat) : Int) ≤ ((n : Nat) : Int)) (by omega)) ?_;refine zn (zt ?_);refine cw_skip (zq (cw_block ?_));refine zc (zp (pD (sv g 0 n c) (iv a2) ?_));refine pD (iv a2) (iv z) ?_;refine pU (iv ((a2 + z : Nat) : Int)) (ew (by omega) (by omega)) ?_;refine pD (iv b2) (.func (.func 51) #[] #[]) ?_;have C5 := Bc;refine pS (sc 121 #[sv g 0 n c, iv a2, iv ((a2 + z : Nat) : Int), iv b2, .func (.func 51) #[] #[]] ((symMerge_c 1000 _ Bc Be (by omega) hn (by omega) (by omega) (by omega) (by omega) (Ba.sd (K := 2 * K2) (by rw [B8, Rep.two_mul_mul]) (Nat.le_refl _) (Nat.le_refl _) (by omega)) (Ba.sd (K := 2 * K2 + 1) (by rw [B8, Rep.two_mul_mul, Nat.mul_succ]) (by omega) (by omega) (by omega))).mono ?_));rintro e Co ⟨rfl, C9, Bu, Bj, hw⟩;replace B0 := B0.wrote hw (fun k hk => (show k = g from hk) ▸ (.inl (rfl)));have By := hw.size;have Bg : C9.length = n := (Bj.mvd).len.trans Be;have B2 := Bj;refine ⟨_, rfl, ?_⟩;refine zn (cK [0,1,2,6,8] (fun L => ?_));refine zc (zp (pD (iv b2) (iv b2) ?_));refine zn (zp (pD (iv b2) (iv z) ?_));refine pU (iv ((2 * z : Nat) : Int)) (ew (by omega) (by omega)) ?_;refine pU (iv (((b2 + (2 * z) : Nat) : Int) : Int)) (ew (by omega) (by omega)) ?_;refine pT (iv (((b2 + (2 * z) : Nat) : Int) : Int)) ?_;refine pl_nil (qw_block (qw_round [0, 1, 2, 6, 7, 8] (ws' := [(0, sv g 0 n c), (1, iv n), (2, .func (.func 51) #[] #[]), (6, iv z), (7, iv b2), (8, iv (((b2 + (2 * z) : Nat) : Int) : Int))]) (by kernel_rfl) _ ?_ ⟨b2, (b2 + 2 * z), (K2 + 1), C9, rfl, rfl, (T B3 By), B0, Bu, (by rw [Nat.mul_succ, ← B8]; exact Ch), rfl, by omega, Bg, (Br.next B8 B2), ((Ba.more (by omega)).keep B2.mvd (Nat.le_refl _)), (Bs.trans (B2.mvd.wide (Nat.zero_le _) (by omega)))⟩));omega
   ·
    refine zc (zc (zp (pD (iv b2) (iv n) ?_)));refine pU (.bool false) (en (((b2 : Nat) : Int) ≤ ((n : Nat) : Int)) (by omega)) ?_;refine zn (zf ?_);refine cw_exit (qw_then_exit (qw_then_exit (qw_block_out (zq (zc (zc (zp (pD (iv a2) (iv z) ?_))))))));refine pU (iv ((a2 + z : Nat) : Int)) (ew (by omega) (by omega)) ?_;refine pT (iv ((a2 + z : Nat) : Int)) ?_;refine zn (cw_seq ?_)
    by_cases hlt : a2 + z < n
    ·
     refine zp (pD (iv ((a2 + z : Nat) : Int)) (iv n) ?_);refine pU (.bool true) (ed (((a2 + z : Nat) : Int) < ((n : Nat) : Int)) (by omega)) ?_;refine zn (cK [0,1,2,6,7,9,54] (fun L => ?_));refine zt ?_;refine zp (pD (sv g 0 n c) (iv a2) ?_);refine pD (iv ((a2 + z : Nat) : Int)) (iv n) ?_;refine pT (.func (.func 51) #[] #[]) ?_;have C6 := Bc;refine pS (sc 121 #[sv g 0 n c, iv a2, iv ((a2 + z : Nat) : Int), iv n, .func (.func 51) #[] #[]] ((symMerge_c 1000 _ Bc Be (by omega) hn (by omega) (by omega) (by omega) (by omega) (Ba.sd (K := 2 * K2) (by rw [B8, Rep.two_mul_mul]) (Nat.le_refl _) (Nat.le_refl _) (by omega)) (Ba.sd (K := 2 * K2 + 1) (by rw [B8, Rep.two_mul_mul, Nat.mul_succ]) (by omega) (by omega) (by omega))).mono ?_));rintro e Cp ⟨rfl, Ca, Bv, Bk, hw⟩;replace B0 := B0.wrote hw (fun k hk => (show k = g from hk) ▸ (.inl (rfl)));have Bz := hw.size;have Bh : Ca.length = n := (Bk.mvd).len.trans Be;have B2 := Bk;refine ⟨_, rfl, ?_⟩;refine pl_nil (qw_then ?_);have Bq := Br.next B8 B2;have Bt := Bs.trans (B2.mvd.wide (Nat.zero_le _) (Nat.le_refl _));refine zp (pT (iv z) ?_);refine pU (iv ((z * 2 : Nat) : Int)) (ew (by omega) (by omega)) ?_;refine pT (iv ((z * 2 : Nat) : Int)) ?_;refine pl_nil (qw_block (qw_round [0, 1, 2, 6] (ws' := [(0, sv g 0 n c), (1, iv n), (2, .func (.func 51) #[] #[]), (6, iv ((z * 2 : Nat) : Int))]) (by kernel_rfl) _ ?_ ⟨(z * 2), Ca, rfl, rfl, (T B4 (T B3 Bz)), B0, Bv, by omega, Bh, (by rw [Nat.mul_comm z 2]; exact Bq), Bt⟩));omega
    ·
     have Bq := Br.rest B8 Ba (by omega);have Bt := Bs;refine zp (pD (iv ((a2 + z : Nat) : Int)) (iv n) ?_);refine pU (.bool false) (en (((a2 + z : Nat) : Int) < ((n : Nat) : Int)) (by omega)) ?_;refine zn (cK [0,1,2,6,7,9,54] (fun L => ?_));refine zf ?_;refine cw_skip (zq (zp (pT (iv z) ?_)));refine pU (iv ((z * 2 : Nat) : Int)) (ew (by omega) (by omega)) ?_;refine pT (iv ((z * 2 : Nat) : Int)) ?_;refine pl_nil (qw_block (qw_round [0, 1, 2, 6] (ws' := [(0, sv g 0 n c), (1, iv n), (2, .func (.func 51) #[] #[]), (6, iv ((z * 2 : Nat) : Int))]) (by kernel_rfl) _ ?_ ⟨(z * 2), l4, rfl, rfl, (T B4 B3), B0, Bc, by omega, Be, (by rw [Nat.mul_comm z 2]; exact Bq), Bt⟩));omega
  ·
   refine zc (zc (zp (pD (iv z) (iv n) ?_)));refine pU (.bool false) (en (((z : Nat) : Int) < ((n : Nat) : Int)) (by omega)) ?_;refine zn (zf ?_);refine cw_exit (qw_then_exit (qw_then_exit (qw_block_out (qw_end [] rfl trivial ?_))));exact ⟨rfl, _, C3, ⟨C2, C1.all (by omega)⟩, B0⟩
theorem SortStable_c {g n c : Nat} {l : List Rec} (w : World) (hRc : RecsW w g l) (hl : l.length = n) (hg : g < w.heap.size) (hn : n ≤ 1000) : Calls Tryz.prog 89 #[sv g 0 n c, .func (.func 51) #[] #[]] w fun e w' => e = .returned (.tuple #[]) ∧ ∃ l', RecsW w' g l' ∧ Rep.Mgd l l' 0 n ∧ Wrote (fun k => k = g) w w' := by
 have hW9 : Wrote (fun k => k = g) w w := Wrote.refl _ _;refine calls_cw 9 [(1, .func (.func 51) #[] #[]), (0, sv g 0 n c)] Tryz.func89 rfl Tryz.ntmps89 (by kernel_rfl) (by kernel_rfl) (fun L => ?_);have hE := Ext.refl w;refine zp (pD (sv g 0 n c) (sv g 0 n c) ?_);refine pD (iv n) (.func (.func 51) #[] #[]) ?_;refine pS (sc 106 #[sv g 0 n c, iv n, .func (.func 51) #[] #[]] ((stable_c _ hRc hl hg hn).mono ?_));rintro e w5 ⟨rfl, l1, hR2, hm4, hw⟩;replace hW9 := hW9.wrote hw (fun k hk => (show k = g from hk) ▸ (.inl (rfl)));have hs6 := hw.size;have hln3 : l1.length = n := (hm4.mvd).len.trans hl;have hG9 := hm4;refine ⟨_, rfl, ?_⟩;refine pl_nil (qw_end [] rfl trivial ?_);exact ⟨rfl, _, hR2, hG9, hW9⟩
theorem insertion_0 {a : Option Addr} {c : Nat} (w : World) : Calls Tryz.prog 108 #[.slice a 0 c, iv 0, iv 0, .func (.func 51) #[] #[]] w fun e w' => e = .returned (.tuple #[]) ∧ Ext w w' := by
 refine calls_cw 53 [(3, .func (.func 51) #[] #[]), (2, iv 0), (1, iv 0), (0, .slice a 0 c)] Tryz.func108 rfl Tryz.ntmps108 (by kernel_rfl) (by kernel_rfl) (fun L => ?_);have hE := Ext.refl w;refine zc (zp (pD (iv 0) (iv 1) ?_));refine pT (iv 1) ?_;refine zn (cw_block ?_);refine cw_loop [0, 1, 2, 3, 8] (fun ws' wr m => ws' = [(0, .slice a 0 c), (1, iv 0), (2, iv 0), (3, .func (.func 51) #[] #[]), (8, iv 1)] ∧ m = 0 ∧ w.heap.size ≤ wr.heap.size ∧ Ext w wr) (ws0 := [(0, .slice a 0 c), (1, iv 0), (2, iv 0), (3, .func (.func 51) #[] #[]), (8, iv 1)]) (by kernel_rfl) _ ⟨rfl, rfl, Nat.le_refl _, hE⟩ ?_;clear hE;rintro m3 L ws w2 ⟨rfl, rfl, hs1, hE⟩;refine zc (zc (zp (pD (iv 1) (iv 0) ?_)));refine pT (.bool false) ?_;refine zn (zf ?_);refine cw_exit (qw_then_exit (qw_then_exit (qw_block_out (qw_end [] rfl trivial ?_))));exact ⟨rfl, hE⟩
theorem stable_0 {a : Option Addr} {c : Nat} (w : World) : Calls Tryz.prog 106 #[.slice a 0 c, iv 0, .func (.func 51) #[] #[]] w fun e w' => e = .returned (.tuple #[]) ∧ Ext w w' := by
 refine calls_cw 63 [(2, .func (.func 51) #[] #[]), (1, iv 0), (0, .slice a 0 c)] Tryz.func106 rfl Tryz.ntmps106 (by kernel_rfl) (by kernel_rfl) (fun L => ?_);have hE := Ext.refl w;refine zc (zp (pT (iv 20) ?_));refine zn (zc (zp (pD (iv 20) (iv 0) ?_)));refine pT (iv 20) ?_;refine zn (zc (cw_block ?_));refine cw_loop [0, 1, 2, 6, 7, 8] (fun ws' wr m => ws' = [(0, .slice a 0 c), (1, iv 0), (2, .func (.func 51) #[] #[]), (6, iv 20), (7, iv 0), (8, iv 20)] ∧ m = 0 ∧ w.heap.size ≤ wr.heap.size ∧ Ext w wr) (ws0 := [(0, .slice a 0 c), (1, iv 0), (2, .func (.func 51) #[] #[]), (6, iv 20), (7, iv 0), (8, iv 20)]) (by kernel_rfl) _ ⟨rfl, rfl, Nat.le_refl _, hE⟩ ?_;clear hE;rintro m3 L ws w2 ⟨rfl, rfl, hs1, hE⟩;refine zc (zc (zp (pD (iv 20) (iv 0) ?_)));refine pT (.bool false) ?_;refine zn (zf ?_);refine cw_exit (qw_then_exit (qw_then_exit (qw_block_out (zq (zc (zp (pD (.slice a 0 c) (iv 0) ?_)))))));refine pD (iv 0) (.func (.func 51) #[] #[]) ?_;refine pS (sc 108 #[.slice a 0 c, iv 0, iv 0, .func (.func 51) #[] #[]] ((insertion_0 _).mono ?_));rintro e w4 ⟨rfl, hb⟩;replace hE := hE.trans hb;have hs5 := hb.size;refine ⟨_, rfl, ?_⟩;refine zn (cw_block ?_);refine cw_loop [0, 1, 2, 6] (fun ws' wr m => ws' = [(0, .slice a 0 c), (1, iv 0), (2, .func (.func 51) #[] #[]), (6, iv 20)] ∧ m = 0 ∧ w4.heap.size ≤ wr.heap.size ∧ Ext w wr) (ws0 := [(0, .slice a 0 c), (1, iv 0), (2, .func (.func 51) #[] #[]), (6, iv 20)]) (by kernel_rfl) _ ⟨rfl, rfl, Nat.le_refl _, hE⟩ ?_;clear hE;rintro m8 L ws w7 ⟨rfl, rfl, hs6, hE⟩;refine zc (zc (zp (pD (iv 20) (iv 0) ?_)));refine pT (.bool false) ?_;refine zn (zf ?_);refine cw_exit (qw_then_exit (qw_then_exit (qw_block_out (qw_end [] rfl trivial ?_))));exact ⟨rfl, hE⟩
theorem SortStable_0 {a : Option Addr} {c : Nat} (w : World) : Calls Tryz.prog 89 #[.slice a 0 c, .func (.func 51) #[] #[]] w fun e w' => e = .returned (.tuple #[]) ∧ Ext w w' := by
 refine calls_cw 9 [(1, .func (.func 51) #[] #[]), (0, .slice a 0 c)] Tryz.func89 rfl Tryz.ntmps89 (by kernel_rfl) (by kernel_rfl) (fun L => ?_);have hE := Ext.refl w;refine zp (pD (.slice a 0 c) (.slice a 0 c) ?_);refine pD (iv 0) (.func (.func 51) #[] #[]) ?_;refine pS (sc 106 #[.slice a 0 c, iv 0, .func (.func 51) #[] #[]] ((stable_0 _).mono ?_));rintro e w1 ⟨rfl, hb⟩;replace hE := hE.trans hb;have hs2 := hb.size;refine ⟨_, rfl, ?_⟩;refine pl_nil (qw_end [] rfl trivial ?_);exact ⟨rfl, hE⟩
end Go.Proofs.YtfmoabgjaclkpaaGreatDoor

namespace Go.Proofs
open Go.Shelf
def Tryz.sortR_ren : Go.Shelf.Ren := ⟨fun | 6 => 79 | 15 => 81 | 14 => 93 | 28 => 102 | 29 => 103 | 20 => 108 | 21 => 109 | 22 => 110 | 23 => 111 | 24 => 112 | 25 => 113 | 26 => 114 | 27 => 115 | 46 => 122 | 47 => 117 | 48 => 118 | 49 => 123 | 50 => 124 | 57 => 127 | n => n, fun | 22 => 23 | 24 => 49 | 25 => 72 | 3 => 3 | 39 => 102 | 0 => 0 | 53 => 122 | 55 => 110 | 4 => 4 | 46 => 115 | 45 => 114 | 50 => 119 | 5 => 5 | 9 => 9 | 66 => 131 | 70 => 93 | 76 => 138 | 77 => 139 | n => n, fun | n => n⟩
theorem Tryz.sortR : Go.Proofs.SlLaysF0.n6 Tryz.prog Tryz.sortR_ren := {
 mixed := by kernel_rfl
 f6 := ⟨Tryz.f79.name, by decide, Tryz.func79.trans (congrArg some (by kernel_rfl))⟩
 f14 := ⟨Tryz.f93.name, by decide, Tryz.func93.trans (congrArg some (by kernel_rfl))⟩
 f15 := Tryz.func81.trans (congrArg some (by kernel_rfl))
 f20 := ⟨Tryz.f108.name, by decide, Tryz.func108.trans (congrArg some (by kernel_rfl))⟩
 f21 := ⟨Tryz.f109.name, by decide, Tryz.func109.trans (congrArg some (by kernel_rfl))⟩
 f22 := ⟨Tryz.f110.name, by decide, Tryz.func110.trans (congrArg some (by kernel_rfl))⟩
 f23 := ⟨Tryz.f111.name, by decide, Tryz.func111.trans (congrArg some (by kernel_rfl))⟩
 f24 := ⟨Tryz.f112.name, by decide, Tryz.func112.trans (congrArg some (by kernel_rfl))⟩
 f25 := ⟨Tryz.f113.name, by decide, Tryz.func113.trans (congrArg some (by kernel_rfl))⟩
 f26 := ⟨Tryz.f114.name, by decide, Tryz.func114.trans (congrArg some (by kernel_rfl))⟩
 f27 := ⟨Tryz.f115.name, by decide, Tryz.func115.trans (congrArg some (by kernel_rfl))⟩
 f28 := Tryz.func102.trans (congrArg some (by kernel_rfl))
 f29 := Tryz.func103.trans (congrArg some (by kernel_rfl))
 f46 := ⟨Tryz.f122.name, by decide, Tryz.func122.trans (congrArg some (by kernel_rfl))⟩
 f47 := Tryz.func117.trans (congrArg some (by kernel_rfl))
 f48 := Tryz.func118.trans (congrArg some (by kernel_rfl))
 f49 := ⟨Tryz.f123.name, by decide, Tryz.func123.trans (congrArg some (by kernel_rfl))⟩
 f50 := ⟨Tryz.f124.name, by decide, Tryz.func124.trans (congrArg some (by kernel_rfl))⟩
 f57 := ⟨Tryz.f127.name, by decide, Tryz.func127.trans (congrArg some (by kernel_rfl))⟩
 t0 := Tryz.underlying0
 a0 := Tryz.isAgg0
 z0 := Tryz.sizeOf0
 v0 := Tryz.zeroValue0
 t3 := Tryz.underlying3
 a3 := Tryz.isAgg3
 z3 := Tryz.sizeOf3
 v3 := Tryz.zeroValue3
 t4 := Tryz.underlying4
 a4 := Tryz.isAgg4
 z4 := Tryz.sizeOf4
 v4 := Tryz.zeroValue4
 t5 := Tryz.underlying5
 a5 := Tryz.isAgg5
 z5 := Tryz.sizeOf5
 v5 := Tryz.zeroValue5
 t9 := Tryz.underlying9
 a9 := Tryz.isAgg9
 z9 := Tryz.sizeOf9
 v9 := Tryz.zeroValue9
 t22 := Tryz.underlying23
 a22 := Tryz.isAgg23
 z22 := Tryz.sizeOf23
 v22 := Tryz.zeroValue23
 t25 := Tryz.underlying72
 a25 := Tryz.isAgg72
 z25 := Tryz.sizeOf72
 v25 := Tryz.zeroValue72
 t39 := Tryz.underlying102
 a39 := Tryz.isAgg102
 z39 := Tryz.sizeOf102
 v39 := Tryz.zeroValue102
 t45 := Tryz.underlying114
 a45 := Tryz.isAgg114
 z45 := Tryz.sizeOf114
 v45 := Tryz.zeroValue114
 t46 := Tryz.underlying115
 a46 := Tryz.isAgg115
 z46 := Tryz.sizeOf115
 v46 := Tryz.zeroValue115
 t50 := Tryz.underlying119
 a50 := Tryz.isAgg119
 z50 := Tryz.sizeOf119
 v50 := Tryz.zeroValue119
 t53 := Tryz.underlying122
 a53 := Tryz.isAgg122
 z53 := Tryz.sizeOf122
 v53 := Tryz.zeroValue122
 t55 := Tryz.underlying110
 a55 := Tryz.isAgg110
 z55 := Tryz.sizeOf110
 v55 := Tryz.zeroValue110
 t66 := Tryz.underlying131
 a66 := Tryz.isAgg131
 z66 := Tryz.sizeOf131
 v66 := Tryz.zeroValue131
 t70 := Tryz.underlying93
 a70 := Tryz.isAgg93
 z70 := Tryz.sizeOf93
 v70 := Tryz.zeroValue93
 t76 := Tryz.underlying138
 a76 := Tryz.isAgg138
 z76 := Tryz.sizeOf138
 v76 := Tryz.zeroValue138
 t77 := Tryz.underlying139
 a77 := Tryz.isAgg139
 z77 := Tryz.sizeOf139
 v77 := Tryz.zeroValue139 }
def Tryz.sortL_ren : Go.Shelf.Ren := ⟨fun | 6 => 44 | 15 => 81 | 14 => 80 | 28 => 102 | 29 => 103 | 20 => 94 | 21 => 95 | 22 => 96 | 23 => 97 | 24 => 98 | 25 => 99 | 26 => 100 | 27 => 101 | 46 => 116 | 47 => 117 | 48 => 118 | 49 => 119 | 50 => 120 | 57 => 125 | n => n, fun | 22 => 66 | 24 => 23 | 25 => 73 | 3 => 3 | 39 => 102 | 0 => 0 | 53 => 122 | 55 => 110 | 4 => 4 | 46 => 115 | 45 => 114 | 50 => 119 | 5 => 5 | 9 => 9 | 66 => 131 | 70 => 93 | 76 => 138 | 77 => 139 | n => n, fun | n => n⟩
theorem Tryz.sortL : Go.Proofs.SlLaysF0.n6 Tryz.prog Tryz.sortL_ren := {
 mixed := by kernel_rfl
 f6 := ⟨Tryz.f44.name, by decide, Tryz.func44.trans (congrArg some (by kernel_rfl))⟩
 f14 := ⟨Tryz.f80.name, by decide, Tryz.func80.trans (congrArg some (by kernel_rfl))⟩
 f15 := Tryz.func81.trans (congrArg some (by kernel_rfl))
 f20 := ⟨Tryz.f94.name, by decide, Tryz.func94.trans (congrArg some (by kernel_rfl))⟩
 f21 := ⟨Tryz.f95.name, by decide, Tryz.func95.trans (congrArg some (by kernel_rfl))⟩
 f22 := ⟨Tryz.f96.name, by decide, Tryz.func96.trans (congrArg some (by kernel_rfl))⟩
 f23 := ⟨Tryz.f97.name, by decide, Tryz.func97.trans (congrArg some (by kernel_rfl))⟩
 f24 := ⟨Tryz.f98.name, by decide, Tryz.func98.trans (congrArg some (by kernel_rfl))⟩
 f25 := ⟨Tryz.f99.name, by decide, Tryz.func99.trans (congrArg some (by kernel_rfl))⟩
 f26 := ⟨Tryz.f100.name, by decide, Tryz.func100.trans (congrArg some (by kernel_rfl))⟩
 f27 := ⟨Tryz.f101.name, by decide, Tryz.func101.trans (congrArg some (by kernel_rfl))⟩
 f28 := Tryz.func102.trans (congrArg some (by kernel_rfl))
 f29 := Tryz.func103.trans (congrArg some (by kernel_rfl))
 f46 := ⟨Tryz.f116.name, by decide, Tryz.func116.trans (congrArg some (by kernel_rfl))⟩
 f47 := Tryz.func117.trans (congrArg some (by kernel_rfl))
 f48 := Tryz.func118.trans (congrArg some (by kernel_rfl))
 f49 := ⟨Tryz.f119.name, by decide, Tryz.func119.trans (congrArg some (by kernel_rfl))⟩
 f50 := ⟨Tryz.f120.name, by decide, Tryz.func120.trans (congrArg some (by kernel_rfl))⟩
 f57 := ⟨Tryz.f125.name, by decide, Tryz.func125.trans (congrArg some (by kernel_rfl))⟩
 t0 := Tryz.underlying0
 a0 := Tryz.isAgg0
 z0 := Tryz.sizeOf0
 v0 := Tryz.zeroValue0
 t3 := Tryz.underlying3
 a3 := Tryz.isAgg3
 z3 := Tryz.sizeOf3
 v3 := Tryz.zeroValue3
 t4 := Tryz.underlying4
 a4 := Tryz.isAgg4
 z4 := Tryz.sizeOf4
 v4 := Tryz.zeroValue4
 t5 := Tryz.underlying5
 a5 := Tryz.isAgg5
 z5 := Tryz.sizeOf5
 v5 := Tryz.zeroValue5
 t9 := Tryz.underlying9
 a9 := Tryz.isAgg9
 z9 := Tryz.sizeOf9
 v9 := Tryz.zeroValue9
 t22 := Tryz.underlying66
 a22 := Tryz.isAgg66
 z22 := Tryz.sizeOf66
 v22 := Tryz.zeroValue66
 t25 := Tryz.underlying73
 a25 := Tryz.isAgg73
 z25 := Tryz.sizeOf73
 v25 := Tryz.zeroValue73
 t39 := Tryz.underlying102
 a39 := Tryz.isAgg102
 z39 := Tryz.sizeOf102
 v39 := Tryz.zeroValue102
 t45 := Tryz.underlying114
 a45 := Tryz.isAgg114
 z45 := Tryz.sizeOf114
 v45 := Tryz.zeroValue114
 t46 := Tryz.underlying115
 a46 := Tryz.isAgg115
 z46 := Tryz.sizeOf115
 v46 := Tryz.zeroValue115
 t50 := Tryz.underlying119
 a50 := Tryz.isAgg119
 z50 := Tryz.sizeOf119
 v50 := Tryz.zeroValue119
 t53 := Tryz.underlying122
 a53 := Tryz.isAgg122
 z53 := Tryz.sizeOf122
 v53 := Tryz.zeroValue122
 t55 := Tryz.underlying110
 a55 := Tryz.isAgg110
 z55 := Tryz.sizeOf110
 v55 := Tryz.zeroValue110
 t66 := Tryz.underlying131
 a66 := Tryz.isAgg131
 z66 := Tryz.sizeOf131
 v66 := Tryz.zeroValue131
 t70 := Tryz.underlying93
 a70 := Tryz.isAgg93
 z70 := Tryz.sizeOf93
 v70 := Tryz.zeroValue93
 t76 := Tryz.underlying138
 a76 := Tryz.isAgg138
 z76 := Tryz.sizeOf138
 v76 := Tryz.zeroValue138
 t77 := Tryz.underlying139
 a77 := Tryz.isAgg139
 z77 := Tryz.sizeOf139
 v77 := Tryz.zeroValue139 }
def Tryz.clonR_ren : Go.Shelf.Ren := ⟨fun | 41 => 66 | n => n, fun | 22 => 23 | 23 => 49 | 4 => 4 | n => n, fun | n => n⟩
theorem Tryz.clonR : Go.Proofs.SlLaysE0.n41 Tryz.prog Tryz.clonR_ren := {
 mixed := by kernel_rfl
 f41 := ⟨Tryz.f66.name, by decide, Tryz.func66.trans (congrArg some (by kernel_rfl))⟩
 t4 := Tryz.underlying4
 a4 := Tryz.isAgg4
 z4 := Tryz.sizeOf4
 v4 := Tryz.zeroValue4
 t22 := Tryz.underlying23
 a22 := Tryz.isAgg23
 z22 := Tryz.sizeOf23
 v22 := Tryz.zeroValue23 }
def Tryz.growR_ren : Go.Shelf.Ren := ⟨fun | 4 => 105 | n => n, fun | 22 => 23 | 25 => 49 | 3 => 3 | 4 => 4 | 9 => 9 | 20 => 20 | 0 => 0 | n => n, fun | n => n⟩
theorem Tryz.growR : Go.Proofs.Lays8.n4 Tryz.prog Tryz.growR_ren := {
 mixed := by kernel_rfl
 f4 := ⟨Tryz.f105.name, by decide, Tryz.func105.trans (congrArg some (by kernel_rfl))⟩
 t0 := Tryz.underlying0
 a0 := Tryz.isAgg0
 z0 := Tryz.sizeOf0
 v0 := Tryz.zeroValue0
 t3 := Tryz.underlying3
 a3 := Tryz.isAgg3
 z3 := Tryz.sizeOf3
 v3 := Tryz.zeroValue3
 t4 := Tryz.underlying4
 a4 := Tryz.isAgg4
 z4 := Tryz.sizeOf4
 v4 := Tryz.zeroValue4
 t9 := Tryz.underlying9
 a9 := Tryz.isAgg9
 z9 := Tryz.sizeOf9
 v9 := Tryz.zeroValue9
 t20 := Tryz.underlying20
 a20 := Tryz.isAgg20
 z20 := Tryz.sizeOf20
 v20 := Tryz.zeroValue20
 t22 := Tryz.underlying23
 a22 := Tryz.isAgg23
 z22 := Tryz.sizeOf23
 v22 := Tryz.zeroValue23 }
end Go.Proofs

namespace Go.Proofs.YtfmoabgjaclkpaaGreatDoor
open Go.RowKit
theorem enc_len (x : Rec) : x.enc.length = 7 := rfl
theorem flat_at (rs : List Rec) {i q : Nat} (hi : i < rs.length) (hq : q < 7) : (Go.Sort.flatK Rec.enc 7 rs.toArray)[i * 7 + q]! = (rs[i].enc)[q]! := by
 rw [Go.Sort.get_flatK _ _ _ _ (by simp; omega), show (i * 7 + q) / 7 = i by omega, show (i * 7 + q) % 7 = q by omega]
 simp [hi]
theorem recW_holds {w : World} {g : Nat} {l : List Rec} (h : RecsW w g l) : Go.Sort.HoldsK Rec.enc 7 w g 0 l.toArray := by
 intro j hj
 have hj' : j < l.length * 7 := by simpa using hj
 obtain ⟨i, q, rfl, hq⟩ : ∃ i q, j = i * 7 + q ∧ q < 7 := ⟨j / 7, j % 7, by omega, by omega⟩
 have hi : i < l.length := by omega
 obtain ⟨h0, h1, h2, h3, h4, h5, h6⟩ := h.at_ i _ (List.getElem?_eq_getElem hi)
 rw [id, flat_at l hi hq, Nat.zero_add]
 match q, hq with
 | 0, _ => exact h0
 | 1, _ => exact h1
 | 2, _ => exact h2
 | 3, _ => exact h3
 | 4, _ => exact h4
 | 5, _ => exact h5
 | 6, _ => exact h6
theorem holds_recW {w : World} {g : Nat} {l : List Rec} (h : Go.Sort.HoldsK Rec.enc 7 w g 0 l.toArray) : RecsW w g l := ⟨fun i x hx => by
 obtain ⟨hi, rfl⟩ := List.getElem?_eq_some_iff.1 hx
 have k : ∀ q, q < 7 → BoxAt w g (i * 7 + q) ((l[i].enc)[q]!) := fun q hq => by
  have := h (i * 7 + q) (by simp; omega)
  rw [Nat.zero_add, id, flat_at l hi hq] at this
  exact this
 exact ⟨k 0 (by omega), k 1 (by omega), k 2 (by omega), k 3 (by omega), k 4 (by omega), k 5 (by omega), k 6 (by omega)⟩⟩
theorem wrote_sort {w : World} {g m : Nat} {l : List Rec} {d : Array Rec} {os : Array Obj} (h : RecsW w g l) (h0 : 0 < l.length) : Wrote (fun k => k = g) w (Go.Sort.grow (Go.Sort.putRowK Rec.enc 7 (Go.Sort.ahead w m) g 0 d) os) := by
  have hg := h.lt h0
  refine ⟨rfl, rfl, rfl, ?_, fun k hk hx => ?_, fun k o hk ho => ?_⟩
  · rw [Go.Sort.size_grow, Go.Sort.putRowK, Go.Sort.size_putRow]; exact Nat.le_add_right _ _
  · show ((w.heap.modify g _) ++ os)[k]? = _
    rw [Array.getElem?_append_left (by simpa using hk), Array.getElem?_modify, if_neg (fun e => hx e.symm)]
  · have hkl := (Array.getElem?_eq_some_iff.1 hk).1
    have hne : g ≠ k := fun e => by
      subst e
      obtain ⟨u, hu, hc⟩ := cells_of_cell (h.w0 h0).1
      rw [hk] at hu; cases hu; rw [ho] at hc; cases hc
    show ((w.heap.modify g _) ++ os)[k]? = _
    rw [Array.getElem?_append_left (by simpa using hkl), Array.getElem?_modify, if_neg hne]; exact hk
theorem swo_bef : Go.Sort.SWO (Go.Proofs.ltOf fun x y : Rec => Rep.befC x y) := by
 have e : ∀ x y : Rec, Go.Proofs.ltOf (fun x y : Rec => Rep.befC x y) x y = true ↔ Rep.ltB x y := fun x y => by
  unfold Go.Proofs.ltOf; rw [decide_eq_true_iff]; exact Rep.befC_neg
 have e2 : ∀ x y : Rec, Go.Proofs.ltOf (fun x y : Rec => Rep.befC x y) x y = false ↔ ¬ Rep.ltB x y := fun x y => by rw [← Bool.not_eq_true, e]
 refine ⟨fun x => ?_, fun x y z h k => ?_, fun x y z h k => ?_⟩
 · rw [e2]; unfold Rep.ltB Rep.ltL; omega
 · rw [e] at *; unfold Rep.ltB Rep.ltL at *; omega
 · rw [e2] at *; unfold Rep.ltB Rep.ltL at *; omega
theorem rec_order (blk off size : Nat) (w : World) : Go.Proofs.CmpLays Tryz.prog 46 #[] Rec.enc 7 (fun x y => Rep.befC x y) blk off size w :=
 fun _ _ _ _ x y => before_g x y _
theorem SortBefore_c {g n cap : Nat} {l : List Rec} (w : World) (hRc : RecsW w g l) (hl : l.length = n) (h0 : 0 < n) (hn : n ≤ 1000) :
    Calls Tryz.prog 79 #[.slice (some ⟨g, 0, none⟩) n cap, .func (.func 46) #[] #[]] w fun e w' => e = .returned (.tuple #[]) ∧ ∃ l', RecsW w' g l' ∧ l'.Perm l ∧ (l'.Pairwise fun x y => ¬ Rep.ltB y x) ∧ Wrote (fun k => k = g) w w' := by
  subst hl
  have hcon := Go.Proofs.AnyQ.slices_SortFunc Tryz.sortR 7 Tryz.isAgg49 Tryz.sizeOf49 Rec.enc enc_len rec_one (fun x y => Rep.befC x y) swo_bef 46 #[] g 0 cap l.toArray w (Go.Proofs.enters_of Tryz.func46 (by kernel_rfl) rfl)
    (rec_order g 0 l.toArray.size w) (recW_holds hRc) (hRc.lt h0) (by simp; omega)
  refine hcon.mono fun e w' ⟨he, d', m, os, ⟨hs, _, hp⟩, hso, hw⟩ => ⟨he, d'.toList, ?_, ?_, ?_, ?_⟩
  · rw [hw]
    refine holds_recW (Go.Sort.holdsK_grow Rec.enc 7 _ _ _ _ _ ?_ ?_)
    · rw [Go.Sort.putRowK, Go.Sort.size_putRow]; exact hRc.lt h0
    · exact Go.Sort.holdsK_putRowK _ _ _ _ _ l.toArray _ (Go.Sort.holdsK_ahead _ _ _ _ _ _ _ (recW_holds hRc)) (by simpa using hs)
  · have e1 : d'.extract 0 l.toArray.size = d' := by rw [← hs]; simp
    have e2 : l.toArray.extract 0 l.toArray.size = l.toArray := by simp
    rw [e1, e2] at hp; simpa using hp
  · rw [List.pairwise_iff_getElem]
    intro i j hi hj hij
    have h1 := hso i j (Nat.zero_le _) hij (by rw [← hs]; simpa using hj)
    unfold Go.Proofs.ltOf at h1
    rw [decide_eq_false_iff_not, Rep.befC_neg] at h1
    simpa [getElem!_pos, hi, hj, show i < d'.size by simpa using hi, show j < d'.size by simpa using hj] using h1
  · rw [hw]; exact wrote_sort hRc h0
theorem SortBefore_0 {a : Option Addr} {cap : Nat} (w : World) : Calls Tryz.prog 79 #[.slice a 0 cap, .func (.func 46) #[] #[]] w fun e w' => e = .returned (.tuple #[]) ∧ Ext w w' :=
 (Go.Proofs.AnyF.slices_SortFunc_none Tryz.sortR a cap _ w).mono fun _e _w' ⟨he, hw⟩ => ⟨he, hw ▸ Ext.refl _⟩
theorem Grow_c {n : Nat} (w : World) (h0 : 0 < n) (hn : n ≤ 100000) : Calls Tryz.prog 105 #[.slice none 0 0, .int .i64 ((n : Nat) : Int)] w fun e w' => ∃ g cap, e = .returned (.slice (some ⟨g, 0, none⟩) 0 cap) ∧ w.heap.size ≤ g ∧ OwnL recR w.heap.size 49 7 (.slice (some ⟨g, 0, none⟩) 0 cap) w' [] ∧ Ext w w' := by
  obtain ⟨i0, hi, hz0, hz1, hz2⟩ := info_parts recT.info
  refine (Go.Proofs.Any8.slices_Grow_grow Tryz.growR i0 _ hi hz0 (by rw [hz1]; decide) none 0 0 n [] w (Nat.le_refl _) (by omega) (by rw [hz2]; omega) (by omega) (by simp) (fun _ => rfl) (fun a h => by cases h)).mono fun _ _ ⟨he, hw⟩ => ?_
  subst hw
  have hG := grownCap_ge w (0 + n) 0 49
  have hM := grownCap_le_maxLen w (0 + n) 0 49 (by unfold maxLen; omega)
  refine ⟨w.heap.size, _, he, Nat.le_refl _, ⟨[], rfl, fun c hc => (by cases hc), ⟨rfl, .inr ⟨w.heap.size, _, _, rfl, Nat.le_refl _, heap_alloc_new w.drew _, Nat.zero_le _, hM, ?_, ?_⟩⟩, fun j x c hx => (by simp at hx)⟩, ⟨rfl, rfl, rfl, by simp, fun k hk => heap_alloc_old w.drew _ hk⟩⟩
  · rw [Array.size_append, Array.size_append, size_zeroCells, size_zeroCells, recT.zs]
    show 0 + (0 + n - 0) * 7 + (grownCap w (0 + n) 0 49 - (0 + n)) * 7 = grownCap w (0 + n) 0 49 * 7
    omega
  · simp
theorem Grow_0 (w : World) : Calls Tryz.prog 105 #[.slice none 0 0, .int .i64 0] w fun e w' => e = .returned (.slice none 0 0) ∧ Ext w w' :=
 (Go.Proofs.Any8.slices_Grow_room Tryz.growR none 0 0 0 w (Nat.le_refl _) (by omega) (by omega) (by omega)).mono fun e w' ⟨he, hw⟩ => ⟨he, hw ▸ Ext.refl _⟩
theorem recs_flat {w : World} {b o : Nat} {l : List Rec} (h : RecB w b o l) : ∀ j u, ((l.map Rec.enc).flatten)[j]? = some u → w.cell? ((⟨b, o, none⟩ : Addr).add j) = some u := fun j u hj => by
 have hlen : ∀ d ∈ l.map Rec.enc, d.length = 7 := fun d hd => by obtain ⟨x, _, rfl⟩ := List.mem_map.1 hd; rfl
 have hjl := (List.getElem?_eq_some_iff.1 hj).1
 rw [flatten_len hlen, List.length_map] at hjl
 obtain ⟨i, q, rfl, hq⟩ : ∃ i q, j = i * 7 + q ∧ q < 7 := ⟨j / 7, j % 7, by omega, by omega⟩
 have hi : i < l.length := by omega
 have f := flatten_get hlen i (by rw [List.getElem?_map, List.getElem?_eq_getElem hi]; rfl) q hq
 rw [hj] at f
 rw [Addr.add_mid, ← Nat.add_assoc]
 obtain ⟨h0, h1, h2, h3, h4, h5, h6⟩ := h.at_ i _ (List.getElem?_eq_getElem hi)
 match q, hq with
 | 0, _ => simp [Rec.enc] at f; rw [f]; exact h0
 | 1, _ => simp [Rec.enc] at f; rw [f]; exact h1
 | 2, _ => simp [Rec.enc] at f; rw [f]; exact h2
 | 3, _ => simp [Rec.enc] at f; rw [f]; exact h3
 | 4, _ => simp [Rec.enc] at f; rw [f]; exact h4
 | 5, _ => simp [Rec.enc] at f; rw [f]; exact h5
 | 6, _ => simp [Rec.enc] at f; rw [f]; exact h6
theorem app_recs {n₀ : Nat} {w : World} {l xs : List Rec} {v : Value} {k m c : Nat} {a : Option Addr} (h : OwnL recR n₀ 49 7 v w l) (hn : n₀ ≤ w.heap.size) (hl : l.length = k) (hv : ∃ a0 c0, v = .slice a0 k c0 ∧ k ≤ c0) (hx : RecsAt w a m xs) (hb : k + m ≤ 1000000) :
    ∃ a' cap w', (Builtin.append_ #[23, 23] 23 #[v, .slice a m c]).run Tryz.prog w = .ok (.slice a' (k + m) cap) w' ∧ OwnL recR n₀ 49 7 (.slice a' (k + m) cap) w' (l ++ xs) ∧ Grew n₀ w w' ∧ w.grownBy w' v.ownBlock ∧ k + m ≤ cap ∧ ((∃ g, v.ownBlock = some g) ∨ 0 < m → ∃ g, a' = some ⟨g, 0, none⟩) := by
  obtain ⟨a0, c0, rfl, hk⟩ := hv
  rcases Nat.eq_zero_or_pos m with h0 | h0
  · subst h0
    obtain rfl := List.eq_nil_of_length_eq_zero hx.len
    refine ⟨a0, c0, w, app_none recT hk, by rw [List.append_nil]; exact h, ⟨Nat.le_refl _, fun U hU _ => hU⟩, ⟨rfl, rfl, rfl, Nat.le_refl _, fun _ _ _ => rfl⟩, hk, fun q => ?_⟩
    obtain ⟨cs, q2, q3, q4, q5⟩ := h
    rcases q4.2 with ⟨z, _⟩ | ⟨g, cap, cur, z, _⟩
    · injection z with z1 z2 z3; subst z1
      rcases q with ⟨g, q⟩ | q
      · cases q
      · omega
    · injection z with z1 z2 z3; exact ⟨g, z1⟩
  · rcases hx.at_ with h3 | ⟨b, o, rfl, hx9⟩
    · omega
    have h1 := hx.len
    subst hl
    obtain ⟨cs, q2, q3, q4, q5⟩ := h
    obtain ⟨i, hi, hz0, hz1, hz2⟩ := info_parts (recT).info
    have hds : ∀ d ∈ xs.map Rec.enc, d.length = 7 := fun d hd => by obtain ⟨x, _, rfl⟩ := List.mem_map.1 hd; rfl
    have hone : ∀ u ∈ (xs.map Rec.enc).flatten, u.oneCell' = true := fun u hu => by
      obtain ⟨d, hd, hu⟩ := List.mem_flatten.1 hu
      obtain ⟨x, _, rfl⟩ := List.mem_map.1 hd
      exact rec_one x u hu
    obtain ⟨v', w', hrun, hown, hg, hiff, hat⟩ := run_append_own_at (P := Tryz.prog) w n₀ 23 23 49 i _ 7 64 (recT).under hi hz0 hz1 hz2 (recT).zs (recT).pos _ l.length cs.flatten q4 ⟨b, o, none⟩ m c (xs.map Rec.enc).flatten (by rw [flatten_len hds, List.length_map, h1]) (recs_flat hx9) hone (by unfold maxLen; omega) (by omega) hn
    rcases hown.2 with ⟨q, _⟩ | ⟨g, cap, cur, q, _, _, hc9, _⟩
    · have := (hiff.1 q).2; omega
    · subst q
      refine ⟨some ⟨g, 0, none⟩, cap, w', hrun, ⟨cs ++ xs.map Rec.enc, by simp [q2], ?_, by rw [List.flatten_append, List.length_append, h1]; exact hown, ?_⟩, ⟨hg.size, fun U hU hUn => Ext.own' hU q4 hUn hg⟩, hg, hc9, fun _ => ⟨g, rfl⟩⟩
      · intro d hd
        rcases List.mem_append.1 hd with hd | hd
        · exact q3 d hd
        · exact hds d hd
      · intro j x d hx' hd
        rcases Nat.lt_or_ge j l.length with hj | hj
        · rw [List.getElem?_append_left hj] at hx'
          rw [List.getElem?_append_left (by rw [q2]; exact hj)] at hd
          obtain ⟨F, ⟨k1, k2⟩, _⟩ := q5 j x d hx' hd
          exact ⟨[], ⟨k1, rfl⟩, fun b hb => by cases hb⟩
        · rw [List.getElem?_append_right hj] at hx'
          rw [List.getElem?_append_right (by rw [q2]; exact hj), q2, List.getElem?_map, hx'] at hd
          cases hd
          exact ⟨[], ⟨rfl, rfl⟩, fun b hb => by cases hb⟩
theorem Clone_c {w0 : World} {a : Option Addr} {n : Nat} {l : List Rec} (c : Nat) (w : World) (h : RecsAt w0 a n l) (e0 : Ext w0 w) (hn : n ≤ 1000000) :
    Calls Tryz.prog 66 #[.slice a n c] w fun e w' => ∃ a' c', e = .returned (.slice a' n c') ∧ (0 < n → ∃ g, a' = some ⟨g, 0, none⟩ ∧ w.heap.size ≤ g ∧ RecsW w' g l) ∧ (a' = none ∨ ∃ g, a' = some ⟨g, 0, none⟩) ∧ n ≤ c' ∧ Ext w w' := by
  replace h := h.ext e0
  rcases h.pl with rfl | ⟨b, o, rfl⟩
  · have hn0 : n = 0 := by
      rcases h.at_ with q | ⟨b, o, q, _⟩
      · exact q
      · cases q
    subst hn0
    exact (Go.Proofs.AnyE.slices_Clone_nil Tryz.clonR 0 c w).mono fun e w' ⟨he, hw⟩ => ⟨none, 0, he, fun q => absurd q (by omega), .inl rfl, Nat.le_refl _, hw ▸ Ext.refl _⟩
  · obtain ⟨i0, hi, hz0, hz1, hz2⟩ := info_parts recT.info
    have hB : RecB w b o l := by
      rcases h.at_ with q | ⟨b', o', q, hx⟩
      · exact ⟨fun i x hx => by have := (List.getElem?_eq_some_iff.1 hx).1; have := h.len; omega⟩
      · cases q; exact hx
    refine (Go.Proofs.AnyE.slices_Clone Tryz.clonR i0 _ 7 64 hi hz0 hz1 hz2 (recT).zs (by decide) (by intro w; kernel_rfl) b o n c (l.map Rec.enc).flatten w ?_ (by unfold maxLen; omega) (by omega) (fun j u hj => ?_) (fun u hu => ?_)).mono fun e w' ⟨v', he, hown, hne, hb⟩ => ?_
    · rw [flatten_len (size := 7) (fun d hd => by obtain ⟨x, _, rfl⟩ := List.mem_map.1 hd; rfl), List.length_map, h.len]
    · have := recs_flat hB j u hj
      rwa [Addr.add_mid] at this
    · obtain ⟨d, hd, hu⟩ := List.mem_flatten.1 hu
      obtain ⟨x, _, rfl⟩ := List.mem_map.1 hd
      exact rec_one x u hu
    · rcases hown.2 with ⟨q, _⟩ | ⟨q, cap, cur, rfl, hq, _, hcap, _⟩
      · exact absurd q hne
      · have hO : OwnL recR w.heap.size 49 7 (.slice (some ⟨q, 0, none⟩) n cap) w' l := ⟨l.map Rec.enc, by simp, fun d hd => (by obtain ⟨x, _, rfl⟩ := List.mem_map.1 hd; rfl), by rw [h.len]; exact hown, fun j x d hx hd => ⟨[], ⟨by rw [List.getElem?_map, hx] at hd; cases hd; rfl, rfl⟩, fun b hb => by cases hb⟩⟩
        exact ⟨_, _, he, fun _ => ⟨q, rfl, hq, own_recW hO h.len⟩, .inr ⟨q, rfl⟩, hcap, ⟨hb.os, hb.tape, hb.output, hb.size, hb.block⟩⟩
end Go.Proofs.YtfmoabgjaclkpaaGreatDoor

namespace Go.Proofs.YtfmoabgjaclkpaaGreatDoor
set_option maxRecDepth 1000000
set_option maxHeartbeats 4000000
set_option synthInstance.maxHeartbeats 0
set_option synthInstance.maxSize 9999
open Go.RowKit
theorem Concat_c {O n1 c1 n2 c2 : Nat} {a1 a2 : Option Addr} {l1 l2 : List Rec} (w : World) (k0 : w.cell? ⟨O, 0, none⟩ = some (.slice a1 n1 c1)) (k1 : w.cell? ⟨O, 1, none⟩ = some (.slice a2 n2 c2)) (H1 : RecsAt w a1 n1 l1) (H2 : RecsAt w a2 n2 l2) (hp : 0 < n1 + n2) (hn : n1 + n2 ≤ 1000) : Calls Tryz.prog 88 #[sv O 0 2 2] w fun e w' => ∃ g c, e = .returned (sv g 0 (n1 + n2) c) ∧ w.heap.size ≤ g ∧ RecsW w' g (l1 ++ l2) ∧ n1 + n2 ≤ c ∧ Ext w w' := by
 refine calls_cw 36 [(0, sv O 0 2 2)] Tryz.func88 rfl Tryz.ntmps88 (by kernel_rfl) (by kernel_rfl) (fun L => ?_);have hE := Ext.refl w;refine zc (zp (pT (.slice none 0 0) ?_));refine zn (zc (zp (pT (iv 0) ?_)));refine zn (zc (zc (zp (pD (sv O 0 2 2) (iv 2) ?_))));refine pT (iv 0) ?_;refine zn (cw_block ?_);refine cw_loop [0, 3, 9, 10, 11] (fun ws' wr m => ∃ i s : Nat, ws' = [(0, sv O 0 2 2), (3, iv s), (9, sv O 0 2 2), (10, iv 2), (11, iv i)] ∧ m = 2 - i ∧ w.heap.size ≤ wr.heap.size ∧ Ext w wr ∧ (i = 0 ∧ s = 0 ∨ i = 1 ∧ s = n1 ∨ i = 2 ∧ s = n1 + n2)) (ws0 := [(0, sv O 0 2 2), (3, iv 0), (9, sv O 0 2 2), (10, iv 2), (11, iv 0)]) (by kernel_rfl) _ ⟨0, 0, rfl, rfl, Nat.le_refl _, hE, .inl ⟨rfl, rfl⟩⟩ ?_;clear hE;rintro m3 L ws w2 ⟨i, s, rfl, rfl, Bn, hE, hsum⟩;rcases hsum with ⟨h0, h1⟩ | ⟨h0, h1⟩ | ⟨h0, h1⟩
 ·
  subst h0;refine zc (zp (pT (.bool true) ?_));refine zn (zc (zt ?_));refine cw_skip (zq (zc (cw_block ?_)));refine zc (zp (pU (pw O 0) (xi (sv O 0 2 2) (iv ((0 : Nat) : Int)) (ix66z (k := 0) (by omega))) ?_));refine pU (.slice a1 n1 c1) (xl (ld23 ((hE.cell k0)))) ?_;refine pT (.slice a1 n1 c1) ?_;refine zn (zc (zp (pD (iv s) (.slice a1 n1 c1) ?_)));refine pT (iv n1) ?_;refine pU (iv ((s + n1 : Nat) : Int)) (ew (by omega) (by omega)) ?_;refine pT (iv ((s + n1 : Nat) : Int)) ?_;refine zn (zc (zp (pT (iv ((s + n1 : Nat) : Int)) ?_)));refine pU (.bool false) (en (((s + n1 : Nat) : Int) < (0 : Int)) (by omega)) ?_;refine zn (cK [0,3,9,10,11,20] (fun L => ?_));refine zf ?_;refine cw_skip (qw_block (zq (zp (pD (iv 1) (iv 1) ?_))));refine pl_nil (zr [0, 3, 9, 10, 11] _ ?_ ⟨1, (s + n1), rfl, rfl, Bn, hE, .inr (.inl ⟨rfl, by omega⟩)⟩);omega
 ·
  subst h0;refine zc (zp (pT (.bool true) ?_));refine zn (zc (zt ?_));refine cw_skip (zq (zc (cw_block ?_)));refine zc (zp (pU (pw O 1) (xi (sv O 0 2 2) (iv ((1 : Nat) : Int)) (ix66z (k := 1) (by omega))) ?_));refine pU (.slice a2 n2 c2) (xl (ld23 ((hE.cell k1)))) ?_;refine pT (.slice a2 n2 c2) ?_;refine zn (zc (zp (pD (iv s) (.slice a2 n2 c2) ?_)));refine pT (iv n2) ?_;refine pU (iv ((s + n2 : Nat) : Int)) (ew (by omega) (by omega)) ?_;refine pT (iv ((s + n2 : Nat) : Int)) ?_;refine zn (zc (zp (pT (iv ((s + n2 : Nat) : Int)) ?_)));refine pU (.bool false) (en (((s + n2 : Nat) : Int) < (0 : Int)) (by omega)) ?_;refine zn (cK [0,3,9,10,11,20] (fun L => ?_));refine zf ?_;refine cw_skip (qw_block (zq (zp (pD (iv 2) (iv 2) ?_))));refine pl_nil (zr [0, 3, 9, 10, 11] _ ?_ ⟨2, (s + n2), rfl, rfl, Bn, hE, .inr (.inr ⟨rfl, by omega⟩)⟩);omega
 ·
  subst h0;refine zc (zp (pT (.bool false) ?_));refine zn (zc (zf ?_));refine cw_exit (qw_then_exit (qw_then_exit (qw_block_out (zq (zc (zp (pT (iv s) ?_)))))));refine pS (sc 105 #[.slice none 0 0, iv s] ((Grow_c _ (by omega) (by omega)).mono ?_));rintro e w8 ⟨g4, c5, rfl, Ca, Bg, hb⟩;replace hE := hE.trans hb;have C4 := hb.size;have Bx := Bg.lt;have C6 : 0 ≤ c5 := Nat.zero_le _;refine ⟨_, rfl, pT (sv g4 0 0 c5) ?_⟩;refine zn (zc (zc (zp (pD (sv O 0 2 2) (iv 2) ?_))));refine pT (iv 0) ?_;refine zn (cw_block ?_);refine cw_loop [6, 25, 26, 27] (fun ws' wr m => ∃ i g2 : Nat, ∃ s2 cx : Nat, ∃ L9 : List Rec, ws' = [(6, sv g2 0 s2 cx), (25, sv O 0 2 2), (26, iv 2), (27, iv i)] ∧ m = 2 - i ∧ w8.heap.size ≤ wr.heap.size ∧ Ext w wr ∧ OwnL recR w2.heap.size 49 7 (sv g2 0 s2 cx) wr L9 ∧ (i = 0 ∧ s2 = 0 ∧ L9 = [] ∨ i = 1 ∧ s2 = n1 ∧ L9 = l1 ∨ i = 2 ∧ s2 = n1 + n2 ∧ L9 = l1 ++ l2) ∧ s2 ≤ cx ∧ L9.length = s2 ∧ w2.heap.size ≤ g2) (ws0 := [(6, sv g4 0 0 c5), (25, sv O 0 2 2), (26, iv 2), (27, iv 0)]) (by kernel_rfl) _ ⟨0, g4, 0, c5, [], rfl, rfl, Nat.le_refl _, hE, Bg, .inl ⟨rfl, rfl, rfl⟩, Nat.zero_le _, rfl, Ca⟩ ?_;clear Bg hE;rintro Cf L ws Cg ⟨i, g2, s2, cx, L9, rfl, rfl, B7, hE, Bj, Bo, Bk, Bm, C7⟩;have C5 := Bj.lt;rcases Bo with ⟨h0, h1, h2⟩ | ⟨h0, h1, h2⟩ | ⟨h0, h1, h2⟩
  ·
   subst h0;refine zc (zp (pT (.bool true) ?_));refine zn (zc (zt ?_));refine cw_skip (zq (zc (cw_block ?_)));refine zc (zp (pU (pw O 0) (xi (sv O 0 2 2) (iv ((0 : Nat) : Int)) (ix66z (k := 0) (by omega))) ?_));refine pU (.slice a1 n1 c1) (xl (ld23 ((hE.cell k0)))) ?_;refine pT (.slice a1 n1 c1) ?_;refine zn (zp (pD (sv g2 0 s2 cx) (.slice a1 n1 c1) ?_));have Bp : (L9 ++ l1).length = s2 + n1 := by rw [List.length_append, Bm, (H1.ext hE).len]
   have C0 := Bj.base;obtain ⟨Cd, B0, Cb, Be, B3, B8, C2, Bb, Bv⟩ := app_recs (c := c1) Bj (T C4 B7) Bm ⟨_, _, rfl, Bk⟩ (H1.ext hE) (by omega);obtain ⟨Bh, rfl⟩ := Bv (.inl ⟨_, rfl⟩);refine pS (sn_eff (v := sv Bh 0 (s2 + n1) B0) (w' := Cb) (ex_append rfl (by kernel_rfl) (by kernel_rfl) Be) ?_);replace hE := B8.ext _ hE Bn;have Bt := B8.size;have Bq := B3.base Bh rfl;have C8 := B3.lt Bh rfl;have By := B3.lt;refine pT (sv Bh 0 (s2 + n1) B0) ?_;refine pl_nil (qw_block (zq (zp (pD (iv 1) (iv 1) ?_))));refine pl_nil (zr [6, 25, 26, 27] _ ?_ ⟨1, Bh, (s2 + n1), B0, (L9 ++ l1), rfl, rfl, (T B7 Bt), hE, B3, .inr (.inl ⟨rfl, by omega, by rw [h2]; rfl⟩), Bb, Bp, Bq⟩);omega
  ·
   subst h0;refine zc (zp (pT (.bool true) ?_));refine zn (zc (zt ?_));refine cw_skip (zq (zc (cw_block ?_)));refine zc (zp (pU (pw O 1) (xi (sv O 0 2 2) (iv ((1 : Nat) : Int)) (ix66z (k := 1) (by omega))) ?_));refine pU (.slice a2 n2 c2) (xl (ld23 ((hE.cell k1)))) ?_;refine pT (.slice a2 n2 c2) ?_;refine zn (zp (pD (sv g2 0 s2 cx) (.slice a2 n2 c2) ?_));have Br : (L9 ++ l2).length = s2 + n2 := by rw [List.length_append, Bm, (H2.ext hE).len]
   have C1 := Bj.base;obtain ⟨Ce, B2, Cc, Bf, B4, Ba, C3, Bc, Bw⟩ := app_recs (c := c2) Bj (T C4 B7) Bm ⟨_, _, rfl, Bk⟩ (H2.ext hE) (by omega);obtain ⟨Bi, rfl⟩ := Bw (.inl ⟨_, rfl⟩);refine pS (sn_eff (v := sv Bi 0 (s2 + n2) B2) (w' := Cc) (ex_append rfl (by kernel_rfl) (by kernel_rfl) Bf) ?_);replace hE := Ba.ext _ hE Bn;have Bu := Ba.size;have Bs := B4.base Bi rfl;have C9 := B4.lt Bi rfl;have Bz := B4.lt;refine pT (sv Bi 0 (s2 + n2) B2) ?_;refine pl_nil (qw_block (zq (zp (pD (iv 2) (iv 2) ?_))));refine pl_nil (zr [6, 25, 26, 27] _ ?_ ⟨2, Bi, (s2 + n2), B2, (L9 ++ l2), rfl, rfl, (T B7 Bu), hE, B4, .inr (.inr ⟨rfl, by omega, by rw [h2]⟩), Bc, Br, Bs⟩);omega
  ·
   subst h0;refine zc (zp (pT (.bool false) ?_));refine zn (zc (zf ?_));refine cw_exit (qw_then_exit (qw_then_exit (qw_block_out (zq (zc (zp (pD (sv g2 0 s2 cx) (sv g2 0 s2 cx) ?_)))))));refine zn (cw_ret (qw_ret [sv g2 0 s2 cx] rfl ⟨(by kernel_rfl), trivial⟩ ?_));subst h2;exact ⟨g2, cx, by rw [h1]; rfl, T Bn C7, own_recW Bj Bm, by omega, hE⟩
theorem Concat_0 {O c1 c2 : Nat} {a1 a2 : Option Addr} (w : World) (k0 : w.cell? ⟨O, 0, none⟩ = some (.slice a1 0 c1)) (k1 : w.cell? ⟨O, 1, none⟩ = some (.slice a2 0 c2)) : Calls Tryz.prog 88 #[sv O 0 2 2] w fun e w' => e = .returned (.slice none 0 0) ∧ Ext w w' := by
 refine calls_cw 36 [(0, sv O 0 2 2)] Tryz.func88 rfl Tryz.ntmps88 (by kernel_rfl) (by kernel_rfl) (fun L => ?_);have hE := Ext.refl w;refine zc (zp (pT (.slice none 0 0) ?_));refine zn (zc (zp (pT (iv 0) ?_)));refine zn (zc (zc (zp (pD (sv O 0 2 2) (iv 2) ?_))));refine pT (iv 0) ?_;refine zn (cw_block ?_);refine cw_loop [0, 3, 9, 10, 11] (fun ws' wr m => ∃ i : Nat, ws' = [(0, sv O 0 2 2), (3, iv 0), (9, sv O 0 2 2), (10, iv 2), (11, iv i)] ∧ m = 2 - i ∧ w.heap.size ≤ wr.heap.size ∧ Ext w wr ∧ (i = 0 ∨ i = 1 ∨ i = 2)) (ws0 := [(0, sv O 0 2 2), (3, iv 0), (9, sv O 0 2 2), (10, iv 2), (11, iv 0)]) (by kernel_rfl) _ ⟨0, rfl, rfl, Nat.le_refl _, hE, .inl rfl⟩ ?_;clear hE;rintro m3 L ws w2 ⟨i, rfl, rfl, B0, hE, hsum⟩;rcases hsum with h0 | h0 | h0
 ·
  subst h0;refine zc (zp (pT (.bool true) ?_));refine zn (zc (zt ?_));refine cw_skip (zq (zc (cw_block ?_)));refine zc (zp (pU (pw O 0) (xi (sv O 0 2 2) (iv ((0 : Nat) : Int)) (ix66z (k := 0) (by omega))) ?_));refine pU (.slice a1 0 c1) (xl (ld23 ((hE.cell k0)))) ?_;refine pT (.slice a1 0 c1) ?_;refine zn (zc (zp (pD (iv 0) (.slice a1 0 c1) ?_)));refine pD (iv 0) (iv 0) ?_;refine pT (iv 0) ?_;refine zn (zc (zp (pD (iv 0) (.bool false) ?_)));refine zn (cK [0,3,9,10,11,20] (fun L => ?_));refine zf ?_;refine cw_skip (qw_block (zq (zp (pD (iv 1) (iv 1) ?_))));refine pl_nil (zr [0, 3, 9, 10, 11] _ ?_ ⟨1, rfl, rfl, B0, hE, .inr (.inl rfl)⟩);omega
 ·
  subst h0;refine zc (zp (pT (.bool true) ?_));refine zn (zc (zt ?_));refine cw_skip (zq (zc (cw_block ?_)));refine zc (zp (pU (pw O 1) (xi (sv O 0 2 2) (iv ((1 : Nat) : Int)) (ix66z (k := 1) (by omega))) ?_));refine pU (.slice a2 0 c2) (xl (ld23 ((hE.cell k1)))) ?_;refine pT (.slice a2 0 c2) ?_;refine zn (zc (zp (pD (iv 0) (.slice a2 0 c2) ?_)));refine pD (iv 0) (iv 0) ?_;refine pT (iv 0) ?_;refine zn (zc (zp (pD (iv 0) (.bool false) ?_)));refine zn (cK [0,3,9,10,11,20] (fun L => ?_));refine zf ?_;refine cw_skip (qw_block (zq (zp (pD (iv 2) (iv 2) ?_))));refine pl_nil (zr [0, 3, 9, 10, 11] _ ?_ ⟨2, rfl, rfl, B0, hE, .inr (.inr rfl)⟩);omega
 ·
  subst h0;refine zc (zp (pT (.bool false) ?_));refine zn (zc (zf ?_));refine cw_exit (qw_then_exit (qw_then_exit (qw_block_out (zq (zc (zp (pT (iv 0) ?_)))))));refine pS (sc 105 #[.slice none 0 0, iv 0] ((Grow_0 _).mono ?_));rintro e w4 ⟨rfl, hb⟩;replace hE := hE.trans hb;have B3 := hb.size;refine ⟨_, rfl, pT (.slice none 0 0) ?_⟩;refine zn (zc (zc (zp (pD (sv O 0 2 2) (iv 2) ?_))));refine pT (iv 0) ?_;refine zn (cw_block ?_);refine cw_loop [6, 25, 26, 27] (fun ws' wr m => ∃ i : Nat, ws' = [(6, .slice none 0 0), (25, sv O 0 2 2), (26, iv 2), (27, iv i)] ∧ m = 2 - i ∧ w4.heap.size ≤ wr.heap.size ∧ Ext w wr ∧ (i = 0 ∨ i = 1 ∨ i = 2)) (ws0 := [(6, .slice none 0 0), (25, sv O 0 2 2), (26, iv 2), (27, iv 0)]) (by kernel_rfl) _ ⟨0, rfl, rfl, Nat.le_refl _, hE, .inl rfl⟩ ?_;clear hE;rintro m8 L ws w7 ⟨i, rfl, rfl, B2, hE, hsum⟩;rcases hsum with h0 | h0 | h0
  ·
   subst h0;refine zc (zp (pT (.bool true) ?_));refine zn (zc (zt ?_));refine cw_skip (zq (zc (cw_block ?_)));refine zc (zp (pU (pw O 0) (xi (sv O 0 2 2) (iv ((0 : Nat) : Int)) (ix66z (k := 0) (by omega))) ?_));refine pU (.slice a1 0 c1) (xl (ld23 ((hE.cell k0)))) ?_;refine pT (.slice a1 0 c1) ?_;refine zn (zp (pD (.slice none 0 0) (.slice a1 0 c1) ?_));refine pS (sn_eff (v := .slice none 0 0) (w' := w7) (ex_append rfl (by kernel_rfl) (by kernel_rfl) (app_none recT (a := a1) (k := c1) (Nat.le_refl _))) ?_);refine pT (.slice none 0 0) ?_;refine pl_nil (qw_block (zq (zp (pD (iv 1) (iv 1) ?_))));refine pl_nil (zr [6, 25, 26, 27] _ ?_ ⟨1, rfl, rfl, B2, hE, .inr (.inl rfl)⟩);omega
  ·
   subst h0;refine zc (zp (pT (.bool true) ?_));refine zn (zc (zt ?_));refine cw_skip (zq (zc (cw_block ?_)));refine zc (zp (pU (pw O 1) (xi (sv O 0 2 2) (iv ((1 : Nat) : Int)) (ix66z (k := 1) (by omega))) ?_));refine pU (.slice a2 0 c2) (xl (ld23 ((hE.cell k1)))) ?_;refine pT (.slice a2 0 c2) ?_;refine zn (zp (pD (.slice none 0 0) (.slice a2 0 c2) ?_));refine pS (sn_eff (v := .slice none 0 0) (w' := w7) (ex_append rfl (by kernel_rfl) (by kernel_rfl) (app_none recT (a := a2) (k := c2) (Nat.le_refl _))) ?_);refine pT (.slice none 0 0) ?_;refine pl_nil (qw_block (zq (zp (pD (iv 2) (iv 2) ?_))));refine pl_nil (zr [6, 25, 26, 27] _ ?_ ⟨2, rfl, rfl, B2, hE, .inr (.inr rfl)⟩);omega
  ·
   subst h0;refine zc (zp (pT (.bool false) ?_));refine zn (zc (zf ?_));refine cw_exit (qw_then_exit (qw_then_exit (qw_block_out (zq (zc (zp (pD (.slice none 0 0) (.slice none 0 0) ?_)))))));refine zn (cw_ret (qw_ret [.slice none 0 0] rfl ⟨(by kernel_rfl), trivial⟩ ?_));exact ⟨rfl, hE⟩
end Go.Proofs.YtfmoabgjaclkpaaGreatDoor
