/- Part 6 of what the proof of MachineMatchesReference stands on. -/
import Derived.Test.YtpfajhcdfgpgmaaGreatDoorV5MachineMatchesReference
namespace Go.Proofs.YtpfajhcdfgpgmaaGreatDoor
open Bdd (ix ap foldD)
variable {B C CB FB K cc ce ck cr d ml n n0 nc nk nr q q9 : Nat} {g : Goal} {l : List Ev} {v : Value} {T : List Bdd.D} {w0 : World} {ac ae ak ar : Option Addr} {t9 : Bdd.D}
set_option maxRecDepth 1000000
set_option maxHeartbeats 4000000
set_option synthInstance.maxHeartbeats 0
set_option synthInstance.maxSize 9999
open Go.RowKit
namespace Evs
def seeT (n : Nat) (l : List Ev) (f : GF) (cnt : Nat → Bdd.D) : Bdd.D := foldD true n (.leaf false) ((suited f l).map cnt)
def goalT (n : Nat) (l : List Ev) : Nat → Goal → (Nat → Bdd.D) → Bdd.D
 | 0, _, _ => .leaf false
 | d + 1, g, cnt =>
  if g.f.k = 1 then seeT n l g.f cnt
  else if g.f.k = 4 then goalT n l d (kidN g 0) fun i => ap false n (cnt i) (delT n l i g.f.wi l.length)
  else if g.f.k = 5 then foldD false n (.leaf true) ((List.range g.kids.length).map fun i => goalT n l d (kidN g i) cnt)
  else foldD true n (.leaf false) ((List.range g.kids.length).map fun i => goalT n l d (kidN g i) cnt)
theorem goalT_succ (n : Nat) (l : List Ev) (d : Nat) (g : Goal) (cnt : Nat → Bdd.D) : goalT n l (d + 1) g cnt = (if g.f.k = 1 then seeT n l g.f cnt
  else if g.f.k = 4 then goalT n l d (kidN g 0) fun i => ap false n (cnt i) (delT n l i g.f.wi l.length)
  else if g.f.k = 5 then foldD false n (.leaf true) ((List.range g.kids.length).map fun i => goalT n l d (kidN g i) cnt)
  else foldD true n (.leaf false) ((List.range g.kids.length).map fun i => goalT n l d (kidN g i) cnt)) := rfl
def RG : Nat → Goal → Prop
 | 0, _ => False
 | d + 1, g => g.f.k = 1 ∨ (g.f.k = 4 ∧ 0 < g.kids.length ∧ RG d (kidN g 0)) ∨ ((g.f.k = 5 ∨ g.f.k = 6) ∧ g.kids.length ≤ 4 ∧ ∀ i, i < g.kids.length → RG d (kidN g i))
def qd : Nat → Nat → Nat
 | 0, _ => 0
 | d + 1, q => 16 * (q + 65536) + (qd d (q + cD + 65536) + 4 * (qd d q + 65536))
theorem qd_see : 16 * (q + 65536) ≤ qd (d + 1) q := Nat.le_add_right ..
theorem qd_del : qd d (q + cD + 65536) ≤ qd (d + 1) q := Tq (Nat.le_add_right ..) (Nat.le_add_left ..)
theorem qd_all {k : Nat} (h : k ≤ 4) : k * (qd d q + 65536) ≤ qd (d + 1) q := Tq (Nat.mul_le_mul_right _ h) (Tq (Nat.le_add_left ..) (Nat.le_add_left ..))
theorem suited_len {g : GF} (h : eventsB l = true) : (suited g l).length ≤ 16 := Tq (suitUp_len g l l.length) (eventsB_len h)
end Evs
theorem Stp.weak {r9 : Nat} {w w' : World} {t : Bdd.D} {r : Ending} (h : Stp n0 B K n v T w t q r w') (hq : q ≤ r9) : Stp n0 B K n v T w t r9 r w' := by
 obtain ⟨v', T', h1, h2, h3, h4, h5, h6⟩ := h
 exact ⟨v', T', h1, h2, h3, h4, h5, Tq h6 (Nat.add_le_add_left hq _)⟩
theorem goal2_c {cnt : Nat → Bdd.D} {fS : FuncId} {xS yS : Array Value} (w : World) (hB : Bld w n0 B K n v T) (H : EvsAt w0 ae ml l) (hv : Evs.eventsB l = true) (hnl : n = ml) (e0 : Ext w0 w) (h0 : w0.heap.size ≤ n0) (hC0 : BoxAt w C 0 (pw B 0)) (hC1 : BoxAt w C 1 (.slice ae ml ce)) (hCX : ¬ BX B K v C) (hCB : BoxAt w CB 0 (pw C 0)) (hFB : BoxAt w FB 0 (.func (.func fS) xS yS)) (hXC : ¬ BX B K v CB) (hXF : ¬ BX B K v FB) (hCn : CntOK n0 B K n ml v w q fS xS yS cnt) (hG : ∀ v' w' T', BS No B K v w v' w' → Bld w' n0 B K n v' T' → T'.length + q9 ≤ 900000000000 → Ext w0 w' → BoxAt w' C 0 (pw B 0) → BoxAt w' C 1 (.slice ae ml ce) → ¬ BX B K v' C → CntOK n0 B K n ml v' w' q fS xS yS cnt → Calls Tryz.prog 47 #[pw C 0, gw g.f ar nr cr ac nc cc ak nk ck, .func (.func fS) xS yS] w' (Stp n0 B K n v' T' w' t9 q9)) (hT : T.length + q9 ≤ 900000000000) : Calls Tryz.prog 86 #[gw g.f ar nr cr ac nc cc ak nk ck, pw CB 0, pw FB 0] w (Stp n0 B K n v T w t9 q9) := by
 have Cm := e0.size;have hCl := hC0.lt;have Cc : n ≤ 16 := by have := Evs.eventsB_len hv;have := H.len;omega
 have C0 : BS No B K v w v w := BS.refl _ _ _ _ _;have C1 := hB.lt;have C5 := hB.ge;have Cb := hB.b0.lt;have hlCB := hCB.lt;have hlFB := hFB.lt;refine calls_cw 9 [(2, pw FB 0), (1, pw CB 0), (0, gw g.f ar nr cr ac nc cc ak nk ck)] Tryz.func86 rfl Tryz.ntmps86 (by kernel_rfl) (by kernel_rfl) (fun L => ?_);have hE := er_ w;refine zc (zp (pS (sw 33 #[iv g.f.k, .slice ar nr cr, iv g.f.sf, iv g.f.st, iv g.f.lo, iv g.f.hi, .bool g.f.cl, iv g.f.dy, iv g.f.tm, iv g.f.wi, .slice ac nc cc, .slice ak nk ck] ?_)));intro O3 X4 C4 Ce hb hbx;have ⟨Bg, Bm, Bo, Bp, Bq, Br, Bs, Bt, Bu, Bv, Bh, Bi⟩ := bq12 hbx;refine mv7 hb e0 hB C0 hC0 hC1 hCB hFB fun e0 hB C0 hC0 hC1 hCB hFB=>?_;have C6 := hb.size;have Cf := Bg.lt;refine pT (iv 0) ?_;refine pl_nil (qw_then ?_);refine cw_seq ?_;have Ck := er_ X4;refine zp (pU (pw C 0) (xl (ld80 (hCB.1))) ?_);refine pU (gw g.f ar nr cr ac nc cc ak nk ck) (xl (ld33 (Bg.1) (Bm.1) (Bo.1) (Bp.1) (Bq.1) (Br.1) (Bs.1) (Bt.1) (Bu.1) (Bv.1) (Bh.1) (Bi.1))) ?_;refine pU (.func (.func fS) xS yS) (xl (ld87 (hFB.1))) ?_;have C7 := hB;have Bl := C0;have Bw := hC0;have Bx := hC1;have Bj := hCB;have Bk := hFB;have B1 := Bg;have B2 := Bm;have B3 := Bo;have B4 := Bp;have B5 := Bq;have B6 := Br;have B7 := Bs;have B8 := Bt;have Ba := Bu;have Bc := Bv;have Be := Bh;have Bf := Bi;refine pS (sc 47 #[pw C 0, gw g.f ar nr cr ac nc cc ak nk ck, .func (.func fS) xS yS] ((hG _ _ _ C0 hB hT e0 hC0 hC1 hCX (hCn.step C0)).mono ?_));rintro e Cn ⟨v8, T9, rfl, B0, Bz, C2, C3, Ca⟩;replace e0 := B0.wr.ext e0 (fun k q => q.elim (fun q => Tq (Tq (nr_ _) h0) (C5 k q)) (fun q => q.elim));replace Bl := Bl.trans B0;replace Bw := B0.wr.box (fun q => q.elim hCX id) Bw;replace Bx := B0.wr.box (fun q => q.elim hCX id) Bx;replace Bj := B0.wr.box (fun q => q.elim hXC id) Bj;replace Bk := B0.wr.box (fun q => q.elim hXF id) Bk;have q9 := fun ⦃j : Nat⦄ ⦃v : Value⦄ (h : BoxAt _ O3 j v) => B0.wr.box (fun q => q.elim (fun q => absurd (C1 _ q) (nn_ (nq_ C4))) id) h
 clear q9;have Cg := B0.nx hCX (nl_ hCl C6);have Ch := B0.nx hXC (nl_ hlCB C6);have Ci := B0.nx hXF (nl_ hlFB C6);have Cj := B0.nx (fun q => absurd (C1 _ q) (nn_ (nq_ C4))) (nl_ Cf (nr_ _));have Cd := B0.wr.size;have C9 := Bz.lt;have C8 := Bz.ge;refine ⟨_, rfl, pT (iv (ix T9 t9)) ?_⟩;refine zn (ct_ (zR (iv (ix T9 t9)) ?_));exact ⟨_, _, rfl, Bl, Bz, C2, C3, by omega⟩
theorem goal3_c {cnt : Nat → Bdd.D} {fS : FuncId} {xS yS : Array Value} (w : World) (hB : Bld w n0 B K n v T) (H : EvsAt w0 ae ml l) (hv : Evs.eventsB l = true) (hnl : n = ml) (e0 : Ext w0 w) (h0 : w0.heap.size ≤ n0) (hC0 : BoxAt w C 0 (pw B 0)) (hC1 : BoxAt w C 1 (.slice ae ml ce)) (hCX : ¬ BX B K v C) (hCB : BoxAt w CB 0 (pw C 0)) (hFB : BoxAt w FB 0 (.func (.func fS) xS yS)) (hXC : ¬ BX B K v CB) (hXF : ¬ BX B K v FB) (hCn : CntOK n0 B K n ml v w q fS xS yS cnt) (hG : ∀ v' w' T', BS No B K v w v' w' → Bld w' n0 B K n v' T' → T'.length + q9 ≤ 900000000000 → Ext w0 w' → BoxAt w' C 0 (pw B 0) → BoxAt w' C 1 (.slice ae ml ce) → ¬ BX B K v' C → CntOK n0 B K n ml v' w' q fS xS yS cnt → Calls Tryz.prog 47 #[pw C 0, gw g.f ar nr cr ac nc cc ak nk ck, .func (.func fS) xS yS] w' (Stp n0 B K n v' T' w' t9 q9)) (hT : T.length + q9 ≤ 900000000000) : Calls Tryz.prog 87 #[gw g.f ar nr cr ac nc cc ak nk ck, pw CB 0, pw FB 0] w (Stp n0 B K n v T w t9 q9) := by
 have Cm := e0.size;have hCl := hC0.lt;have Cc : n ≤ 16 := by have := Evs.eventsB_len hv;have := H.len;omega
 have C0 : BS No B K v w v w := BS.refl _ _ _ _ _;have C1 := hB.lt;have C5 := hB.ge;have Cb := hB.b0.lt;have hlCB := hCB.lt;have hlFB := hFB.lt;refine calls_cw 9 [(2, pw FB 0), (1, pw CB 0), (0, gw g.f ar nr cr ac nc cc ak nk ck)] Tryz.func87 rfl Tryz.ntmps87 (by kernel_rfl) (by kernel_rfl) (fun L => ?_);have hE := er_ w;refine zc (zp (pS (sw 33 #[iv g.f.k, .slice ar nr cr, iv g.f.sf, iv g.f.st, iv g.f.lo, iv g.f.hi, .bool g.f.cl, iv g.f.dy, iv g.f.tm, iv g.f.wi, .slice ac nc cc, .slice ak nk ck] ?_)));intro O3 X4 C4 Ce hb hbx;have ⟨Bg, Bm, Bo, Bp, Bq, Br, Bs, Bt, Bu, Bv, Bh, Bi⟩ := bq12 hbx;refine mv7 hb e0 hB C0 hC0 hC1 hCB hFB fun e0 hB C0 hC0 hC1 hCB hFB=>?_;have C6 := hb.size;have Cf := Bg.lt;refine pT (iv 0) ?_;refine pl_nil (qw_then ?_);refine cw_seq ?_;have Ck := er_ X4;refine zp (pU (pw C 0) (xl (ld80 (hCB.1))) ?_);refine pU (gw g.f ar nr cr ac nc cc ak nk ck) (xl (ld33 (Bg.1) (Bm.1) (Bo.1) (Bp.1) (Bq.1) (Br.1) (Bs.1) (Bt.1) (Bu.1) (Bv.1) (Bh.1) (Bi.1))) ?_;refine pU (.func (.func fS) xS yS) (xl (ld87 (hFB.1))) ?_;have C7 := hB;have Bl := C0;have Bw := hC0;have Bx := hC1;have Bj := hCB;have Bk := hFB;have B1 := Bg;have B2 := Bm;have B3 := Bo;have B4 := Bp;have B5 := Bq;have B6 := Br;have B7 := Bs;have B8 := Bt;have Ba := Bu;have Bc := Bv;have Be := Bh;have Bf := Bi;refine pS (sc 47 #[pw C 0, gw g.f ar nr cr ac nc cc ak nk ck, .func (.func fS) xS yS] ((hG _ _ _ C0 hB hT e0 hC0 hC1 hCX (hCn.step C0)).mono ?_));rintro e Cn ⟨v8, T9, rfl, B0, Bz, C2, C3, Ca⟩;replace e0 := B0.wr.ext e0 (fun k q => q.elim (fun q => Tq (Tq (nr_ _) h0) (C5 k q)) (fun q => q.elim));replace Bl := Bl.trans B0;replace Bw := B0.wr.box (fun q => q.elim hCX id) Bw;replace Bx := B0.wr.box (fun q => q.elim hCX id) Bx;replace Bj := B0.wr.box (fun q => q.elim hXC id) Bj;replace Bk := B0.wr.box (fun q => q.elim hXF id) Bk;have q9 := fun ⦃j : Nat⦄ ⦃v : Value⦄ (h : BoxAt _ O3 j v) => B0.wr.box (fun q => q.elim (fun q => absurd (C1 _ q) (nn_ (nq_ C4))) id) h
 clear q9;have Cg := B0.nx hCX (nl_ hCl C6);have Ch := B0.nx hXC (nl_ hlCB C6);have Ci := B0.nx hXF (nl_ hlFB C6);have Cj := B0.nx (fun q => absurd (C1 _ q) (nn_ (nq_ C4))) (nl_ Cf (nr_ _));have Cd := B0.wr.size;have C9 := Bz.lt;have C8 := Bz.ge;refine ⟨_, rfl, pT (iv (ix T9 t9)) ?_⟩;refine zn (ct_ (zR (iv (ix T9 t9)) ?_));exact ⟨_, _, rfl, Bl, Bz, C2, C3, by omega⟩
theorem goal_c (H : EvsAt w0 ae ml l) (hv : Evs.eventsB l = true) (hnl : n = ml) (h0 : w0.heap.size ≤ n0) : ∀ (d q : Nat) (g : Goal) (cnt : Nat → Bdd.D) (fS : FuncId) (xS yS : Array Value) (ar : Option Addr) (nr cr : Nat) (ac : Option Addr) (nc cc : Nat) (ak : Option Addr) (nk ck : Nat) (v : Value) (T : List Bdd.D) (w : World) (_hB : Bld w n0 B K n v T) (_HG : GOp w0 g ⟨ar, nr, cr, ac, nc, cc, ak, nk, ck⟩) (_hr : Evs.RG d g) (_e0 : Ext w0 w) (_hC0 : BoxAt w C 0 (pw B 0)) (_hC1 : BoxAt w C 1 (.slice ae ml ce)) (_hCX : ¬ BX B K v C) (_hCn : CntOK n0 B K n ml v w q fS xS yS cnt) (_hT : T.length + Evs.qd d q ≤ 900000000000), Calls Tryz.prog 47 #[pw C 0, gw g.f ar nr cr ac nc cc ak nk ck, .func (.func fS) xS yS] w (Stp n0 B K n v T w (Evs.goalT n l d g cnt) (Evs.qd d q)) := by
 intro d
 induction d with
 | zero => intro q g cnt fS xS yS ar nr cr ac nc cc ak nk ck v T w hB HG hr e0 hC0 hC1 hCX hCn hT;exact hr.elim
 | succ d ih =>
  intro q g cnt fS xS yS ar nr cr ac nc cc ak nk ck v T w hB HG hr e0 hC0 hC1 hCX hCn hT;have Dn := e0.size;have hCl := hC0.lt;have Cc : n ≤ 16 := by have := Evs.eventsB_len hv;have := H.len;omega
  have Bl : BS No B K v w v w := BS.refl _ _ _ _ _;have B6 := hB.lt;have C0 := hB.ge;have Dl := hB.b0.lt;obtain ⟨bk, ok, hak, hbk, hxk⟩ := HG.parts';have hkn := HG.kn';have hkm := HG.km';have hll : l.length = ml := H.len;refine calls_cw 62 [(2, .func (.func fS) xS yS), (1, gw g.f ar nr cr ac nc cc ak nk ck), (0, pw C 0)] Tryz.func47 rfl Tryz.ntmps47 (by kernel_rfl) (by kernel_rfl) (fun L => ?_);have hE := er_ w;refine zc (zp (pS (sw 80 #[pw C 0] ?_)));intro O3 X4 Br Dt hb hbx;have B1 := bq1 hbx;refine mv5 hb e0 hB Bl hC0 hC1 fun e0 hB Bl hC0 hC1=>?_;have Bm := hb.size;have Cd := B1.lt;refine pS (sw 33 #[iv g.f.k, .slice ar nr cr, iv g.f.sf, iv g.f.st, iv g.f.lo, iv g.f.hi, .bool g.f.cl, iv g.f.dy, iv g.f.tm, iv g.f.wi, .slice ac nc cc, .slice ak nk ck] ?_);intro O7 X8 Bu Du hb hbx;have ⟨B4, B7, B8, Ba, Bc, Be, Bf, Bg, Bh, B5, B3, B0⟩ := bq12 hbx;refine mv6 hb e0 hB Bl hC0 hC1 B1 fun e0 hB Bl hC0 hC1 B1=>?_;have Bp := hb.size;have C5 := B4.lt;refine pS (sw 87 #[.func (.func fS) xS yS] ?_);intro C3 Eh Bk Dh hb hbx;have B2 := bq1 hbx;refine mv16 hb e0 hB Bl hC0 hC1 B1 B4 B7 B8 Ba Bc Be Bf Bg Bh B5 fun e0 hB Bl hC0 hC1 B1 B4 B7 B8 Ba Bc Be Bf Bg Bh B5=>?_;refine mv2 hb B3 B0 fun B3 B0=>?_;have Bj := hb.size;have Bz := B2.lt;refine pT (iv 0) ?_;refine zn (zc (cw_seq ?_));rcases hr with hk | ⟨hk, hkl, Dm⟩ | ⟨hk | hk, Ek, hrk⟩
  ·
   refine zp (pT (pw O7 0) ?_);refine pU (iv g.f.k) (xl (ld3 (B4.1))) ?_;refine zn (cb_ ?_);refine zc (zp (pU (.bool true) (eE (g.f.k : Int) (1 : Int) (by omega)) ?_));refine pT (.bool true) ?_;refine zn (zt ?_);refine cw_seq ?_;have haa := HG.aa';have hsl := Evs.suited_len (g := g.f) hv;obtain ⟨u, hu⟩ : ∃ u, u = q + 65536 := ⟨_, rfl⟩;have hsu : (Evs.suited g.f l).length * u ≤ Evs.qd (d + 1) q := by rw [hu];exact Tq (Nat.mul_le_mul_right _ hsl) Evs.qd_see
   refine dT (fun w' => w'.cell? ⟨O3, 0, none⟩ = some (pw C 0) ∧ w'.cell? ⟨O7, 0, none⟩ = some (iv g.f.k) ∧ w'.cell? ⟨O7, 1, none⟩ = some (.slice ar nr cr) ∧ w'.cell? ⟨O7, 2, none⟩ = some (iv g.f.sf) ∧ w'.cell? ⟨O7, 3, none⟩ = some (iv g.f.st) ∧ w'.cell? ⟨O7, 4, none⟩ = some (iv g.f.lo) ∧ w'.cell? ⟨O7, 5, none⟩ = some (iv g.f.hi) ∧ w'.cell? ⟨O7, 6, none⟩ = some (.bool g.f.cl) ∧ w'.cell? ⟨O7, 7, none⟩ = some (iv g.f.dy) ∧ w'.cell? ⟨O7, 8, none⟩ = some (iv g.f.tm) ∧ w'.cell? ⟨O7, 9, none⟩ = some (iv g.f.wi) ∧ w'.cell? ⟨O7, 10, none⟩ = some (.slice ac nc cc) ∧ w'.cell? ⟨O7, 11, none⟩ = some (.slice ak nk ck) ∧ w'.cell? ⟨C, 0, none⟩ = some (pw B 0) ∧ w'.cell? ⟨C3, 0, none⟩ = some (.func (.func fS) xS yS)) (⟨B1.1, B4.1, B7.1, B8.1, Ba.1, Bc.1, Be.1, Bf.1, Bg.1, Bh.1, B5.1, B3.1, B0.1, hC0.1, B2.1⟩) (fun ops Q Ei hb hL hR hK => ?_);refine mv16 hb e0 hB Bl hC0 hC1 B1 B4 B7 B8 Ba Bc Be Bf Bg Bh B5 fun e0 hB Bl hC0 hC1 B1 B4 B7 B8 Ba Bc Be Bf Bg Bh B5=>?_;refine mv3 hb B3 B0 B2 fun B3 B0 B2=>?_;have Bv := hb.size;have hS := A15 B1.1 B4.1 B7.1 B8.1 Ba.1 Bc.1 Be.1 Bf.1 Bg.1 Bh.1 B5.1 B3.1 B0.1 hC0.1 B2.1;refine wM 0 (pw C 0) hR (fun w hS => ld80 (hS.1)) hS ?_;refine wM 1 (gw g.f ar nr cr ac nc cc ak nk ck) hR (fun w hS => ld33 (hS.2.1) (hS.2.2.1) (hS.2.2.2.1) (hS.2.2.2.2.1) (hS.2.2.2.2.2.1) (hS.2.2.2.2.2.2.1) (hS.2.2.2.2.2.2.2.1) (hS.2.2.2.2.2.2.2.2.1) (hS.2.2.2.2.2.2.2.2.2.1) (hS.2.2.2.2.2.2.2.2.2.2.1) (hS.2.2.2.2.2.2.2.2.2.2.2.1) (hS.2.2.2.2.2.2.2.2.2.2.2.2.1)) hS ?_;refine wM 3 (pw C 0) hR (fun w hS => ld80 (hS.1)) hS ?_;refine wW 4 (pw C 0) 5 (pw C 0) hR hS ?_;refine wM 6 (pw B 0) hR (fun w hS => ld81 (hS.2.2.2.2.2.2.2.2.2.2.2.2.2.1)) hS ?_;refine wV 7 (.func (.func 79) #[pw B 0] #[]) hR hS ?_;refine wM 8 (.func (.func fS) xS yS) hR (fun w hS => ld87 (hS.2.2.2.2.2.2.2.2.2.2.2.2.2.2)) hS ?_;refine wC 2 78 #[pw C 0, gw g.f ar nr cr ac nc cc ak nk ck] hR ((suited_c _ haa H (by omega) e0 hC1).mono ?_);rintro e Ep ⟨Cv, Cz, Dk, rfl, Cb, C1, C6, hb⟩;refine mv16 hb e0 hB Bl hC0 hC1 B1 B4 B7 B8 Ba Bc Be Bf Bg Bh B5 fun e0 hB Bl hC0 hC1 B1 B4 B7 B8 Ba Bc Be Bf Bg Bh B5=>?_;refine mv3 hb B3 B0 B2 fun B3 B0 B2=>?_;have C4 := hb.size;refine ⟨_, rfl, ⟨B1.1, B4.1, B7.1, B8.1, Ba.1, Bc.1, Be.1, Bf.1, Bg.1, Bh.1, B5.1, B3.1, B0.1, hC0.1, B2.1⟩, ?_⟩;refine wC 9 77 #[.slice Cv ((Evs.suited g.f l).length) Cz, iv (-1 : Int), .func (.func 79) #[pw B 0] #[], .func (.func fS) xS yS] hR (((foldI_c (q := q) (l := Evs.suited g.f l) (mm := ml) (cnt := cnt) (t0 := .leaf false) (st := true) _ hB Cb (fun q => absurd (B6 _ q) (nn_ (Tq (Tq Bm (Tq Bp (Tq Bj Bv))) C1))) (nl_ C6 (nr_ _)) rfl (by omega) (fun x hx => by have := Evs.suited_lt hx; omega) trivial (nxt_or Cc _ _) (hCn.step Bl) (by rw [← hu]; omega)).mono fun r w' hq9 => hq9.weak (by rw [← hu]; exact hsu)).mono ?_);rintro e Er ⟨El, D5, rfl, Bo, C7, Ck, Cp, Cg⟩;replace e0 := Bo.wr.ext e0 (fun k q => q.elim (fun q => Tq (Tq (nr_ _) h0) (C0 k q)) (fun q => q.elim));replace Bl := Bl.trans Bo;replace hC0 := Bo.wr.box (fun q => q.elim hCX id) hC0;replace hC1 := Bo.wr.box (fun q => q.elim hCX id) hC1;replace B1 := Bo.wr.box (fun q => q.elim (fun q => absurd (B6 _ q) (nn_ (nq_ Br))) id) B1;have q9 := fun ⦃j : Nat⦄ ⦃v : Value⦄ (h : BoxAt _ O7 j v) => Bo.wr.box (fun q => q.elim (fun q => absurd (B6 _ q) (nn_ (Tq Bm (nq_ Bu)))) id) h
   replace B4 := q9 B4;replace B7 := q9 B7;replace B8 := q9 B8;replace Ba := q9 Ba;replace Bc := q9 Bc;replace Be := q9 Be;replace Bf := q9 Bf;replace Bg := q9 Bg;replace Bh := q9 Bh;replace B5 := q9 B5;replace B3 := q9 B3;replace B0 := q9 B0;clear q9;replace B2 := Bo.wr.box (fun q => q.elim (fun q => absurd (B6 _ q) (nn_ (Tq (Tq Bm Bp) (nq_ Bk)))) id) B2;have Dv := Bo.nx hCX (by omega);have Dw := Bo.nx (fun q => absurd (B6 _ q) (nn_ (Tq (Tq Bm Bp) (nq_ Bk)))) (nl_ Bz (Tq Bv C4));have Dx := Bo.nx (fun q => absurd (B6 _ q) (nn_ (nq_ Br))) (by omega);have Dy := Bo.nx (fun q => absurd (B6 _ q) (nn_ (Tq Bm (nq_ Bu)))) (by omega);have Dz := Bo.nx (fun q => absurd (B6 _ q) (nn_ (Tq (Tq Bm (Tq Bp (Tq Bj Bv))) C1))) (nl_ C6 (nr_ _));have Do := Bo.wr.size;have Dd := C7.lt;have D9 := C7.ge;have hS := A15 B1.1 B4.1 B7.1 B8.1 Ba.1 Bc.1 Be.1 Bf.1 Bg.1 Bh.1 B5.1 B3.1 B0.1 hC0.1 B2.1;refine ⟨_, rfl, hS, ?_⟩;refine wV 10 (iv (ix D5 (Evs.seeT n l g.f cnt))) hR hS ?_;refine we hL hR hK ?_;refine zq (cK [6] (fun L => ?_));refine ct_ (qb (qt (zR (iv (ix D5 (Evs.seeT n l g.f cnt))) ?_)))
   have hgt : Evs.goalT n l (d + 1) g cnt = Evs.seeT n l g.f cnt := by
    rw [Evs.goalT_succ];rw [if_pos hk]
   rw [hgt];exact ⟨_, _, rfl, Bl, C7, Ck, Cp, Cg⟩
  ·
   refine zp (pT (pw O7 0) ?_);refine pU (iv g.f.k) (xl (ld3 (B4.1))) ?_;refine zn (cb_ ?_);refine zc (zp (pU (.bool false) (eN (g.f.k : Int) (1 : Int) (by omega)) ?_));refine pT (.bool false) ?_;refine zn (zf ?_);refine zc (zp (pU (.bool false) (eN (g.f.k : Int) (2 : Int) (by omega)) ?_));refine pT (.bool false) ?_;refine zn (zf ?_);refine zc (zp (pU (.bool false) (eN (g.f.k : Int) (3 : Int) (by omega)) ?_));refine pT (.bool false) ?_;refine zn (cK [3,4,5,8,27] (fun L => ?_));refine zf ?_;refine zc (zp (pU (.bool true) (eE (g.f.k : Int) (4 : Int) (by omega)) ?_));refine pT (.bool true) ?_;refine zn (zt ?_);refine cw_seq ?_;obtain rfl := hak (by omega);have hbkl := hbk (by omega);obtain ⟨Cw, D4, D0, Ct, D2, Cx, Cu, D3, Cy, Bi, D1⟩ := hxk 0 (by omega);have hqd := Evs.qd_del (d := d) (q := q);refine dT (fun w' => w'.cell? ⟨O3, 0, none⟩ = some (pw C 0) ∧ w'.cell? ⟨O7, 11, none⟩ = some (sv bk ok nk ck) ∧ w'.cell? ⟨bk, ok, none⟩ = some (iv ((kidN g 0).f.k)) ∧ w'.cell? ⟨bk, ok + 1, none⟩ = some (.slice Cw D4 D0) ∧ w'.cell? ⟨bk, ok + 2, none⟩ = some (iv ((kidN g 0).f.sf)) ∧ w'.cell? ⟨bk, ok + 3, none⟩ = some (iv ((kidN g 0).f.st)) ∧ w'.cell? ⟨bk, ok + 4, none⟩ = some (iv ((kidN g 0).f.lo)) ∧ w'.cell? ⟨bk, ok + 5, none⟩ = some (iv ((kidN g 0).f.hi)) ∧ w'.cell? ⟨bk, ok + 6, none⟩ = some (.bool ((kidN g 0).f.cl)) ∧ w'.cell? ⟨bk, ok + 7, none⟩ = some (iv ((kidN g 0).f.dy)) ∧ w'.cell? ⟨bk, ok + 8, none⟩ = some (iv ((kidN g 0).f.tm)) ∧ w'.cell? ⟨bk, ok + 9, none⟩ = some (iv ((kidN g 0).f.wi)) ∧ w'.cell? ⟨bk, ok + 10, none⟩ = some (.slice Ct D2 Cx) ∧ w'.cell? ⟨bk, ok + 11, none⟩ = some (.slice Cu D3 Cy)) (⟨B1.1, B0.1, (e0.cell Bi.c0), (e0.cell Bi.c1'), (e0.cell Bi.c2), (e0.cell Bi.c3), (e0.cell Bi.c4), (e0.cell Bi.c5), (e0.cell Bi.c6), (e0.cell Bi.c7), (e0.cell Bi.c8), (e0.cell Bi.c9), (e0.cell Bi.c10'), (e0.cell Bi.c11')⟩) (fun ops Q Ej hb hL hR hK => ?_);refine mv9 hb e0 hB Bl hC0 hC1 B1 B4 B5 B0 fun e0 hB Bl hC0 hC1 B1 B4 B5 B0=>?_;replace B2 := B2.x hb;have C2 := hb.size;have hS := A14 B1.1 B0.1 (e0.cell Bi.c0) (e0.cell Bi.c1') (e0.cell Bi.c2) (e0.cell Bi.c3) (e0.cell Bi.c4) (e0.cell Bi.c5) (e0.cell Bi.c6) (e0.cell Bi.c7) (e0.cell Bi.c8) (e0.cell Bi.c9) (e0.cell Bi.c10') (e0.cell Bi.c11');refine wM 0 (pw C 0) hR (fun w hS => ld80 (hS.1)) hS ?_;refine wV 1 (pw O7 11) hR hS ?_;refine wM 2 (sv bk ok nk ck) hR (fun w hS => ld31 (hS.2.1)) hS ?_;refine wL 3 (pw bk ok) hR (fun w _ => ex_index (p := sv bk ok nk ck) (i := nv 0) rfl (by kernel_rfl) (by kernel_rfl) (ix31 (k := 0) (by omega))) hS ?_;refine wM 4 (.agg #[iv ((kidN g 0).f.k), .slice Cw D4 D0, iv ((kidN g 0).f.sf), iv ((kidN g 0).f.st), iv ((kidN g 0).f.lo), iv ((kidN g 0).f.hi), .bool ((kidN g 0).f.cl), iv ((kidN g 0).f.dy), iv ((kidN g 0).f.tm), iv ((kidN g 0).f.wi), .slice Ct D2 Cx, .slice Cu D3 Cy]) hR (fun w hS => ld33 (hS.2.2.1) (hS.2.2.2.1) (hS.2.2.2.2.1) (hS.2.2.2.2.2.1) (hS.2.2.2.2.2.2.1) (hS.2.2.2.2.2.2.2.1) (hS.2.2.2.2.2.2.2.2.1) (hS.2.2.2.2.2.2.2.2.2.1) (hS.2.2.2.2.2.2.2.2.2.2.1) (hS.2.2.2.2.2.2.2.2.2.2.2.1) (hS.2.2.2.2.2.2.2.2.2.2.2.2.1) (hS.2.2.2.2.2.2.2.2.2.2.2.2.2)) hS ?_;refine wV 5 (.func (.func 82) #[] #[pw O3 0, pw C3 0, pw O7 0]) hR hS ?_;refine wC 6 47 #[pw C 0, .agg #[iv ((kidN g 0).f.k), .slice Cw D4 D0, iv ((kidN g 0).f.sf), iv ((kidN g 0).f.st), iv ((kidN g 0).f.lo), iv ((kidN g 0).f.hi), .bool ((kidN g 0).f.cl), iv ((kidN g 0).f.dy), iv ((kidN g 0).f.tm), iv ((kidN g 0).f.wi), .slice Ct D2 Cx, .slice Cu D3 Cy], .func (.func 82) #[] #[pw O3 0, pw C3 0, pw O7 0]] hR (((ih (q + cD + 65536) (kidN g 0) _ _ _ _ _ _ _ _ _ _ _ _ _ _ _ _ hB D1 Dm e0 hC0 hC1 hCX (cnt_del (ce := ce) _ hB H hv hnl e0 h0 hC0 hC1 hCX B1 B2 B5 (fun q => absurd (B6 _ q) (nn_ (nq_ Br))) (fun q => absurd (B6 _ q) (nn_ (Tq (Tq Bm Bp) (nq_ Bk)))) (fun q => absurd (B6 _ q) (nn_ (Tq Bm (nq_ Bu)))) (hCn.step Bl) (nr_ _)) (by omega)).mono fun r w' hq9 => hq9.weak hqd).mono ?_);rintro e Es ⟨Em, D6, rfl, Bq, C8, Cm, Cq, Ch⟩;replace e0 := Bq.wr.ext e0 (fun k q => q.elim (fun q => Tq (Tq (nr_ _) h0) (C0 k q)) (fun q => q.elim));replace Bl := Bl.trans Bq;replace hC0 := Bq.wr.box (fun q => q.elim hCX id) hC0;replace hC1 := Bq.wr.box (fun q => q.elim hCX id) hC1;replace B1 := Bq.wr.box (fun q => q.elim (fun q => absurd (B6 _ q) (nn_ (nq_ Br))) id) B1;have q9 := fun ⦃j : Nat⦄ ⦃v : Value⦄ (h : BoxAt _ O7 j v) => Bq.wr.box (fun q => q.elim (fun q => absurd (B6 _ q) (nn_ (Tq Bm (nq_ Bu)))) id) h
   replace B4 := q9 B4;replace B0 := q9 B0;clear q9;replace B2 := Bq.wr.box (fun q => q.elim (fun q => absurd (B6 _ q) (nn_ (Tq (Tq Bm Bp) (nq_ Bk)))) id) B2;have E4 := Bq.nx hCX (by omega);have E5 := Bq.nx (fun q => absurd (B6 _ q) (nn_ (Tq (Tq Bm Bp) (nq_ Bk)))) (nl_ Bz C2);have E6 := Bq.nx (fun q => absurd (B6 _ q) (nn_ (nq_ Br))) (by omega);have E7 := Bq.nx (fun q => absurd (B6 _ q) (nn_ (Tq Bm (nq_ Bu)))) (nl_ C5 (Tq Bj C2));have E8 := Bq.nx (fun q => absurd (C0 _ q) (Nat.not_le_of_lt (nl_ (by omega) h0))) (by omega);have Dp := Bq.wr.size;have De := C8.lt;have Da := C8.ge;have hS := A14 B1.1 B0.1 (e0.cell Bi.c0) (e0.cell Bi.c1') (e0.cell Bi.c2) (e0.cell Bi.c3) (e0.cell Bi.c4) (e0.cell Bi.c5) (e0.cell Bi.c6) (e0.cell Bi.c7) (e0.cell Bi.c8) (e0.cell Bi.c9) (e0.cell Bi.c10') (e0.cell Bi.c11');refine ⟨_, rfl, hS, ?_⟩;refine wV 7 (iv (ix D6 (Evs.goalT n l d (kidN g 0) (fun i => ap false n (cnt i) (Evs.delT n l i g.f.wi ml))))) hR hS ?_;refine we hL hR hK ?_;refine zq (cK [6] (fun L => ?_));refine ct_ (qb (qt (zR (iv (ix D6 (Evs.goalT n l d (kidN g 0) (fun i => ap false n (cnt i) (Evs.delT n l i g.f.wi ml))))) ?_)))
   have hgt : Evs.goalT n l (d + 1) g cnt = Evs.goalT n l d (kidN g 0) (fun i => ap false n (cnt i) (Evs.delT n l i g.f.wi ml)) := by
    rw [Evs.goalT_succ];rw [if_neg (by omega), if_pos hk, hll]
   rw [hgt];exact ⟨_, _, rfl, Bl, C8, Cm, Cq, Ch⟩
  ·
   refine zp (pT (pw O7 0) ?_);refine pU (iv g.f.k) (xl (ld3 (B4.1))) ?_;refine zn (cb_ ?_);refine zc (zp (pU (.bool false) (eN (g.f.k : Int) (1 : Int) (by omega)) ?_));refine pT (.bool false) ?_;refine zn (zf ?_);refine zc (zp (pU (.bool false) (eN (g.f.k : Int) (2 : Int) (by omega)) ?_));refine pT (.bool false) ?_;refine zn (zf ?_);refine zc (zp (pU (.bool false) (eN (g.f.k : Int) (3 : Int) (by omega)) ?_));refine pT (.bool false) ?_;refine zn (cK [3,4,5,8,27] (fun L => ?_));refine zf ?_;refine zc (zp (pU (.bool false) (eN (g.f.k : Int) (4 : Int) (by omega)) ?_));refine pT (.bool false) ?_;refine zn (zf ?_);refine zc (zp (pU (.bool true) (eE (g.f.k : Int) (5 : Int) (by omega)) ?_));refine pT (.bool true) ?_;refine zn (zt ?_);refine cw_seq ?_;have hqd := Evs.qd_all (d := d) (q := q) (k := nk) (by omega);obtain ⟨u, hu⟩ : ∃ u, u = nk * (Evs.qd d q + 65536) := ⟨_, rfl⟩;rw [← hu] at hqd;refine dT (fun w' => w'.cell? ⟨O7, 11, none⟩ = some (.slice ak nk ck) ∧ w'.cell? ⟨O3, 0, none⟩ = some (pw C 0) ∧ w'.cell? ⟨C, 0, none⟩ = some (pw B 0)) (⟨B0.1, B1.1, hC0.1⟩) (fun ops Q Di hb hL hR hK => ?_);refine mv9 hb e0 hB Bl hC0 hC1 B1 B4 B0 B2 fun e0 hB Bl hC0 hC1 B1 B4 B0 B2=>?_;have Bw := hb.size;have hS := A3 B0.1 B1.1 hC0.1;refine wV 0 (pw O7 11) hR hS ?_;refine wM 1 (.slice ak nk ck) hR (fun w hS => ld31 (hS.1)) hS ?_;refine wM 2 (pw C 0) hR (fun w hS => ld80 (hS.2.1)) hS ?_;refine wW 3 (pw C 0) 4 (pw C 0) hR hS ?_;refine wM 5 (pw B 0) hR (fun w hS => ld81 (hS.2.2)) hS ?_;refine wW 6 (.func (.func 83) #[pw B 0] #[]) 7 (.func (.func 86) #[] #[pw O3 0, pw C3 0]) hR hS ?_;have hqs := Evs.qd_all (d := d) (q := q) (k := 1) (by omega);have Ce : GntOK w0 n0 B K n v Di (Evs.qd d q) 86 #[] #[pw O3 0, pw C3 0] g (fun i => Evs.goalT n l d (kidN g i) cnt) := ⟨fun _ _ => by kernel_rfl, fun v' w' T' b9 hB9 hT9 e9 i hi9 ar9 nr9 cr9 ac9 nc9 cc9 ak9 nk9 ck9 hG9 => goal2_c (ce := ce) (g := kidN g i) w' hB9 H hv hnl e9 h0 (b9.wr.box (fun q => q.elim hCX id) hC0) (b9.wr.box (fun q => q.elim hCX id) hC1) (b9.nx hCX (by omega)) (b9.wr.box (fun q => q.elim (fun q => absurd (B6 _ q) (nn_ (nq_ Br))) id) B1) (b9.wr.box (fun q => q.elim (fun q => absurd (B6 _ q) (nn_ (Tq (Tq Bm Bp) (nq_ Bk)))) id) B2) (b9.nx (fun q => absurd (B6 _ q) (nn_ (nq_ Br))) (by omega)) (b9.nx (fun q => absurd (B6 _ q) (nn_ (Tq (Tq Bm Bp) (nq_ Bk)))) (nl_ Bz Bw)) ((hCn.step Bl).step b9) (fun v'' w'' T'' b8 hB8 hT8 e8 c0 c1 cx hS8 => ih q (kidN g i) cnt fS xS yS ar9 nr9 cr9 ac9 nc9 cc9 ak9 nk9 ck9 v'' T'' w'' hB8 hG9 (hrk i hi9) e8 c0 c1 cx hS8 hT8) hT9⟩;refine wC 8 85 #[.slice ak nk ck, iv (-2 : Int), .func (.func 83) #[pw B 0] #[], .func (.func 86) #[] #[pw O3 0, pw C3 0]] hR (((foldG_c (q := Evs.qd d q) (t0 := .leaf true) (st := false) _ hB HG e0 h0 trivial (nxt_and Cc _ _) Ce (by rw [← hu]; omega)).mono fun r w' hq9 => hq9.weak (by rw [← hu]; exact hqd)).mono ?_);rintro e Et ⟨En, D7, rfl, Bs, C9, Cn, Cr, Ci⟩;replace e0 := Bs.wr.ext e0 (fun k q => q.elim (fun q => Tq (Tq (nr_ _) h0) (C0 k q)) (fun q => q.elim));replace Bl := Bl.trans Bs;replace hC0 := Bs.wr.box (fun q => q.elim hCX id) hC0;replace hC1 := Bs.wr.box (fun q => q.elim hCX id) hC1;replace B1 := Bs.wr.box (fun q => q.elim (fun q => absurd (B6 _ q) (nn_ (nq_ Br))) id) B1;have q9 := fun ⦃j : Nat⦄ ⦃v : Value⦄ (h : BoxAt _ O7 j v) => Bs.wr.box (fun q => q.elim (fun q => absurd (B6 _ q) (nn_ (Tq Bm (nq_ Bu)))) id) h
   replace B4 := q9 B4;replace B0 := q9 B0;clear q9;replace B2 := Bs.wr.box (fun q => q.elim (fun q => absurd (B6 _ q) (nn_ (Tq (Tq Bm Bp) (nq_ Bk)))) id) B2;have E9 := Bs.nx hCX (by omega);have Ea := Bs.nx (fun q => absurd (B6 _ q) (nn_ (Tq (Tq Bm Bp) (nq_ Bk)))) (nl_ Bz Bw);have Eb := Bs.nx (fun q => absurd (B6 _ q) (nn_ (nq_ Br))) (by omega);have Ec := Bs.nx (fun q => absurd (B6 _ q) (nn_ (Tq Bm (nq_ Bu)))) (nl_ C5 (Tq Bj Bw));have Dq := Bs.wr.size;have Df := C9.lt;have Db := C9.ge;have hS := A3 B0.1 B1.1 hC0.1;refine ⟨_, rfl, hS, ?_⟩;refine wV 9 (iv (ix D7 (foldD false n (.leaf true) ((List.range nk).map fun i => Evs.goalT n l d (kidN g i) cnt)))) hR hS ?_;refine we hL hR hK ?_;refine zq (cK [6] (fun L => ?_));refine ct_ (qb (qt (zR (iv (ix D7 (foldD false n (.leaf true) ((List.range nk).map fun i => Evs.goalT n l d (kidN g i) cnt)))) ?_)))
   have hgt : Evs.goalT n l (d + 1) g cnt = foldD false n (.leaf true) ((List.range nk).map fun i => Evs.goalT n l d (kidN g i) cnt) := by
    rw [Evs.goalT_succ];rw [if_neg (by omega), if_neg (by omega), if_pos hk, hkn]
   rw [hgt];exact ⟨_, _, rfl, Bl, C9, Cn, Cr, Ci⟩
  ·
   refine zp (pT (pw O7 0) ?_);refine pU (iv g.f.k) (xl (ld3 (B4.1))) ?_;refine zn (cb_ ?_);refine zc (zp (pU (.bool false) (eN (g.f.k : Int) (1 : Int) (by omega)) ?_));refine pT (.bool false) ?_;refine zn (zf ?_);refine zc (zp (pU (.bool false) (eN (g.f.k : Int) (2 : Int) (by omega)) ?_));refine pT (.bool false) ?_;refine zn (zf ?_);refine zc (zp (pU (.bool false) (eN (g.f.k : Int) (3 : Int) (by omega)) ?_));refine pT (.bool false) ?_;refine zn (cK [3,4,5,8,27] (fun L => ?_));refine zf ?_;refine zc (zp (pU (.bool false) (eN (g.f.k : Int) (4 : Int) (by omega)) ?_));refine pT (.bool false) ?_;refine zn (zf ?_);refine zc (zp (pU (.bool false) (eN (g.f.k : Int) (5 : Int) (by omega)) ?_));refine pT (.bool false) ?_;refine zn (zf ?_);refine cs_ (qw_block (zq (cw_seq ?_)));have hqd := Evs.qd_all (d := d) (q := q) (k := nk) (by omega);obtain ⟨u, hu⟩ : ∃ u, u = nk * (Evs.qd d q + 65536) := ⟨_, rfl⟩;rw [← hu] at hqd;refine dT (fun w' => w'.cell? ⟨O7, 11, none⟩ = some (.slice ak nk ck) ∧ w'.cell? ⟨O3, 0, none⟩ = some (pw C 0) ∧ w'.cell? ⟨C, 0, none⟩ = some (pw B 0)) (⟨B0.1, B1.1, hC0.1⟩) (fun ops Q Dj hb hL hR hK => ?_);refine mv7 hb e0 hB Bl hC0 hC1 B1 B0 fun e0 hB Bl hC0 hC1 B1 B0=>?_;replace B2 := B2.x hb;have Bx := hb.size;have hS := A3 B0.1 B1.1 hC0.1;refine wV 0 (pw O7 11) hR hS ?_;refine wM 1 (.slice ak nk ck) hR (fun w hS => ld31 (hS.1)) hS ?_;refine wM 2 (pw C 0) hR (fun w hS => ld80 (hS.2.1)) hS ?_;refine wW 3 (pw C 0) 4 (pw C 0) hR hS ?_;refine wM 5 (pw B 0) hR (fun w hS => ld81 (hS.2.2)) hS ?_;refine wW 6 (.func (.func 79) #[pw B 0] #[]) 7 (.func (.func 87) #[] #[pw O3 0, pw C3 0]) hR hS ?_;have hqs := Evs.qd_all (d := d) (q := q) (k := 1) (by omega);have Cf : GntOK w0 n0 B K n v Dj (Evs.qd d q) 87 #[] #[pw O3 0, pw C3 0] g (fun i => Evs.goalT n l d (kidN g i) cnt) := ⟨fun _ _ => by kernel_rfl, fun v' w' T' b9 hB9 hT9 e9 i hi9 ar9 nr9 cr9 ac9 nc9 cc9 ak9 nk9 ck9 hG9 => goal3_c (ce := ce) (g := kidN g i) w' hB9 H hv hnl e9 h0 (b9.wr.box (fun q => q.elim hCX id) hC0) (b9.wr.box (fun q => q.elim hCX id) hC1) (b9.nx hCX (by omega)) (b9.wr.box (fun q => q.elim (fun q => absurd (B6 _ q) (nn_ (nq_ Br))) id) B1) (b9.wr.box (fun q => q.elim (fun q => absurd (B6 _ q) (nn_ (Tq (Tq Bm Bp) (nq_ Bk)))) id) B2) (b9.nx (fun q => absurd (B6 _ q) (nn_ (nq_ Br))) (by omega)) (b9.nx (fun q => absurd (B6 _ q) (nn_ (Tq (Tq Bm Bp) (nq_ Bk)))) (nl_ Bz Bx)) ((hCn.step Bl).step b9) (fun v'' w'' T'' b8 hB8 hT8 e8 c0 c1 cx hS8 => ih q (kidN g i) cnt fS xS yS ar9 nr9 cr9 ac9 nc9 cc9 ak9 nk9 ck9 v'' T'' w'' hB8 hG9 (hrk i hi9) e8 c0 c1 cx hS8 hT8) hT9⟩;refine wC 8 85 #[.slice ak nk ck, iv (-1 : Int), .func (.func 79) #[pw B 0] #[], .func (.func 87) #[] #[pw O3 0, pw C3 0]] hR (((foldG_c (q := Evs.qd d q) (t0 := .leaf false) (st := true) _ hB HG e0 h0 trivial (nxt_or Cc _ _) Cf (by rw [← hu]; omega)).mono fun r w' hq9 => hq9.weak (by rw [← hu]; exact hqd)).mono ?_);rintro e Eu ⟨Eo, D8, rfl, Bt, Ca, Co, Cs, Cj⟩;replace e0 := Bt.wr.ext e0 (fun k q => q.elim (fun q => Tq (Tq (nr_ _) h0) (C0 k q)) (fun q => q.elim));replace Bl := Bl.trans Bt;replace hC0 := Bt.wr.box (fun q => q.elim hCX id) hC0;replace hC1 := Bt.wr.box (fun q => q.elim hCX id) hC1;replace B1 := Bt.wr.box (fun q => q.elim (fun q => absurd (B6 _ q) (nn_ (nq_ Br))) id) B1;have q9 := fun ⦃j : Nat⦄ ⦃v : Value⦄ (h : BoxAt _ O7 j v) => Bt.wr.box (fun q => q.elim (fun q => absurd (B6 _ q) (nn_ (Tq Bm (nq_ Bu)))) id) h
   replace B0 := q9 B0;clear q9;replace B2 := Bt.wr.box (fun q => q.elim (fun q => absurd (B6 _ q) (nn_ (Tq (Tq Bm Bp) (nq_ Bk)))) id) B2;have Ed := Bt.nx hCX (by omega);have Ee := Bt.nx (fun q => absurd (B6 _ q) (nn_ (Tq (Tq Bm Bp) (nq_ Bk)))) (nl_ Bz Bx);have Ef := Bt.nx (fun q => absurd (B6 _ q) (nn_ (nq_ Br))) (by omega);have Eg := Bt.nx (fun q => absurd (B6 _ q) (nn_ (Tq Bm (nq_ Bu)))) (nl_ C5 (Tq Bj Bx));have Dr := Bt.wr.size;have Dg := Ca.lt;have Dc := Ca.ge;have hS := A3 B0.1 B1.1 hC0.1;refine ⟨_, rfl, hS, ?_⟩;refine wV 9 (iv (ix D8 (foldD true n (.leaf false) ((List.range nk).map fun i => Evs.goalT n l d (kidN g i) cnt)))) hR hS ?_;refine we hL hR hK ?_;refine zq (cK [6] (fun L => ?_));refine ct_ (zR (iv (ix D8 (foldD true n (.leaf false) ((List.range nk).map fun i => Evs.goalT n l d (kidN g i) cnt)))) ?_)
   have hgt : Evs.goalT n l (d + 1) g cnt = foldD true n (.leaf false) ((List.range nk).map fun i => Evs.goalT n l d (kidN g i) cnt) := by
    rw [Evs.goalT_succ];rw [if_neg (by omega), if_neg (by omega), if_neg (by omega), hkn]
   rw [hgt];exact ⟨_, _, rfl, Bl, Ca, Co, Cs, Cj⟩
end Go.Proofs.YtpfajhcdfgpgmaaGreatDoor

namespace Go.Proofs.YtpfajhcdfgpgmaaGreatDoor
open Bdd (lit)
set_option maxRecDepth 1000000
set_option maxHeartbeats 4000000
set_option synthInstance.maxHeartbeats 0
set_option synthInstance.maxSize 9999
open Go.RowKit
namespace Evs
theorem qd_bd : qd 4 65536 ≤ 800000000000 := by decide
def compO (l : List Ev) (g : Goal) : Option (Int × Int × List Nod) := if Gol.validG g = true ∧ eventsB l = true then Bdd.machO l.length (goalT l.length l 4 g lit) else none
end Evs
theorem Compile_c {w0 : World} {ae : Option Addr} {n ce : Nat} {l : List Ev} {g : Goal} {ar : Option Addr} {nr cr : Nat} {ac : Option Addr} {nc cc : Nat} {ak : Option Addr} {nk ck : Nat} (w : World) (hT : Tab w0) (H : EvsAt w0 ae n l) (HG : GOp w0 g ⟨ar, nr, cr, ac, nc, cc, ak, nk, ck⟩) (e0 : Ext w0 w) (hr : Gol.validG g = true → Evs.RG 4 g) : Calls Tryz.prog 10 #[gw g.f ar nr cr ac nc cc ak nk ck, .slice ae n ce] w fun e w' => ∃ E' S' a' m' c' er, e = .returned (.tuple #[mw E' S' a' m' c', iv er]) ∧ OptM w.heap.size w' (Evs.compO l g) E' S' a' m' c' er ∧ Ext w w' := by
 replace H := H.ext e0;replace HG := HG.ext e0;replace hT := hT.ext e0;clear e0;have hll : l.length = n := H.len;refine calls_cw 37 [(1, .slice ae n ce), (0, gw g.f ar nr cr ac nc cc ak nk ck)] Tryz.func10 rfl Tryz.ntmps10 (by kernel_rfl) (by kernel_rfl) (fun L => ?_);have hE := er_ w;refine zc (zp (pS (sw 33 #[iv g.f.k, .slice ar nr cr, iv g.f.sf, iv g.f.st, iv g.f.lo, iv g.f.hi, .bool g.f.cl, iv g.f.dy, iv g.f.tm, iv g.f.wi, .slice ac nc cc, .slice ak nk ck] ?_)));intro O1 X2 Dt Dq hb hbx;have ⟨B2, B3, B4, B5, B6, B7, B8, Ba, Bc, Be, B0, B1⟩ := bq12 hbx;replace hE := hE.trans hb;have Cq := hb.size;have Cs := B2.lt;refine pS (sw 42 #[iv 0, iv 0, .slice none 0 0] ?_);intro O5 X6 Ca Dr hb hbx;have ⟨Bf, Bg, Bh⟩ := bq3 hbx;refine mv12 hb hE B2 B3 B4 B5 B6 B7 B8 Ba Bc Be B0 fun hE B2 B3 B4 B5 B6 B7 B8 Ba Bc Be B0=>?_;replace B1 := B1.x hb;have Cr := hb.size;have Cx := Bf.lt;refine pT (iv 0) ?_;refine zn (zc (cw_seq ?_));obtain ⟨b0, Co⟩ : ∃ q, Gol.validG g = q := ⟨_, rfl⟩
 cases b0
 ·
  refine zp (pU (gw g.f ar nr cr ac nc cc ak nk ck) (xl (ld33 (B2.1) (B3.1) (B4.1) (B5.1) (B6.1) (B7.1) (B8.1) (Ba.1) (Bc.1) (Be.1) (B0.1) (B1.1))) ?_);refine pS (sc 44 #[gw g.f ar nr cr ac nc cc ak nk ck] ((ValidGoal_r (r := false) _ hT HG hE Co).mono ?_));rintro e w9 ⟨rfl, hb⟩;refine mv16 hb hE B2 B3 B4 B5 B6 B7 B8 Ba Bc Be B0 B1 Bf Bg Bh fun hE B2 B3 B4 B5 B6 B7 B8 Ba Bc Be B0 B1 Bf Bg Bh=>?_;have Dj := hb.size;refine ⟨_, rfl, pD (.bool true) (.bool true) ?_⟩;refine pK ?_;refine pK ?_;refine pK ?_;refine pT (.bool true) ?_;refine zn (zt ?_);refine zc (zp (pT (mw 0 0 none 0 0) ?_));refine pP (sn_setK3 (O := O5) (j := 0) (v0 := iv 0) (v1 := iv 0) (v2 := .slice none 0 0) (xt (pw O5 0) (mw 0 0 none 0 0) (st42 Bf.1 Bf.2 Bg.1 Bg.2 Bh.1 Bh.2)) Bf Bg Bh ?_);intro Df ho Bf Bg Bh hk;replace hE := ho.ext hE (Tq Cq (nq_ Ca));refine mq12 (ho.bx O1 (by omega)) B2 B3 B4 B5 B6 B7 B8 Ba Bc Be B0 B1 fun B2 B3 B4 B5 B6 B7 B8 Ba Bc Be B0 B1=>?_;have Dk := nq_ ho.size.symm;clear ho hk;refine pT (iv 140) ?_;refine zn (ct_ (qt (qw_ret [mw 0 0 none 0 0, iv 140] rfl ⟨⟨_, by kernel_rfl, res_ld (ld42 (Bf.1) (Bg.1) (Bh.1))⟩, (by kernel_rfl), trivial⟩ ?_)));exact ⟨_, _, _, _, _, _, rfl, .inr ⟨if_neg (fun q => by rw [Co] at q; cases q.1), rfl, rfl, rfl, rfl, rfl, rfl⟩, hE⟩
 ·
  obtain ⟨b1, Cp⟩ : ∃ q, Evs.eventsB l = q := ⟨_, rfl⟩
  cases b1
  ·
   refine zp (pU (gw g.f ar nr cr ac nc cc ak nk ck) (xl (ld33 (B2.1) (B3.1) (B4.1) (B5.1) (B6.1) (B7.1) (B8.1) (Ba.1) (Bc.1) (Be.1) (B0.1) (B1.1))) ?_);refine pS (sc 44 #[gw g.f ar nr cr ac nc cc ak nk ck] ((ValidGoal_r (r := true) _ hT HG hE Co).mono ?_));rintro e E6 ⟨rfl, hb⟩;refine mv16 hb hE B2 B3 B4 B5 B6 B7 B8 Ba Bc Be B0 B1 Bf Bg Bh fun hE B2 B3 B4 B5 B6 B7 B8 Ba Bc Be B0 B1 Bf Bg Bh=>?_;have Dl := hb.size;refine ⟨_, rfl, pD (.bool false) (.bool false) ?_⟩;refine pT (.slice ae n ce) ?_;refine pS (sc 13 #[.slice ae n ce] ((Events_r (r := false) _ _ H hE Cp).mono ?_));rintro e Dx ⟨rfl, hb⟩;refine mv16 hb hE B2 B3 B4 B5 B6 B7 B8 Ba Bc Be B0 B1 Bf Bg Bh fun hE B2 B3 B4 B5 B6 B7 B8 Ba Bc Be B0 B1 Bf Bg Bh=>?_;have Dm := hb.size;refine ⟨_, rfl, pD (.bool true) (.bool true) ?_⟩;refine zn (zt ?_);refine zc (zp (pT (mw 0 0 none 0 0) ?_));refine pP (sn_setK3 (O := O5) (j := 0) (v0 := iv 0) (v1 := iv 0) (v2 := .slice none 0 0) (xt (pw O5 0) (mw 0 0 none 0 0) (st42 Bf.1 Bf.2 Bg.1 Bg.2 Bh.1 Bh.2)) Bf Bg Bh ?_);intro Dg ho Bf Bg Bh hk;replace hE := ho.ext hE (Tq Cq (nq_ Ca));refine mq12 (ho.bx O1 (by omega)) B2 B3 B4 B5 B6 B7 B8 Ba Bc Be B0 B1 fun B2 B3 B4 B5 B6 B7 B8 Ba Bc Be B0 B1=>?_;have Dn := nq_ ho.size.symm;clear ho hk;refine pT (iv 140) ?_;refine zn (ct_ (qt (qw_ret [mw 0 0 none 0 0, iv 140] rfl ⟨⟨_, by kernel_rfl, res_ld (ld42 (Bf.1) (Bg.1) (Bh.1))⟩, (by kernel_rfl), trivial⟩ ?_)));exact ⟨_, _, _, _, _, _, rfl, .inr ⟨if_neg (fun q => by rw [Cp] at q; cases q.2), rfl, rfl, rfl, rfl, rfl, rfl⟩, hE⟩
  ·
   have Cv : n ≤ 16 := by have := Evs.eventsB_len Cp;omega
   have hrg := hr Co;refine zp (pU (gw g.f ar nr cr ac nc cc ak nk ck) (xl (ld33 (B2.1) (B3.1) (B4.1) (B5.1) (B6.1) (B7.1) (B8.1) (Ba.1) (Bc.1) (Be.1) (B0.1) (B1.1))) ?_);refine pS (sc 44 #[gw g.f ar nr cr ac nc cc ak nk ck] ((ValidGoal_r (r := true) _ hT HG hE Co).mono ?_));rintro e E7 ⟨rfl, hb⟩;refine mv16 hb hE B2 B3 B4 B5 B6 B7 B8 Ba Bc Be B0 B1 Bf Bg Bh fun hE B2 B3 B4 B5 B6 B7 B8 Ba Bc Be B0 B1 Bf Bg Bh=>?_;have C2 := hb.size;refine ⟨_, rfl, pD (.bool false) (.bool false) ?_⟩;refine pT (.slice ae n ce) ?_;refine pS (sc 13 #[.slice ae n ce] ((Events_r (r := true) _ _ H hE Cp).mono ?_));rintro e Dy ⟨rfl, hb⟩;refine mv16 hb hE B2 B3 B4 B5 B6 B7 B8 Ba Bc Be B0 B1 Bf Bg Bh fun hE B2 B3 B4 B5 B6 B7 B8 Ba Bc Be B0 B1 Bf Bg Bh=>?_;have C3 := hb.size;refine ⟨_, rfl, pD (.bool false) (.bool false) ?_⟩;refine zn (zf ?_);refine cs_ (zq (zc (zp (pD (.slice ae n ce) (iv n) ?_))));refine pS (sc 45 #[iv n] ((begin_c n _).mono ?_));rintro e Dd ⟨B, K, rfl, C4, hb⟩;refine mv16 hb hE B2 B3 B4 B5 B6 B7 B8 Ba Bc Be B0 B1 Bf Bg Bh fun hE B2 B3 B4 B5 B6 B7 B8 Ba Bc Be B0 B1 Bf Bg Bh=>?_;have Ce := hb.size;obtain ⟨n0, Cn⟩ : ∃ q, q = Dy.heap.size := ⟨_, rfl⟩;rw [← Cn] at C4;obtain ⟨T0, D6⟩ : ∃ q, q = ([] : List Bdd.D) := ⟨_, rfl⟩;rw [← D6] at C4;have D3 : T0.length = 0 := by rw [D6];rfl
   have Cd := C4.lt;have C7 := C4.ge;have Ch : BS No B K (.slice none 0 0) Dd (.slice none 0 0) Dd := BS.refl _ _ _ _ _;refine ⟨_, rfl, pD (.slice ae n ce) (.agg #[pw B 0, .slice ae n ce]) ?_⟩;refine pS (sw 84 #[pw B 0, .slice ae n ce] ?_);intro Cb Dz C9 Dc hb hbx;have ⟨Bi, Bj⟩ := bq2 hbx;refine mv16 hb hE B2 B3 B4 B5 B6 B7 B8 Ba Bc Be B0 B1 Bf Bg Bh fun hE B2 B3 B4 B5 B6 B7 B8 Ba Bc Be B0 B1 Bf Bg Bh=>?_;replace C4 := C4.ext hb;have Cg := hb.size;have D4 := Bi.lt;refine pT (pw Cb 0) ?_;refine zn (cK [2,4,6] (fun L => ?_));refine zc (dT (fun w' => w'.cell? ⟨Cb, 0, none⟩ = some (pw B 0) ∧ w'.cell? ⟨O1, 0, none⟩ = some (iv g.f.k) ∧ w'.cell? ⟨O1, 1, none⟩ = some (.slice ar nr cr) ∧ w'.cell? ⟨O1, 2, none⟩ = some (iv g.f.sf) ∧ w'.cell? ⟨O1, 3, none⟩ = some (iv g.f.st) ∧ w'.cell? ⟨O1, 4, none⟩ = some (iv g.f.lo) ∧ w'.cell? ⟨O1, 5, none⟩ = some (iv g.f.hi) ∧ w'.cell? ⟨O1, 6, none⟩ = some (.bool g.f.cl) ∧ w'.cell? ⟨O1, 7, none⟩ = some (iv g.f.dy) ∧ w'.cell? ⟨O1, 8, none⟩ = some (iv g.f.tm) ∧ w'.cell? ⟨O1, 9, none⟩ = some (iv g.f.wi) ∧ w'.cell? ⟨O1, 10, none⟩ = some (.slice ac nc cc) ∧ w'.cell? ⟨O1, 11, none⟩ = some (.slice ak nk ck)) (⟨Bi.1, B2.1, B3.1, B4.1, B5.1, B6.1, B7.1, B8.1, Ba.1, Bc.1, Be.1, B0.1, B1.1⟩) (fun ops Q E4 hb hL hR hK => ?_));refine mv16 hb hE B2 B3 B4 B5 B6 B7 B8 Ba Bc Be B0 B1 Bf Bg Bh fun hE B2 B3 B4 B5 B6 B7 B8 Ba Bc Be B0 B1 Bf Bg Bh=>?_;refine mv3 hb C4 Bi Bj fun C4 Bi Bj=>?_;have Cf := hb.size;have hS := A13 Bi.1 B2.1 B3.1 B4.1 B5.1 B6.1 B7.1 B8.1 Ba.1 Bc.1 Be.1 B0.1 B1.1;refine wW 0 (pw Cb 0) 1 (pw Cb 0) hR hS ?_;refine wV 2 (pw Cb 0) hR hS ?_;refine wM 3 (pw B 0) hR (fun w hS => ld81 (hS.1)) hS ?_;refine wV 4 (pw Cb 0) hR hS ?_;refine wM 5 (gw g.f ar nr cr ac nc cc ak nk ck) hR (fun w hS => ld33 (hS.2.1) (hS.2.2.1) (hS.2.2.2.1) (hS.2.2.2.2.1) (hS.2.2.2.2.2.1) (hS.2.2.2.2.2.2.1) (hS.2.2.2.2.2.2.2.1) (hS.2.2.2.2.2.2.2.2.1) (hS.2.2.2.2.2.2.2.2.2.1) (hS.2.2.2.2.2.2.2.2.2.2.1) (hS.2.2.2.2.2.2.2.2.2.2.2.1) (hS.2.2.2.2.2.2.2.2.2.2.2.2)) hS ?_;refine wW 6 (pw Cb 0) 7 (pw Cb 0) hR hS ?_;refine wV 8 (pw Cb 0) hR hS ?_;refine wM 9 (pw B 0) hR (fun w hS => ld81 (hS.1)) hS ?_;refine wV 10 (.func (.func 48) #[pw B 0] #[]) hR hS ?_;refine wC 11 47 #[pw Cb 0, gw g.f ar nr cr ac nc cc ak nk ck, .func (.func 48) #[pw B 0] #[]] hR ((goal_c (ce := ce) H Cp rfl (Tq (Tq Cq (Tq Cr (Tq C2 C3))) (nq_ Cn.symm)) 4 65536 g lit _ _ _ ar nr cr ac nc cc ak nk ck _ _ _ C4 HG hrg hE Bi Bj (fun q => absurd (Cd _ q) (nn_ (nq_ C9))) (cnt_single Cv _ _) (by rw [D3]; have := Evs.qd_bd; omega)).mono ?_);rintro e E8 ⟨E5, De, rfl, C5, Cc, Cu, Db, D9⟩;replace hE := C5.wr.ext hE (fun k q => q.elim (fun q => Tq (Tq (Tq Cq (Tq Cr (Tq C2 C3))) (nq_ Cn.symm)) (C7 k q)) (fun q => q.elim));have q9 := fun ⦃j : Nat⦄ ⦃v : Value⦄ (h : BoxAt _ O1 j v) => C5.wr.box (fun q => q.elim (fun q => absurd (C7 _ q) (Nat.not_le_of_lt (nl_ (nl_ Cs (Tq Cr (Tq C2 C3))) (nq_ Cn.symm)))) id) h
   replace B2 := q9 B2;replace B3 := q9 B3;replace B4 := q9 B4;replace B5 := q9 B5;replace B6 := q9 B6;replace B7 := q9 B7;replace B8 := q9 B8;replace Ba := q9 Ba;replace Bc := q9 Bc;replace Be := q9 Be;replace B0 := q9 B0;replace B1 := q9 B1;clear q9;have q9 := fun ⦃j : Nat⦄ ⦃v : Value⦄ (h : BoxAt _ O5 j v) => C5.wr.box (fun q => q.elim (fun q => absurd (C7 _ q) (Nat.not_le_of_lt (nl_ (nl_ Cx (Tq C2 C3)) (nq_ Cn.symm)))) id) h
   replace Bf := q9 Bf;replace Bg := q9 Bg;replace Bh := q9 Bh;clear q9;have q9 := fun ⦃j : Nat⦄ ⦃v : Value⦄ (h : BoxAt _ Cb j v) => C5.wr.box (fun q => q.elim (fun q => absurd (Cd _ q) (nn_ (nq_ C9))) id) h
   replace Bi := q9 Bi;replace Bj := q9 Bj;clear q9;have Du := C5.nx (fun q => absurd (C7 _ q) (Nat.not_le_of_lt (nl_ (nl_ Cs (Tq Cr (Tq C2 C3))) (nq_ Cn.symm)))) (by omega);have Dv := C5.nx (fun q => absurd (Cd _ q) (nn_ (nq_ C9))) (nl_ D4 Cf);have Dw := C5.nx (fun q => absurd (C7 _ q) (Nat.not_le_of_lt (nl_ (nl_ Cx (Tq C2 C3)) (nq_ Cn.symm)))) (by omega);have Cw := C5.wr.size;have D8 := Cc.lt;have D7 := Cc.ge;refine ⟨_, rfl, ⟨Bi.1, B2.1, B3.1, B4.1, B5.1, B6.1, B7.1, B8.1, Ba.1, Bc.1, Be.1, B0.1, B1.1⟩, ?_⟩;refine wC 12 46 #[pw B 0, iv (Bdd.ix De (Evs.goalT n l 4 g lit))] hR ((done_c _ Cc Cu (by have := Evs.qd_bd; omega) Cv).mono ?_);rintro e D5 ⟨Cy, Cz, D0, D2, D1, Cm, rfl, Ct, hb⟩;refine mv16 hb hE B2 B3 B4 B5 B6 B7 B8 Ba Bc Be B0 B1 Bf Bg Bh fun hE B2 B3 B4 B5 B6 B7 B8 Ba Bc Be B0 B1 Bf Bg Bh=>?_;refine mv2 hb Bi Bj fun Bi Bj=>?_;have Do := hb.size;have Di := er_ D5;have hS := A13 Bi.1 B2.1 B3.1 B4.1 B5.1 B6.1 B7.1 B8.1 Ba.1 Bc.1 Be.1 B0.1 B1.1;refine ⟨_, rfl, hS, ?_⟩;refine wW 13 (mw Cy Cz D0 D2 D1) 14 (iv Cm) hR hS ?_;have Bp := B2;have Bq := B3;have Br := B4;have Bs := B5;have Bt := B6;have Bu := B7;have Bv := B8;have Bw := Ba;have Bx := Bc;have Bz := Be;have C0 := B0;have C1 := B1;have Bk := Bf;have Bl := Bg;have Bm := Bh;have Bo := Bi;have C6 := Bj;have C8 := Ct;refine wS 15 hR (sn_setK3 (O := O5) (j := 0) (v0 := iv Cy) (v1 := iv Cz) (v2 := .slice D0 D2 D1) (ex_store (p := pw O5 0) (v := mw Cy Cz D0 D2 D1) rfl (by kernel_rfl) (by kernel_rfl) (st42 Bk.1 Bk.2 Bl.1 Bl.2 Bm.1 Bm.2)) Bk Bl Bm ?_);intro Dh ho Bk Bl Bm hk;replace hE := ho.ext hE (Tq Cq (nq_ Ca));refine mq12 (ho.bx O1 (by omega)) Bp Bq Br Bs Bt Bu Bv Bw Bx Bz C0 C1 fun Bp Bq Br Bs Bt Bu Bv Bw Bx Bz C0 C1=>?_;replace Bo := (ho.bx Cb (by omega)) Bo;replace C8 := C8.turn ho (by omega);have Dp := nq_ ho.size.symm;clear ho hk;refine ⟨⟨Bo.1, Bp.1, Bq.1, Br.1, Bs.1, Bt.1, Bu.1, Bv.1, Bw.1, Bx.1, Bz.1, C0.1, C1.1⟩, ?_⟩;refine wV 16 (iv Cm) hR (⟨Bo.1, Bp.1, Bq.1, Br.1, Bs.1, Bt.1, Bu.1, Bv.1, Bw.1, Bx.1, Bz.1, C0.1, C1.1⟩) ?_;refine we hL hR hK ?_;refine zq (cK [4,5] (fun L => ?_));refine ct_ (qw_ret [mw Cy Cz D0 D2 D1, iv Cm] rfl ⟨⟨_, by kernel_rfl, res_ld (ld42 (Bk.1) (Bl.1) (Bm.1))⟩, (by kernel_rfl), trivial⟩ ?_);have Da := C8;rw [show Bdd.machO n (Evs.goalT n l 4 g lit) = Evs.compO l g by unfold Evs.compO; rw [if_pos ⟨Co, Cp⟩, hll]] at Da;exact ⟨_, _, _, _, _, _, rfl, Da.mono (by omega), hE⟩
end Go.Proofs.YtpfajhcdfgpgmaaGreatDoor

namespace Go.Proofs.YtpfajhcdfgpgmaaGreatDoor
variable {k n r s : Nat}
namespace Bdd
theorem bits_low (i : Nat) : bits (s % 2 ^ k + r * 2 ^ k) i = if i < k then bits s i else bits r (i - k) := by
 unfold bits
 rw [Nat.add_comm, Nat.mul_comm, Nat.testBit_two_pow_mul_add _ (Nat.mod_lt _ (Nat.two_pow_pos k))]
 split
 · rename_i h; rw [Nat.testBit_mod_two_pow]; simp [h]
 · rfl
theorem num_of (f : Nat → Bool) : ∀ m, ∃ r, r < 2 ^ m ∧ ∀ i, i < m → bits r i = f i
  | 0 => ⟨0, by simp, fun i h => absurd h (Nat.not_lt_zero i)⟩
  | m + 1 => by
    obtain ⟨r, h1, h2⟩ := num_of f m
    refine ⟨2 ^ m * (if f m then 1 else 0) + r, ?_, fun i hi => ?_⟩
    · rw [Nat.pow_succ]; split <;> omega
    · unfold bits at h2 ⊢
      rw [Nat.testBit_two_pow_mul_add _ h1]
      split
      · rename_i q; exact h2 i q
      · obtain rfl : i = m := by omega
        rw [Nat.sub_self]
        cases f i <;> simp
theorem mixed_lt (hk : k ≤ n) (hr : r < 2 ^ (n - k)) : s % 2 ^ k + r * 2 ^ k < 2 ^ n := by
 have h1 := Nat.mod_lt s (Nat.two_pow_pos k)
 have h2 : (r + 1) * 2 ^ k ≤ 2 ^ (n - k) * 2 ^ k := Nat.mul_le_mul_right _ hr
 rw [← Nat.pow_add, show n - k + k = n by omega, Nat.add_mul, Nat.one_mul] at h2
 omega
theorem div_lt_pow {o : Nat} (hk : k ≤ n) (ho : o < 2 ^ n) : o / 2 ^ k < 2 ^ (n - k) := by
 rw [Nat.div_lt_iff_lt_mul (Nat.two_pow_pos k), ← Nat.pow_add, show n - k + k = n by omega]; exact ho
def sureB (t : D) (s k : Nat) : Bool := decide (rest k (bits s) t = .leaf true)
def canB (t : D) (s k : Nat) : Bool := decide (rest k (bits s) t ≠ .leaf false)
def goOn (t : D) (s k r : Nat) : Bool := sem t (bits (s % 2 ^ k + r * 2 ^ k))
theorem goOn_is {t : D} (ho : OK 0 n t) : goOn t s k r = sem (rest k (bits s) t) (bits (s % 2 ^ k + r * 2 ^ k)) := (rest_sem (fun i hi => by rw [bits_low, if_pos hi]) ho).symm
theorem goOn_all {t : D} (ho : OK 0 n t) (hk : k ≤ n) (s' : Nat → Bool) : ∃ r, r < 2 ^ (n - k) ∧ goOn t s k r = sem (rest k (bits s) t) s' := by
 obtain ⟨r, h1, h2⟩ := num_of (fun i => s' (i + k)) (n - k)
 refine ⟨r, h1, ?_⟩
 rw [goOn_is ho]
 have hr := rest_ok (s := bits s) hk ho
 rw [Nat.max_eq_right (Nat.zero_le _)] at hr
 exact hr.congr fun i hi hin => by
  rw [bits_low, if_neg (by omega), h2 _ (by omega)]
  congr 1; omega
theorem some_is {t : D} (ho : OK 0 n t) (hk : k ≤ n) : (List.range (2 ^ (n - k))).any (goOn t s k) = canB t s k := by
 have hr := rest_ok (s := bits s) hk ho
 rw [Nat.max_eq_right (Nat.zero_le _)] at hr
 cases hc : canB t s k with
 | true =>
  have h1 := of_decide_eq_true hc
  have h2 : ∃ s', sem (rest k (bits s) t) s' = true := by
   refine Classical.byContradiction fun q => h1 (uniq (k := k) (n := n) hr trivial fun s' => ?_)
   cases h3 : sem (rest k (bits s) t) s' with
   | false => rfl
   | true => exact absurd ⟨s', h3⟩ q
  obtain ⟨s', h3⟩ := h2
  obtain ⟨r, h4, h5⟩ := goOn_all ho hk s'
  rw [List.any_eq_true]
  exact ⟨r, List.mem_range.2 h4, by rw [h5, h3]⟩
 | false =>
  have h1 := Decidable.not_not.1 (of_decide_eq_false hc)
  rw [List.any_eq_false]
  intro r _
  rw [goOn_is ho, h1]
  simp [sem]
theorem every_is {t : D} (ho : OK 0 n t) (hk : k ≤ n) : (List.range (2 ^ (n - k))).all (goOn t s k) = sureB t s k := by
 have hr := rest_ok (s := bits s) hk ho
 rw [Nat.max_eq_right (Nat.zero_le _)] at hr
 cases hc : sureB t s k with
 | true =>
  have h1 := of_decide_eq_true hc
  rw [List.all_eq_true]
  intro r _
  rw [goOn_is ho, h1]
  rfl
 | false =>
  have h1 := of_decide_eq_false hc
  have h2 : ∃ s', sem (rest k (bits s) t) s' = false := by
   refine Classical.byContradiction fun q => h1 (uniq (k := k) (n := n) hr trivial fun s' => ?_)
   cases h3 : sem (rest k (bits s) t) s' with
   | true => rfl
   | false => exact absurd ⟨s', h3⟩ q
  obtain ⟨s', h3⟩ := h2
  obtain ⟨r, h4, h5⟩ := goOn_all ho hk s'
  cases q : (List.range (2 ^ (n - k))).all (goOn t s k) with
  | false => rfl
  | true => have := List.all_eq_true.1 q r (List.mem_range.2 h4); rw [h5, h3] at this; cases this
theorem sur_is (t : D) (s k : Nat) : surO (some (rest k (bits s) t)) = sureB t s k := by
 unfold surO sureB; exact decide_eq_decide.2 ⟨fun h => Option.some.inj h, fun h => by rw [h]⟩
theorem can_is (t : D) (s k : Nat) : canO (some (rest k (bits s) t)) = canB t s k := by
 unfold canO canB
 refine decide_eq_decide.2 ⟨fun h q => h.2 (by rw [q]), fun h => ⟨?_, fun q => h (Option.some.inj q)⟩⟩
 intro q; cases q
end Bdd
end Go.Proofs.YtpfajhcdfgpgmaaGreatDoor

namespace Go.Proofs.YtpfajhcdfgpgmaaGreatDoor
variable {c : Nat → Nat} {V e : Nat} {a b : Int}
namespace Bdd
def b1 (b : Bool) : Nat := if b then 1 else 0
def sumB (c : Nat → Nat) (s : Nat → Bool) : Nat → Nat
 | 0 => 0
 | i + 1 => sumB c s i + c i * b1 (s i)
theorem b1_is (V i : Nat) : V / 2 ^ i % 2 = b1 (bits V i) := by
 unfold b1 bits
 rw [Nat.testBit_eq_decide_div_mod_eq]
 rcases Nat.mod_two_eq_zero_or_one (V / 2 ^ i) with h | h <;> rw [h] <;> simp
theorem sumB_congr {c : Nat → Nat} {s s' : Nat → Bool} : ∀ {n : Nat}, (∀ i, i < n → s i = s' i) → sumB c s n = sumB c s' n
 | 0, _ => rfl
 | n + 1, h => by
  show sumB c s n + _ = sumB c s' n + _
  rw [sumB_congr fun i hi => h i (by omega), h n (by omega)]
theorem sumB_upd {c : Nat → Nat} {s s' : Nat → Bool} {e : Nat} (h1 : s e = false) (h2 : s' e = true) (h3 : ∀ i, i ≠ e → s' i = s i) : ∀ {n : Nat}, e < n → sumB c s' n = sumB c s n + c e
  | 0, h => absurd h (Nat.not_lt_zero e)
  | n + 1, h => by
    show sumB c s' n + c n * b1 (s' n) = sumB c s n + c n * b1 (s n) + c e
    rcases Nat.lt_or_ge e n with q | q
    · rw [sumB_upd h1 h2 h3 q, h3 n (by omega)]; omega
    · obtain rfl : e = n := by omega
      rw [sumB_congr (s := s') (s' := s) fun i hi => h3 i (by omega), h1, h2]
      simp [b1]
theorem bit_off (h : bits V e = true) : ∃ U, V = U + 2 ^ e ∧ bits U e = false ∧ ∀ i, i ≠ e → bits U i = bits V i := by
  have h1 : V / 2 ^ e % 2 = 1 := by rw [b1_is, h]; rfl
  have hp := Nat.two_pow_pos e
  obtain ⟨q, hq⟩ : ∃ q, V / 2 ^ e = 2 * q + 1 := ⟨V / 2 ^ e / 2, by omega⟩
  have hr := Nat.mod_lt V hp
  have hV : V = 2 ^ e * (2 * q + 1) + V % 2 ^ e := by rw [← hq]; exact (Nat.div_add_mod V (2 ^ e)).symm
  refine ⟨2 ^ e * (2 * q) + V % 2 ^ e, by rw [Nat.mul_add] at hV; omega, ?_, fun i hi => ?_⟩
  · unfold bits
    rw [Nat.testBit_two_pow_mul_add _ hr, if_neg (by omega), Nat.sub_self]
    simp
  · have hV2 : bits V i = bits (2 ^ e * (2 * q + 1) + V % 2 ^ e) i := congrArg (fun x => bits x i) hV
    rw [hV2]
    unfold bits
    rw [Nat.testBit_two_pow_mul_add _ hr, Nat.testBit_two_pow_mul_add _ hr]
    split
    · rfl
    · obtain ⟨m, hm⟩ : ∃ m, i - e = m + 1 := ⟨i - e - 1, by omega⟩
      rw [hm, Nat.testBit_succ, Nat.testBit_succ]
      congr 1; omega
theorem bit_on (h : V % 2 ^ (e + 1) = 0) : V ||| 2 ^ e = V + 2 ^ e ∧ bits V e = false ∧ bits (V ||| 2 ^ e) e = true ∧ ∀ i, i ≠ e → bits (V ||| 2 ^ e) i = bits V i := by
  have hV : V = 2 ^ (e + 1) * (V / 2 ^ (e + 1)) := by have := Nat.div_add_mod V (2 ^ (e + 1)); omega
  have hl : 2 ^ e < 2 ^ (e + 1) := Nat.pow_lt_pow_right (by decide) (Nat.lt_succ_self e)
  have h1 := Nat.two_pow_add_eq_or_of_lt hl (V / 2 ^ (e + 1))
  rw [← hV] at h1
  refine ⟨h1.symm, ?_, ?_, fun i hi => ?_⟩
  · unfold bits
    rw [hV, Nat.testBit_two_pow_mul]
    simp; omega
  · unfold bits
    rw [Nat.testBit_or, Nat.testBit_two_pow_self, Bool.or_true]
  · unfold bits
    rw [Nat.testBit_or, Nat.testBit_two_pow_of_ne (Ne.symm hi), Bool.or_false]
structure OffIs (c : Nat → Nat) (k n : Nat) (t : D) (o : Off) : Prop where
 no : o.1 = false → o = (false, 0, 0) ∧ ∀ s, sem t s = false
 lt : o.2.2 < 2 ^ n
 md : o.2.2 % 2 ^ k = 0
 yes : o.1 = true → sem t (bits o.2.2) = true ∧ o.2.1 = sumB c (bits o.2.2) n
 le : o.1 = true → ∀ V, sem t (bits V) = true → o.2.1 < sumB c (bits V) n ∨ o.2.1 = sumB c (bits V) n ∧ o.2.2 ≤ V
theorem mod_mono {j k : Nat} (h : V % 2 ^ k = 0) (hj : j ≤ k) : V % 2 ^ j = 0 := Nat.mod_eq_zero_of_dvd (Nat.dvd_trans (Nat.pow_dvd_pow 2 hj) (Nat.dvd_of_mod_eq_zero h))
theorem or2_neg {x y : Int} : or2 x y < 0 ↔ x < 0 ∨ x = 0 ∧ y < 0 := by unfold or2; split <;> omega
theorem cmpI_neg : cmpI a b < 0 ↔ a < b := by unfold cmpI; split <;> (try split) <;> omega
theorem cmpI_zero : cmpI a b = 0 ↔ a = b := by unfold cmpI; split <;> (try split) <;> omega
theorem off_is {c : Nat → Nat} {n : Nat} : ∀ {t : D} {k : Nat}, OK k n t → OffIs c k n t (off c t)
  | .leaf b, k, _ => by
    have hz : sumB c (bits 0) n = 0 := by
      have : ∀ m, sumB c (bits 0) m = 0 := fun m => by
        induction m with
        | zero => rfl
        | succ m ih => show sumB c (bits 0) m + c m * b1 (bits 0 m) = 0; rw [ih]; simp [b1, bits]
      exact this n
    refine ⟨fun h => ?_, Nat.two_pow_pos n, Nat.zero_mod _, fun h => ?_, fun h V _ => ?_⟩
    · have : b = false := h
      subst this
      exact ⟨rfl, fun _ => rfl⟩
    · exact ⟨h, hz.symm⟩
    · show 0 < _ ∨ 0 = _ ∧ 0 ≤ V
      omega
  | .nd e a b, k, ho => by
    obtain ⟨h1, h2, h3, h4, h5⟩ := ho
    have ia := off_is (c := c) h4
    have ib := off_is (c := c) h5
    have hsa : ∀ V, bits V e = false → sem (.nd e a b) (bits V) = sem a (bits V) := fun V hV => by simp [sem, hV]
    have hsb : ∀ V, bits V e = true → sem (.nd e a b) (bits V) = sem b (bits V) := fun V hV => by simp [sem, hV]
    have hae : bits (off c a).2.2 e = false := (bit_on ia.md).2.1
    have hbe := bit_on ib.md
    have hce : sumB c (bits ((off c b).2.2 ||| 2 ^ e)) n = sumB c (bits (off c b).2.2) n + c e := sumB_upd hbe.2.1 hbe.2.2.1 hbe.2.2.2 h2
    have hbs : sem b (bits ((off c b).2.2 ||| 2 ^ e)) = sem b (bits (off c b).2.2) := h5.congr fun i hi _ => hbe.2.2.2 i (by omega)
    have hbl : (off c b).2.2 ||| 2 ^ e < 2 ^ n := Nat.or_lt_two_pow ib.lt (Nat.pow_lt_pow_right (by decide) h2)
    have hbm : ((off c b).2.2 ||| 2 ^ e) % 2 ^ k = 0 := by
      rw [hbe.1, Nat.add_mod, mod_mono ib.md (show k ≤ e + 1 by omega), mod_mono (Nat.mod_self (2 ^ e)) h1]
      simp
    -- what goes on with the event
    have goB : ∀ V, bits V e = true → sem b (bits V) = true → (off c b).1 = true → (off c b).2.1 + c e < sumB c (bits V) n ∨ (off c b).2.1 + c e = sumB c (bits V) n ∧ (off c b).2.2 ||| 2 ^ e ≤ V := fun V hV hs hi => by
      obtain ⟨U, rfl, B1, B0⟩ := bit_off hV
      have hsU : sem b (bits U) = true := by rw [← hs]; exact h5.congr fun i hi _ => B0 i (by omega)
      have B2 : sumB c (bits (U + 2 ^ e)) n = sumB c (bits U) n + c e := sumB_upd B1 hV (fun i hi => (B0 i hi).symm) h2
      have := ib.le hi U hsU
      rw [B2, hbe.1]
      omega
    show OffIs c k n (.nd e a b) (best (off c a) (upO c e (off c b)))
    cases hpa : (off c a).1 with
    | false =>
      obtain ⟨ea, na⟩ := ia.no hpa
      cases hpb : (off c b).1 with
      | false =>
        obtain ⟨eb, nb⟩ := ib.no hpb
        have e1 : best (off c a) (upO c e (off c b)) = (false, 0, 0) := by rw [ea, eb]; rfl
        rw [e1]
        refine ⟨fun _ => ⟨rfl, fun s => ?_⟩, Nat.two_pow_pos n, Nat.zero_mod _, (fun h => by cases h), (fun h => by cases h)⟩
        simp [sem, na, nb]
      | true =>
        have e1 : best (off c a) (upO c e (off c b)) = (true, (off c b).2.1 + c e, (off c b).2.2 ||| 2 ^ e) := by
          rw [ea]; unfold upO; rw [if_pos hpb]; rfl
        rw [e1]
        refine ⟨(fun h => by cases h), hbl, hbm, fun _ => ⟨?_, ?_⟩, fun _ V hV => ?_⟩
        · rw [hsb _ hbe.2.2.1, hbs]; exact (ib.yes hpb).1
        · show _ + _ = _; rw [hce, (ib.yes hpb).2]
        · cases hVe : bits V e with
          | false => rw [hsa V hVe, na] at hV; cases hV
          | true => exact goB V hVe (by rw [← hsb V hVe]; exact hV) hpb
    | true =>
      cases hpb : (off c b).1 with
      | false =>
        obtain ⟨eb, nb⟩ := ib.no hpb
        have e1 : best (off c a) (upO c e (off c b)) = off c a := by
          rw [eb]; show best (off c a) (false, 0, 0) = _; unfold best cmpO; simp [hpa]
        rw [e1]
        refine ⟨(fun h => by rw [hpa] at h; cases h), ia.lt, mod_mono ia.md (by omega), fun _ => ⟨?_, (ia.yes hpa).2⟩, fun _ V hV => ?_⟩
        · rw [hsa _ hae]; exact (ia.yes hpa).1
        · cases hVe : bits V e with
          | false => exact ia.le hpa V (by rw [← hsa V hVe]; exact hV)
          | true => rw [hsb V hVe, nb] at hV; cases hV
      | true =>
        have e0 : upO c e (off c b) = (true, (off c b).2.1 + c e, (off c b).2.2 ||| 2 ^ e) := by unfold upO; rw [if_pos hpb]
        rw [e0]
        by_cases hlt : cmpO (true, (off c b).2.1 + c e, (off c b).2.2 ||| 2 ^ e) (off c a) < 0
        · have e1 : best (off c a) (true, (off c b).2.1 + c e, (off c b).2.2 ||| 2 ^ e) = (true, (off c b).2.1 + c e, (off c b).2.2 ||| 2 ^ e) := if_pos hlt
          rw [e1]
          have hx : (off c b).2.1 + c e < (off c a).2.1 ∨ (off c b).2.1 + c e = (off c a).2.1 ∧ (off c b).2.2 ||| 2 ^ e < (off c a).2.2 := by
            unfold cmpO at hlt
            rw [if_neg (by simp [hpa]), or2_neg, cmpI_neg, cmpI_zero, cmpI_neg] at hlt
            simp only [] at hlt
            generalize (off c b).2.2 ||| 2 ^ e = z at hlt ⊢
            omega
          refine ⟨(fun h => by cases h), hbl, hbm, fun _ => ⟨?_, ?_⟩, fun _ V hV => ?_⟩
          · rw [hsb _ hbe.2.2.1, hbs]; exact (ib.yes hpb).1
          · show _ + _ = _; rw [hce, (ib.yes hpb).2]
          · cases hVe : bits V e with
            | false =>
              have := ia.le hpa V (by rw [← hsa V hVe]; exact hV)
              show (off c b).2.1 + c e < _ ∨ (off c b).2.1 + c e = _ ∧ (off c b).2.2 ||| 2 ^ e ≤ V
              generalize (off c b).2.2 ||| 2 ^ e = z at hx ⊢
              omega
            | true => exact goB V hVe (by rw [← hsb V hVe]; exact hV) hpb
        · have e1 : best (off c a) (true, (off c b).2.1 + c e, (off c b).2.2 ||| 2 ^ e) = off c a := if_neg hlt
          rw [e1]
          have hx : ¬ ((off c b).2.1 + c e < (off c a).2.1 ∨ (off c b).2.1 + c e = (off c a).2.1 ∧ (off c b).2.2 ||| 2 ^ e < (off c a).2.2) := by
            intro q
            apply hlt
            unfold cmpO
            rw [if_neg (by simp [hpa]), or2_neg, cmpI_neg, cmpI_zero, cmpI_neg]
            simp only []
            generalize (off c b).2.2 ||| 2 ^ e = z at q ⊢
            omega
          refine ⟨(fun h => by rw [hpa] at h; cases h), ia.lt, mod_mono ia.md (by omega), fun _ => ⟨?_, (ia.yes hpa).2⟩, fun _ V hV => ?_⟩
          · rw [hsa _ hae]; exact (ia.yes hpa).1
          · cases hVe : bits V e with
            | false => exact ia.le hpa V (by rw [← hsa V hVe]; exact hV)
            | true =>
              have := goB V hVe (by rw [← hsb V hVe]; exact hV) hpb
              generalize (off c b).2.2 ||| 2 ^ e = z at hx this
              omega
end Bdd
end Go.Proofs.YtpfajhcdfgpgmaaGreatDoor

namespace Go.Proofs.YtpfajhcdfgpgmaaGreatDoor
namespace Bdd
theorem need_iff {n i : Nat} (hi : i < n) : ∀ {t : D} {k : Nat}, OK k n t → ((needD n t).testBit i = true ↔ ∀ s : Nat → Bool, sem t s = true → s i = true)
  | .leaf false, _, _ => by
    show (2 ^ n - 1).testBit i = true ↔ _
    rw [Nat.testBit_two_pow_sub_one]
    simp [hi, sem]
  | .leaf true, _, _ => by
    show (0 : Nat).testBit i = true ↔ _
    simp only [Nat.zero_testBit, sem]
    exact ⟨(fun h => by cases h), fun h => by cases h (fun _ => false) trivial⟩
  | .nd e a b, k, ho => by
    obtain ⟨h1, h2, h3, h4, h5⟩ := ho
    have ia := need_iff hi h4
    have ib := need_iff hi h5
    show (needD n a &&& (needD n b ||| 2 ^ e)).testBit i = true ↔ _
    rw [Nat.testBit_and, Nat.testBit_or, Bool.and_eq_true, Bool.or_eq_true, ia, ib]
    constructor
    · rintro ⟨q1, q2⟩ s hs
      cases he : s e with
      | false => exact q1 s (by simpa [sem, he] using hs)
      | true =>
        rcases q2 with q2 | q2
        · exact q2 s (by simpa [sem, he] using hs)
        · by_cases q : e = i
          · rw [← q]; exact he
          · rw [Nat.testBit_two_pow_of_ne q] at q2; cases q2
    · intro h
      constructor
      · intro s hs
        have := h (upd s e false) (by rw [sem_no h4]; exact hs)
        unfold upd at this
        split at this
        · cases this
        · exact this
      · by_cases q : i = e
        · right; rw [q, Nat.testBit_two_pow_self]
        · left
          intro s hs
          have := h (upd s e true) (by rw [sem_yes h5]; exact hs)
          unfold upd at this
          rwa [if_neg q] at this
def wo (t : D) (n : Nat) : Nat → Nat
 | 0 => 0
 | V + 1 => if sem t (bits V) = true then wo t n V ||| (2 ^ n - 1 - V) else wo t n V
end Bdd
end Go.Proofs.YtpfajhcdfgpgmaaGreatDoor

namespace Go.Proofs.YtpfajhcdfgpgmaaGreatDoor
variable {i : Nat} {s : Int}
namespace Bdd
theorem dens_at {N : List Row} (hi : i < N.length) : (dens N)[i]? = some (mk (rwN N i).1.toNat (dat (dens (N.take i)) (rwN N i).2.1) (dat (dens (N.take i)) (rwN N i).2.2)) := by
 have h1 := dens_pre (N := N) (i := i + 1) (k := N.length) (by omega) (nr_ _) i (Nat.lt_succ_self i)
 rw [List.take_length] at h1
 rw [h1, dens_step hi, List.getElem?_append_right (by rw [dens_len, List.length_take]; omega), dens_len, List.length_take, Nat.min_eq_left (by omega), Nat.sub_self]
 rfl
theorem dat_take {N : List Row} (hi : i ≤ N.length) (hs : s < (i : Int)) : dat (dens N) s = dat (dens (N.take i)) s := by
  unfold dat
  split
  · rfl
  · split
    · rfl
    · have h1 := dens_pre (N := N) (i := i) (k := N.length) hi (nr_ _) s.toNat (by omega)
      rw [List.take_length] at h1
      rw [h1]
theorem dat_sem {E S : Int} {N : List Row} (h : Str E S N) {e : Nat} (hi : i < N.length) (he : (rwN N i).1 = (e : Int)) (s : Nat → Bool) : sem (dat (dens N) (i : Int)) s = sem (dat (dens N) (if s e then (rwN N i).2.2 else (rwN N i).2.1)) s := by
 obtain ⟨⟨h1, _⟩, ⟨h2, _⟩, _⟩ := h.n i hi
 rw [dat_nd, dens_at hi]
 show sem (mk _ _ _) s = _
 rw [sem_mk, he, Int.toNat_natCast, ← dat_take (Nat.le_of_lt hi) (show (rwN N i).2.1 < (i : Int) by omega), ← dat_take (Nat.le_of_lt hi) (show (rwN N i).2.2 < (i : Int) by omega)]
 split <;> rfl
def accI (b : Bool) : Int := if b then -2 else -1
theorem dat_end {N : List Row} (h1 : -2 ≤ s) (h2 : s < 0) (f : Nat → Bool) : s = accI (sem (dat (dens N) s) f) := by
 have : s = -1 ∨ s = -2 := by omega
 rcases this with rfl | rfl <;> rfl
def tabU (t : D) (m : Nat) : List Bool := (List.range m).map fun V => sem t (bits V)
theorem tabU_len (t : D) (m : Nat) : (tabU t m).length = m := by unfold tabU; rw [List.length_map, List.length_range]
theorem tabU_next (t : D) (m : Nat) : tabU t (m + 1) = tabU t m ++ [sem t (bits m)] := by unfold tabU; rw [List.range_succ, List.map_append]; rfl
theorem tabU_at {t : D} {m V : Nat} (h : V < m) : (tabU t m)[V]?.getD false = sem t (bits V) := by unfold tabU; rw [List.getElem?_map, List.getElem?_range h]; rfl
end Bdd
end Go.Proofs.YtpfajhcdfgpgmaaGreatDoor

namespace Go.Proofs.YtpfajhcdfgpgmaaGreatDoor
open Bdd (rwN tree)
variable {a : Option Addr} {V m ml : Nat} {w0 : World} {N : List Nod} {E S : Int}
set_option maxRecDepth 1000000
set_option maxHeartbeats 4000000
set_option synthInstance.maxHeartbeats 0
set_option synthInstance.maxSize 9999
open Go.RowKit
theorem BolsAt.parts {w : World} {l : List Bool} (h : BolsAt w a m l) (hm : 0 < m) : ∃ b o, a = some ⟨b, o, none⟩ ∧ b < w.heap.size ∧ ∀ i, i < m → w.cell? ⟨b, o + i, none⟩ = some (.bool (Bdd.tb l i)) := by
 rcases h.at_ with q | ⟨b, o, ha, hx⟩
 · omega
 · exact ⟨b, o, ha, World.block_lt_of_cell? _ _ (hx 0 _ (Bdd.tb_at (by rw [h.len]; exact hm))), fun i hi => hx i _ (Bdd.tb_at (by rw [h.len]; exact hi))⟩
theorem Bdd.tb_tab {t : Bdd.D} (h : V < m) : Bdd.tb (Bdd.tabU t m) V = Bdd.sem t (Bdd.bits V) := Bdd.tabU_at h
theorem walked_c (c : Nat) (w : World) (H : NdsAt w0 a ml N) (hstr : Bdd.Str E S N) (e0 : Ext w0 w) : Calls Tryz.prog 69 #[mw E S a ml c, iv V] w fun e w' => e = .returned (iv (Bdd.accI (Bdd.sem (tree S N) (Bdd.bits V)))) ∧ Ext w w' := by
 have Bl := e0.size;obtain ⟨b, o, ha, hbr, hx⟩ := H.parts;have hln := H.len;have Bs := hstr.l;refine calls_cw 27 [(1, iv V), (0, mw E S a ml c)] Tryz.func69 rfl Tryz.ntmps69 (by kernel_rfl) (by kernel_rfl) (fun L => ?_);have hE := er_ w;refine zc (zp (pS (sw 42 #[iv E, iv S, .slice a ml c] ?_)));intro O1 X2 Bq Bo hb hbx;have ⟨B5, B6, B7⟩ := bq3 hbx;refine mv2 hb e0 hE fun e0 hE=>?_;have Be := hb.size;have Bu := B5.lt;refine pT (iv 0) ?_;refine zn (zc (zp (pT (pw O1 1) ?_)));refine pU (iv S) (xl (ld3 (B6.1))) ?_;refine pT (iv S) ?_;refine zn (zc (cb_ ?_));have B3 := er_ X2;refine cw_loop [1, 2, 5] (fun ws' wr m => ∃ sx : Int, ws' = [(1, iv V), (2, pw O1 0), (5, iv sx)] ∧ m = (sx + 3).toNat ∧ X2.heap.size ≤ wr.heap.size ∧ Ext w0 wr ∧ Ext w wr ∧ Ext X2 wr ∧ -2 ≤ sx ∧ sx ≤ ((N.length : Nat) : Int) - 1 ∧ Bdd.sem (Bdd.dat (Bdd.dens N) sx) (Bdd.bits V) = Bdd.sem (tree S N) (Bdd.bits V)) (ws0 := [(1, iv V), (2, pw O1 0), (5, iv S)]) (by kernel_rfl) _ ⟨S, rfl, rfl, nr_ _, e0, hE, B3, hstr.s.1, hstr.s.2, rfl⟩ ?_;clear e0 hE B3;rintro m8 L ws w7 ⟨sx, rfl, rfl, Bc, e0, hE, B3, Bm, Bt, hsm⟩
 by_cases hlt : 0 ≤ sx
 ·
  obtain ⟨i, rfl⟩ : ∃ i : Nat, sx = (i : Int) := ⟨sx.toNat, by omega⟩;have hil : i < N.length := by omega
  obtain rfl := ha (by omega);have hbl := hbr (by omega);obtain ⟨e, he⟩ := hstr.evn (i := i) hil;have hki := hstr.kids (i := i) hil;have hlv := hstr.lev (i := i) hil he;have hEe := hstr.e;have hds := Bdd.dat_sem hstr hil he (Bdd.bits V);obtain ⟨y, hy⟩ : ∃ q, Bdd.bits V e = q := ⟨_, rfl⟩;have hvd : V / 2 ^ e ≤ V := Nat.div_le_self _ _;refine zc (zc (zp (pT (iv i) ?_)));refine pU (.bool true) (ed (((i : Nat) : Int) ≥ (0 : Int)) (by omega)) ?_;refine zn (zt ?_);refine cs_ (zq (cb_ ?_));refine zc (zp (pT (pw O1 2) ?_));refine pU (sv b o ml c) (xl (ld40 (B7.c B3))) ?_;refine pT (iv i) ?_;refine pU (pw b (o + i * 3)) (xi (sv b o ml c) (iv i) (ix40 (k := i) (by omega))) ?_;refine pU (nw ((rwN N i).1) ((rwN N i).2.1) ((rwN N i).2.2)) (xl (ld56 ((hx.ext e0).c0 (i := i) (by omega)) ((hx.ext e0).c1 (i := i) (by omega)) ((hx.ext e0).c2 (i := i) (by omega)))) ?_;refine pS (sw 56 #[iv 0, iv 0, iv 0] ?_);intro O9 Bi B4 Bp hb hbx;have ⟨B0, B1, B2⟩ := bq3 hbx;refine mv3 hb e0 hE B3 fun e0 hE B3=>?_;have B8 := hb.size;have Br := B0.lt;refine pP (sn_setK3 (O := O9) (j := 0) (v0 := iv ((rwN N i).1)) (v1 := iv ((rwN N i).2.1)) (v2 := iv ((rwN N i).2.2)) (xt (pw O9 0) (nw ((rwN N i).1) ((rwN N i).2.1) ((rwN N i).2.2)) (st56 B0.1 B0.2 B1.1 B1.2 B2.1 B2.2)) B0 B1 B2 ?_);intro Bj ho B0 B1 B2 hk;replace e0 := ho.ext e0 (by omega);replace hE := ho.ext hE (Tq (Tq Be Bc) (nq_ B4));replace B3 := ho.ext B3 (Tq Bc (nq_ B4));have Ba := nq_ ho.size.symm;clear ho hk;refine zn (cw_seq ?_);rw [he] at B0
  cases y
  ·
   have Bk : V / 2 ^ e % 2 = 0 := by rw [Bdd.b1_is, hy];rfl
   refine zp (pD (iv V) (pw O9 0) ?_);refine pU (iv e) (xl (ld3 (B0.1))) ?_;refine pU (nv (V / 2 ^ e)) (ex_bin rfl (by kernel_rfl) (by kernel_rfl) (bin_shr (by omega))) ?_;refine pU (nv ((V / 2 ^ e) % 2)) (ex_bin (a := ((V / 2 ^ e : Nat) : Int)) (b := ((2 : Nat) : Int)) rfl (by kernel_rfl) (by kernel_rfl) (bin_rem (by omega))) ?_;refine pU (.bool false) (eN ((((V / 2 ^ e) % 2 : Nat) : Int) : Int) (1 : Int) (by omega)) ?_;refine zn (cK [1,2,6,21] (fun L => ?_));refine zf ?_;refine zp (pT (pw O9 1) ?_);refine pU (iv ((rwN N i).2.1)) (xl (ld3 (B1.1))) ?_;refine pT (iv ((rwN N i).2.1)) ?_;refine pl_nil (qw_block (qw_round [1, 2, 5] (ws' := [(1, iv V), (2, pw O1 0), (5, iv ((rwN N i).2.1))]) (by kernel_rfl) _ ?_ ⟨(rwN N i).2.1, rfl, rfl, (Tq Bc (Tq B8 Ba)), e0, hE, B3, (by omega), (by omega), (by rw [← hsm, hds, hy]; rfl)⟩));omega
  ·
   have Bk : V / 2 ^ e % 2 = 1 := by rw [Bdd.b1_is, hy];rfl
   refine zp (pD (iv V) (pw O9 0) ?_);refine pU (iv e) (xl (ld3 (B0.1))) ?_;refine pU (nv (V / 2 ^ e)) (ex_bin rfl (by kernel_rfl) (by kernel_rfl) (bin_shr (by omega))) ?_;refine pU (nv ((V / 2 ^ e) % 2)) (ex_bin (a := ((V / 2 ^ e : Nat) : Int)) (b := ((2 : Nat) : Int)) rfl (by kernel_rfl) (by kernel_rfl) (bin_rem (by omega))) ?_;refine pU (.bool true) (eE ((((V / 2 ^ e) % 2 : Nat) : Int) : Int) (1 : Int) (by omega)) ?_;refine zn (cK [1,2,6,21] (fun L => ?_));refine zt ?_;refine zp (pT (pw O9 2) ?_);refine pU (iv ((rwN N i).2.2)) (xl (ld3 (B2.1))) ?_;refine pT (iv ((rwN N i).2.2)) ?_;refine pl_nil (qw_block (qw_round [1, 2, 5] (ws' := [(1, iv V), (2, pw O1 0), (5, iv ((rwN N i).2.2))]) (by kernel_rfl) _ ?_ ⟨(rwN N i).2.2, rfl, rfl, (Tq Bc (Tq B8 Ba)), e0, hE, B3, (by omega), (by omega), (by rw [← hsm, hds, hy]; rfl)⟩));omega
 ·
  refine zc (zc (zp (pT (iv sx) ?_)));refine pU (.bool false) (en ((sx : Int) ≥ (0 : Int)) (by omega)) ?_;refine zn (zf ?_);refine cx_ (qx (qx (qo (zq (zc (zp (pD (iv sx) (iv sx) ?_)))))));refine zn (ct_ (zR (iv sx) ?_));have hend := Bdd.dat_end (N := N) Bm (by omega) (Bdd.bits V);rw [hsm] at hend;exact ⟨congrArg (fun z => Ending.returned (Value.int .i64 z)) hend, hE⟩
theorem walked_r {y : Bool} (c : Nat) (w : World) (H : NdsAt w0 a ml N) (hstr : Bdd.Str E S N) (e0 : Ext w0 w) (hy : Bdd.sem (tree S N) (Bdd.bits V) = y) : Calls Tryz.prog 69 #[.agg #[.int .i64 E, .int .i64 S, .slice a ml c], .int .i64 ((V : Nat) : Int)] w fun e w' => e = .returned (.int .i64 (Bdd.accI y)) ∧ Ext w w' := hy ▸ walked_c c w H hstr e0
theorem Table_c {n : Nat} (c : Nat) (w : World) (H : NdsAt w0 a ml N) (hstr : Bdd.Str ((n : Nat) : Int) S N) (e0 : Ext w0 w) : Calls Tryz.prog 61 #[mw n S a ml c] w fun e w' => ∃ a' c', e = .returned (.slice a' (2 ^ n) c') ∧ BolsAt w' a' (2 ^ n) (Bdd.tabU (tree S N) (2 ^ n)) ∧ Ext w w' := by
 have Bu := e0.size;have Bs := hstr.e;have C1 := Nat.two_pow_pos n;have Bt : 2 ^ n ≤ 65536 := Tq (Nat.pow_le_pow_right (n := 2) (by decide) (show n ≤ 16 by omega)) (by decide);obtain ⟨t, ht⟩ : ∃ q, q = tree S N := ⟨_, rfl⟩;rw [← ht];refine calls_cw 20 [(0, mw n S a ml c)] Tryz.func61 rfl Tryz.ntmps61 (by kernel_rfl) (by kernel_rfl) (fun L => ?_);have hE := er_ w;refine zc (zp (pS (sw 42 #[iv n, iv S, .slice a ml c] ?_)));intro O1 X2 Bw Bv hb hbx;have ⟨B2, Bc, Be⟩ := bq3 hbx;refine mv2 hb e0 hE fun e0 hE=>?_;have Bl := hb.size;have C2 := B2.lt;refine pT (.slice none 0 0) ?_;refine zn (zc (zp (pT (.slice none 0 0) ?_)));refine zn (zc (zc (zp (pT (iv 0) ?_))));refine zn (cb_ ?_);have B1 := er_ X2;refine cw_loop [1, 3, 4] (fun ws' wr m => ∃ V : Nat, ∃ av : Option Addr, ∃ cv : Nat, ws' = [(1, pw O1 0), (3, .slice av V cv), (4, iv V)] ∧ m = 2 ^ n - V ∧ X2.heap.size ≤ wr.heap.size ∧ Ext w0 wr ∧ Ext w wr ∧ Ext X2 wr ∧ OwnL bolR X2.heap.size 4 1 (.slice av V cv) wr ((Bdd.tabU t V)) ∧ V ≤ 2 ^ n) (ws0 := [(1, pw O1 0), (3, .slice none 0 0), (4, iv 0)]) (by kernel_rfl) _ ⟨0, none, 0, rfl, rfl, nr_ _, e0, hE, B1, OwnL.nil _ _ _ _ _, Nat.zero_le _⟩ ?_;clear e0 hE B1;rintro m8 L ws w7 ⟨V, av, cv, rfl, rfl, Bm, e0, hE, B1, B6, hV⟩;have Bi := B6.lt
 by_cases hlt : V < 2 ^ n
 ·
  obtain ⟨y, hy⟩ : ∃ q, Bdd.sem t (Bdd.bits V) = q := ⟨_, rfl⟩;refine zc (zc (zp (pD (iv V) (pw O1 0) ?_)));refine pU (iv n) (xl (ld3 (B2.c B1))) ?_;refine pU (nv (2 ^ n)) (ex_bin rfl (by kernel_rfl) (by kernel_rfl) (bin_shl1 (by omega))) ?_;refine pU (.bool true) (ed (((V : Nat) : Int) < ((2 ^ n : Nat) : Int)) (by omega)) ?_;refine zn (zt ?_);refine cs_ (zq (zc (cb_ ?_)));refine zp (pT (.slice av V cv) ?_);refine pU (mw n S a ml c) (xl (ld42 (B2.c B1) (Bc.c B1) (Be.c B1))) ?_;refine pT (iv V) ?_;refine pS (sc 69 #[mw n S a ml c, iv V] ((walked_r (V := V) (y := y) _ _ H hstr e0 (by rw [← ht]; exact hy)).mono ?_));rintro e w9 ⟨rfl, hb⟩;refine mv4 hb e0 hE B1 B6 fun e0 hE B1 B6=>?_;have B8 := hb.size;refine ⟨_, rfl, ?_⟩;refine pU (.bool y) (ev_bool (show _ = Result.ok (Next.value (Value.bool ((Bdd.accI y : Int) == (-2 : Int)))) _ from by kernel_rfl) (by cases y <;> rfl)) ?_;refine pS (sn_newS (us := #[.bool y]) (t := 4) (k := 1) (c := 1) (by kernel_rfl) ?_);intro Bp C0 Bh Bo hb hbx;have B0 := bq1 hbx;refine mv4 hb e0 hE B1 B6 fun e0 hE B1 B6=>?_;have Bg := hb.size;have Bx := B0.lt;have Bk := B6.base;obtain ⟨Ba, B3, Bz, B7, B5, B4, Bf⟩ := own_app1k (P := Tryz.prog) (ty := 88) bolT (B6) (Tq Bm (Tq B8 Bg)) (k := V) (Bdd.tabU_len t V) (O := Bp) (c := 1) (x := y) (d := [.bool y]) (F := []) rfl (cells1 (B0.1)) (by simp [Value.oneCell']) (⟨rfl, rfl⟩) (fun b hb => by cases hb) (by omega) (by omega);refine pS (sn_eff (v := sv Ba 0 (V + 1) B3) (w' := Bz) (ex_append rfl (by kernel_rfl) (by kernel_rfl) B7) ?_);replace e0 := B4.ext _ e0 (Tq Bu Bl);replace hE := B4.ext _ hE Bl;replace B1 := B4.ext _ B1 (nr_ _);have Bj := B4.size;have Br := B5.base Ba rfl;have Bq := B5.lt Ba rfl;refine pT (sv Ba 0 (V + 1) B3) ?_;refine pl_nil (qw_block (zq (cK [1,3,4] (fun L => ?_))));refine zp (pT (iv V) ?_);refine pU (nv (V + 1)) (ew (by omega) (by omega)) ?_;refine pT (nv (V + 1)) ?_;refine pl_nil (qw_round [1, 3, 4] (ws' := [(1, pw O1 0), (3, sv Ba 0 (V + 1) B3), (4, nv (V + 1))]) (by kernel_rfl) _ ?_ ⟨(V + 1), (some ⟨Ba, 0, none⟩), B3, rfl, rfl, (Tq Bm (Tq B8 (Tq Bg Bj))), e0, hE, B1, (by rw [Bdd.tabU_next, hy]; exact B5), by omega⟩);omega
 ·
  have hVn : V = 2 ^ n := by omega
  refine zc (zc (zp (pD (iv V) (pw O1 0) ?_)));refine pU (iv n) (xl (ld3 (B2.c B1))) ?_;refine pU (nv (2 ^ n)) (ex_bin rfl (by kernel_rfl) (by kernel_rfl) (bin_shl1 (by omega))) ?_;refine pU (.bool false) (en (((V : Nat) : Int) < ((2 ^ n : Nat) : Int)) (by omega)) ?_;refine zn (zf ?_);refine cx_ (qx (qx (qo (zq (zc (zp (pD (.slice av V cv) (.slice av V cv) ?_)))))));refine zn (ct_ (zR (.slice av V cv) ?_));rw [hVn];have hob : OwnL bolR X2.heap.size 4 1 (.slice av (2 ^ n) cv) w7 (Bdd.tabU t (2 ^ n)) := hVn ▸ B6;exact ⟨av, cv, rfl, own_bols hob (Bdd.tabU_len t _), hE⟩
end Go.Proofs.YtpfajhcdfgpgmaaGreatDoor

namespace Go.Proofs.YtpfajhcdfgpgmaaGreatDoor
variable {k n : Nat}
namespace Bdd
def su (f : Nat → Nat) : Nat → Nat
 | 0 => 0
 | m + 1 => su f m + f m
theorem su_congr {f g : Nat → Nat} : ∀ {m : Nat}, (∀ r, r < m → f r = g r) → su f m = su g m
 | 0, _ => rfl
 | m + 1, h => by show su f m + f m = su g m + g m; rw [su_congr fun r hr => h r (by omega), h m (by omega)]
theorem su_two (f : Nat → Nat) : ∀ m, su f (2 * m) = su (fun r => f (2 * r) + f (2 * r + 1)) m
 | 0 => rfl
 | m + 1 => by
  show su f (2 * m + 1 + 1) = su _ m + (f (2 * m) + f (2 * m + 1))
  show su f (2 * m) + f (2 * m) + f (2 * m + 1) = _
  rw [su_two f m]; omega
theorem su_add (f g : Nat → Nat) : ∀ m, su (fun r => f r + g r) m = su f m + su g m
 | 0 => rfl
 | m + 1 => by show su (fun r => f r + g r) m + (f m + g m) = su f m + f m + (su g m + g m); rw [su_add f g m]; omega
theorem bits_up (x k i : Nat) : bits (x * 2 ^ k) i = if i < k then false else bits x (i - k) := by
 unfold bits
 rw [Nat.mul_comm, Nat.testBit_two_pow_mul]
 by_cases h : i < k
 · rw [if_pos h]; simp; omega
 · rw [if_neg h]; simp; omega
theorem bits_two (r i : Nat) : bits (2 * r) (i + 1) = bits r i ∧ bits (2 * r + 1) (i + 1) = bits r i := by
 unfold bits
 rw [Nat.testBit_succ, Nat.testBit_succ]
 exact ⟨by congr 1; omega, by congr 1; omega⟩
theorem bits_zero2 (r : Nat) : bits (2 * r) 0 = false ∧ bits (2 * r + 1) 0 = true := by
 unfold bits
 rw [Nat.testBit_zero, Nat.testBit_zero]
 exact ⟨decide_eq_false (by omega), decide_eq_true (by omega)⟩
def ct (t : D) (n k : Nat) : Nat := su (fun r => b1 (sem t (bits (r * 2 ^ k)))) (2 ^ (n - k))
theorem pair_sem {t : D} (ho : OK (k + 1) n t) (r : Nat) : sem t (bits (2 * r * 2 ^ k)) = sem t (bits (r * 2 ^ (k + 1))) ∧ sem t (bits ((2 * r + 1) * 2 ^ k)) = sem t (bits (r * 2 ^ (k + 1))) := by
  constructor <;> refine ho.congr fun i hi _ => ?_
  · obtain ⟨j, rfl⟩ : ∃ j, i = k + 1 + j := ⟨i - (k + 1), by omega⟩
    rw [bits_up, bits_up, if_neg (by omega), if_neg (by omega), show k + 1 + j - k = j + 1 by omega, show k + 1 + j - (k + 1) = j by omega]
    exact (bits_two r j).1
  · obtain ⟨j, rfl⟩ : ∃ j, i = k + 1 + j := ⟨i - (k + 1), by omega⟩
    rw [bits_up, bits_up, if_neg (by omega), if_neg (by omega), show k + 1 + j - k = j + 1 by omega, show k + 1 + j - (k + 1) = j by omega]
    exact (bits_two r j).2
theorem ct_up {t : D} (hk : k < n) (ho : OK (k + 1) n t) : ct t n k = 2 * ct t n (k + 1) := by
 unfold ct
 rw [show 2 ^ (n - k) = 2 * 2 ^ (n - (k + 1)) by rw [← Nat.pow_succ', show (n - (k + 1)).succ = n - k by omega], su_two]
 rw [su_congr (g := fun r => b1 (sem t (bits (r * 2 ^ (k + 1)))) + b1 (sem t (bits (r * 2 ^ (k + 1))))) fun r _ => by rw [(pair_sem ho r).1, (pair_sem ho r).2], su_add]
 exact (Nat.two_mul _).symm
theorem ct_up2 {n : Nat} {t : D} : ∀ (d : Nat) {k : Nat}, k + d ≤ n → OK (k + d) n t → ct t n k = ct t n (k + d) * 2 ^ d
 | 0, k, _, _ => by simp
 | d + 1, k, h, ho => by
  have h1 := ct_up (n := n) (k := k) (t := t) (by omega) (ho.mono (by omega : k + 1 ≤ k + (d + 1)))
  have h2 := ct_up2 (n := n) (t := t) d (k := k + 1) (by omega) (by rw [show k + 1 + d = k + (d + 1) by omega]; exact ho)
  rw [show k + 1 + d = k + (d + 1) by omega] at h2
  rw [h1, h2, Nat.pow_succ']
  rw [Nat.mul_comm 2 (_ * _), Nat.mul_assoc, Nat.mul_comm (2 ^ d) 2]
theorem ct_node {e : Nat} {a b : D} (he : e < n) (ha : OK (e + 1) n a) (hb : OK (e + 1) n b) : ct (.nd e a b) n e = ct a n (e + 1) + ct b n (e + 1) := by
 unfold ct
 rw [show 2 ^ (n - e) = 2 * 2 ^ (n - (e + 1)) by rw [← Nat.pow_succ', show (n - (e + 1)).succ = n - e by omega], su_two, ← su_add]
 refine su_congr fun r _ => ?_
 have h0 : bits (2 * r * 2 ^ e) e = false := by rw [bits_up, if_neg (by omega), Nat.sub_self]; exact (bits_zero2 r).1
 have h1 : bits ((2 * r + 1) * 2 ^ e) e = true := by rw [bits_up, if_neg (by omega), Nat.sub_self]; exact (bits_zero2 r).2
 simp only [sem, h0, h1, if_true]
 rw [(pair_sem ha r).1, (pair_sem hb r).2]
 simp
theorem ct_is {n : Nat} : ∀ {t : D} {k : Nat}, k ≤ n → OK k n t → ct t n k = cntD n t * 2 ^ (ev n t - k)
 | .leaf b, k, hk, ho => by
  have h := ct_up2 (n := n) (t := .leaf b) (n - k) (k := k) (by omega) trivial
  rw [h, show k + (n - k) = n by omega]
  have : ct (.leaf b) n n = cntD n (.leaf b) := by
   unfold ct cntD
   rw [Nat.sub_self]
   show 0 + b1 b = _
   cases b <;> rfl
  rw [this]; rfl
 | .nd e a b, k, hk, ho => by
  obtain ⟨h1, h2, h3, h4, h5⟩ := ho
  have h := ct_up2 (n := n) (t := .nd e a b) (e - k) (k := k) (by omega) (by rw [show k + (e - k) = e by omega]; exact ⟨nr_ _, h2, h3, h4, h5⟩)
  rw [h, show k + (e - k) = e by omega, ct_node h2 h4 h5, ct_is (by omega) h4, ct_is (by omega) h5]
  show _ = (cntD n a * 2 ^ (ev n a - e - 1) + cntD n b * 2 ^ (ev n b - e - 1)) * 2 ^ (e - k)
  rw [Nat.sub_sub, Nat.sub_sub]
def cu (t : D) : Nat → Nat
 | 0 => 0
 | V + 1 => cu t V + b1 (sem t (bits V))
theorem cu_le (t : D) : ∀ V, cu t V ≤ V
 | 0 => nr_ _
 | V + 1 => by
  have := cu_le t V
  show cu t V + b1 _ ≤ V + 1
  unfold b1; split <;> omega
theorem cnt_is {t : D} (ho : OK 0 n t) : cntD n t * 2 ^ ev n t = cu t (2 ^ n) := by
 have h := ct_is (Nat.zero_le n) ho
 rw [Nat.sub_zero] at h
 rw [← h]
 unfold ct
 have : ∀ m, su (fun r => b1 (sem t (bits (r * 2 ^ 0)))) m = cu t m := fun m => by
  induction m with
  | zero => rfl
  | succ m ih => show su _ m + b1 _ = cu t m + b1 _; rw [ih, Nat.pow_zero, Nat.mul_one]
 rw [this, Nat.sub_zero]
def eqU (t u : D) (V : Nat) : Bool := (List.range V).all fun v => sem t (bits v) == sem u (bits v)
theorem eqU_is {t u : D} (ht : OK 0 n t) (hu : OK 0 n u) : eqU t u (2 ^ n) = decide (t = u) := by
 cases q : eqU t u (2 ^ n) with
 | true =>
  refine (decide_eq_true (uniq ht hu fun s => ?_)).symm
  obtain ⟨V, h1, h2⟩ := num_of s n
  have h3 := eq_of_beq (List.all_eq_true.1 q V (List.mem_range.2 h1))
  rw [← ht.congr (s := bits V) (s' := s) fun i _ hi => h2 i hi, h3]
  exact hu.congr fun i _ hi => h2 i hi
 | false =>
  refine (decide_eq_false fun e => ?_).symm
  subst e
  have : eqU t t (2 ^ n) = true := List.all_eq_true.2 fun v _ => beq_self_eq_true _
  rw [this] at q; cases q
end Bdd
end Go.Proofs.YtpfajhcdfgpgmaaGreatDoor

namespace Go.Proofs.YtpfajhcdfgpgmaaGreatDoor
variable {l : List Bool} {V best k m n s : Nat} {st : Bool} {c : Nat → Nat} {cost : Int}
namespace Bdd
def nm (f : Nat → Bool) : Nat → Nat → Nat
 | _, 0 => 0
 | k, d + 1 => b1 (f k) + 2 * nm f (k + 1) d
theorem gro_sem {l : List Bool} {f : Nat → Bool} : ∀ {d k s : Nat}, sem (gro l d k s) f = tb l (s + 2 ^ k * nm f k d)
  | 0, k, s => by
    show tb l s = tb l (s + 2 ^ k * 0)
    rw [Nat.mul_zero, Nat.add_zero]
  | d + 1, k, s => by
    show sem (mk k _ _) f = tb l (s + 2 ^ k * (b1 (f k) + 2 * nm f (k + 1) d))
    have e : 2 ^ (k + 1) * nm f (k + 1) d = 2 ^ k * (2 * nm f (k + 1) d) := by rw [Nat.pow_succ, Nat.mul_assoc]
    rw [sem_mk, gro_sem, gro_sem]
    cases hf : f k
    · show tb l (s + 2 ^ (k + 1) * nm f (k + 1) d) = tb l (s + 2 ^ k * (0 + 2 * nm f (k + 1) d))
      rw [Nat.zero_add, e]
    · show tb l (s + 2 ^ k + 2 ^ (k + 1) * nm f (k + 1) d) = tb l (s + 2 ^ k * (1 + 2 * nm f (k + 1) d))
      rw [Nat.mul_add, Nat.mul_one, e, Nat.add_assoc]
theorem nm_bits {V : Nat} : ∀ {d k : Nat}, nm (bits V) k d = V / 2 ^ k % 2 ^ d
 | 0, k => by
  show 0 = _
  rw [Nat.pow_zero, Nat.mod_one]
 | d + 1, k => by
  show b1 (bits V k) + 2 * nm (bits V) (k + 1) d = _
  rw [nm_bits, ← b1_is, Nat.pow_succ 2 k, ← Nat.div_div_eq_div_mul, Nat.pow_succ', Nat.mod_mul]
theorem gro_at (hV : V < 2 ^ n) : sem (gro l n 0 0) (bits V) = tb l V := by
 rw [gro_sem, nm_bits, Nat.pow_zero, Nat.div_one, Nat.mod_eq_of_lt hV, Nat.one_mul, Nat.zero_add]
theorem gro_is {t : D} (ho : OK 0 n t) (h : ∀ V, V < 2 ^ n → tb l V = sem t (bits V)) : gro l n 0 0 = t :=
 of_decide_eq_true ((eqU_is (gro_ok (by omega)) ho).symm.trans (List.all_eq_true.2 fun V hV => by
  have hV2 := List.mem_range.1 hV
  rw [gro_at hV2, h V hV2]
  exact beq_self_eq_true _))
theorem gro_tab {t : D} (ho : OK 0 n t) : gro (tabU t (2 ^ n)) n 0 0 = t := gro_is ho fun _ hV => tabU_at hV
def joinU (st : Bool) (t u : D) (m : Nat) : List Bool := (List.range m).map fun V => op st (sem t (bits V)) (sem u (bits V))
theorem joinU_len (st : Bool) (t u : D) (m : Nat) : (joinU st t u m).length = m := by unfold joinU; rw [List.length_map, List.length_range]
theorem joinU_next (st : Bool) (t u : D) (m : Nat) : joinU st t u (m + 1) = joinU st t u m ++ [op st (sem t (bits m)) (sem u (bits m))] := by unfold joinU; rw [List.range_succ, List.map_append]; rfl
theorem joinU_at {t u : D} (h : V < m) : tb (joinU st t u m) V = op st (sem t (bits V)) (sem u (bits V)) := by unfold tb joinU; rw [List.getElem?_map, List.getElem?_range h]; rfl
theorem gro_join {t u : D} (ht : OK 0 n t) (hu : OK 0 n u) : gro (joinU st t u (2 ^ n)) n 0 0 = ap st n t u := gro_is ap_ok0 fun V hV => by rw [joinU_at hV, ap_sem ht hu]
def lowQ (s k V : Nat) : Bool := decide (V % 2 ^ k = s % 2 ^ k)
def sureU (t : D) (s k m : Nat) : Bool := (List.range m).all fun V => !lowQ s k V || sem t (bits V)
def canU (t : D) (s k m : Nat) : Bool := (List.range m).any fun V => lowQ s k V && sem t (bits V)
theorem sureU_next (t : D) (s k m : Nat) : sureU t s k (m + 1) = (sureU t s k m && (!lowQ s k m || sem t (bits m))) := by unfold sureU; rw [List.range_succ, List.all_append]; simp
theorem canU_next (t : D) (s k m : Nat) : canU t s k (m + 1) = (canU t s k m || (lowQ s k m && sem t (bits m))) := by unfold canU; rw [List.range_succ, List.any_append]; simp
theorem low_split (hk : k ≤ n) (hV : V < 2 ^ n) (h : V % 2 ^ k = s % 2 ^ k) : V / 2 ^ k < 2 ^ (n - k) ∧ s % 2 ^ k + V / 2 ^ k * 2 ^ k = V := ⟨div_lt_pow hk hV, by rw [← h]; exact Nat.mod_add_div' V (2 ^ k)⟩
theorem low_join {r : Nat} : (s % 2 ^ k + r * 2 ^ k) % 2 ^ k = s % 2 ^ k := by rw [Nat.add_mul_mod_self_right, Nat.mod_mod]
theorem sureU_is {t : D} (ho : OK 0 n t) (hk : k ≤ n) : sureU t s k (2 ^ n) = sureB t s k := by
  rw [← every_is ho hk]
  unfold sureU
  rw [Bool.eq_iff_iff, List.all_eq_true, List.all_eq_true]
  constructor
  · intro h r hr
    have h1 := h (s % 2 ^ k + r * 2 ^ k) (List.mem_range.2 (mixed_lt hk (List.mem_range.1 hr)))
    unfold lowQ at h1
    rw [decide_eq_true low_join] at h1
    exact h1
  · intro h V hV
    unfold lowQ
    by_cases q : V % 2 ^ k = s % 2 ^ k
    · obtain ⟨h1, h2⟩ := low_split hk (List.mem_range.1 hV) q
      have h3 := h _ (List.mem_range.2 h1)
      unfold goOn at h3
      rw [h2] at h3
      rw [h3, Bool.or_true]
    · rw [decide_eq_false q]; rfl
theorem canU_is {t : D} (ho : OK 0 n t) (hk : k ≤ n) : canU t s k (2 ^ n) = canB t s k := by
  rw [← some_is ho hk]
  unfold canU
  rw [Bool.eq_iff_iff, List.any_eq_true, List.any_eq_true]
  constructor
  · rintro ⟨V, hV, h⟩
    unfold lowQ at h
    rw [Bool.and_eq_true] at h
    obtain ⟨h1, h2⟩ := low_split hk (List.mem_range.1 hV) (of_decide_eq_true h.1)
    refine ⟨_, List.mem_range.2 h1, ?_⟩
    unfold goOn
    rw [h2]; exact h.2
  · rintro ⟨r, hr, h⟩
    refine ⟨s % 2 ^ k + r * 2 ^ k, List.mem_range.2 (mixed_lt hk (List.mem_range.1 hr)), ?_⟩
    unfold lowQ
    rw [decide_eq_true low_join]
    exact h
def needU (t : D) (n : Nat) : Nat → Nat
 | 0 => 2 ^ n - 1
 | m + 1 => if sem t (bits m) then needU t n m &&& m else needU t n m
theorem needU_le {t : D} {n : Nat} : ∀ m, needU t n m < 2 ^ n
 | 0 => by show 2 ^ n - 1 < 2 ^ n; have := Nat.two_pow_pos n; omega
 | m + 1 => by
  show (if sem t (bits m) then needU t n m &&& m else needU t n m) < 2 ^ n
  split
  · exact Nat.lt_of_le_of_lt Nat.and_le_left (needU_le m)
  · exact needU_le m
theorem needU_bit {t : D} {n i : Nat} (hi : i < n) : ∀ m, ((needU t n m).testBit i = true ↔ ∀ V, V < m → sem t (bits V) = true → V.testBit i = true)
  | 0 => by
    show (2 ^ n - 1).testBit i = true ↔ _
    rw [Nat.testBit_two_pow_sub_one]
    exact ⟨fun _ V hV => absurd hV (Nat.not_lt_zero V), fun _ => decide_eq_true hi⟩
  | m + 1 => by
    have ih := needU_bit (t := t) hi m
    show (if sem t (bits m) then needU t n m &&& m else needU t n m).testBit i = true ↔ _
    cases hs : sem t (bits m)
    · rw [if_neg Bool.false_ne_true, ih]
      refine ⟨fun h V hV hq => ?_, fun h V hV => h V (Nat.lt_succ_of_lt hV)⟩
      rcases Nat.lt_succ_iff_lt_or_eq.1 hV with q | q
      · exact h V q hq
      · subst q; rw [hs] at hq; cases hq
    · rw [if_pos rfl, Nat.testBit_and, Bool.and_eq_true, ih]
      refine ⟨fun h V hV hq => ?_, fun h => ⟨fun V hV => h V (Nat.lt_succ_of_lt hV), h m (Nat.lt_succ_self m) hs⟩⟩
      rcases Nat.lt_succ_iff_lt_or_eq.1 hV with q | q
      · exact h.1 V q hq
      · subst q; exact h.2
theorem needU_is {t : D} (ho : OK 0 n t) : needU t n (2 ^ n) = needD n t := by
  refine Nat.eq_of_testBit_eq fun i => ?_
  rcases Nat.lt_or_ge i n with hi | hi
  · rw [Bool.eq_iff_iff, needU_bit hi, need_iff hi ho]
    refine ⟨fun h s hs => ?_, fun h V _ hV => h _ hV⟩
    obtain ⟨r, h1, h2⟩ := num_of s n
    have h3 : sem t (bits r) = sem t s := ho.congr fun j _ hj => h2 j hj
    have h4 := h r h1 (h3.trans hs)
    exact (h2 i hi).symm.trans h4
  · have hp : 2 ^ n ≤ 2 ^ i := Nat.pow_le_pow_right (by decide) hi
    rw [Nat.testBit_lt_two_pow (nl_ (needU_le _) hp), Nat.testBit_lt_two_pow (nl_ (need_lt ho) hp)]
def ChU (c : Nat → Nat) (t : D) (n m : Nat) (best : Nat) (cost : Int) : Prop :=
 (cost = -1 ∧ best = 0 ∧ ∀ V, V < m → sem t (bits V) = false) ∨ (best < m ∧ sem t (bits best) = true ∧ cost = ((sumB c (bits best) n : Nat) : Int) ∧ ∀ V, V < m → sem t (bits V) = true → sumB c (bits best) n < sumB c (bits V) n ∨ sumB c (bits best) n = sumB c (bits V) n ∧ best ≤ V)
theorem ChU.zero (c : Nat → Nat) (t : D) (n : Nat) : ChU c t n 0 0 (-1) := .inl ⟨rfl, rfl, fun V h => absurd h (Nat.not_lt_zero V)⟩
theorem ChU.skip {t : D} (h : ChU c t n m best cost) (hs : sem t (bits m) = false) : ChU c t n (m + 1) best cost := by
  rcases h with ⟨h1, h2, h3⟩ | ⟨h1, h2, h3, h4⟩
  · refine .inl ⟨h1, h2, fun V hV => ?_⟩
    rcases Nat.lt_succ_iff_lt_or_eq.1 hV with q | q
    · exact h3 V q
    · subst q; exact hs
  · refine .inr ⟨Nat.lt_succ_of_lt h1, h2, h3, fun V hV hq => ?_⟩
    rcases Nat.lt_succ_iff_lt_or_eq.1 hV with q | q
    · exact h4 V q hq
    · subst q; rw [hs] at hq; cases hq
theorem ChU.take {t : D} (h : ChU c t n m best cost) (hs : sem t (bits m) = true) (hq : cost < 0 ∨ ((sumB c (bits m) n : Nat) : Int) < cost) : ChU c t n (m + 1) m ((sumB c (bits m) n : Nat) : Int) := by
  refine .inr ⟨Nat.lt_succ_self m, hs, rfl, fun V hV hv => ?_⟩
  rcases Nat.lt_succ_iff_lt_or_eq.1 hV with q | q
  · rcases h with ⟨h1, h2, h3⟩ | ⟨h1, h2, h3, h4⟩
    · rw [h3 V q] at hv; cases hv
    · have := h4 V q hv
      exact .inl (by omega)
  · subst q; exact .inr ⟨rfl, nr_ _⟩
theorem ChU.keep {t : D} (h : ChU c t n m best cost) (hq : ¬ (cost < 0 ∨ ((sumB c (bits m) n : Nat) : Int) < cost)) : ChU c t n (m + 1) best cost := by
  rcases h with ⟨h1, h2, h3⟩ | ⟨h1, h2, h3, h4⟩
  · exact absurd (.inl (by omega)) hq
  · refine .inr ⟨Nat.lt_succ_of_lt h1, h2, h3, fun V hV hv => ?_⟩
    rcases Nat.lt_succ_iff_lt_or_eq.1 hV with q | q
    · exact h4 V q hv
    · subst q
      have : ¬ ((sumB c (bits V) n : Nat) : Int) < cost := fun z => hq (.inr z)
      omega
theorem ChU.done {t : D} (h : ChU c t n (2 ^ n) best cost) (ho : OK 0 n t) : ((best : Nat) : Int) = (((off c t).2.2 : Nat) : Int) ∧ max cost 0 = (((off c t).2.1 : Nat) : Int) ∧ decide (cost ≥ 0) = (off c t).1 := by
  have hi := off_is (c := c) ho
  cases hb : (off c t).1 with
  | false =>
    obtain ⟨h1, h2⟩ := hi.no hb
    rcases h with ⟨h3, h4, h5⟩ | ⟨h3, h4, _⟩
    · rw [h1, h3, h4]; exact ⟨rfl, rfl, rfl⟩
    · rw [h2] at h4; cases h4
  | true =>
    obtain ⟨h1, h2⟩ := hi.yes hb
    have hlt := hi.lt
    rcases h with ⟨h3, h4, h5⟩ | ⟨h3, h4, h5, h6⟩
    · rw [h5 _ hlt] at h1; cases h1
    · have a1 := h6 _ hlt h1
      have a2 := hi.le hb _ h4
      have e : best = (off c t).2.2 := by omega
      subst e
      refine ⟨rfl, by omega, decide_eq_true (by omega)⟩
theorem sumB_le9 {s : Nat → Bool} (hc : ∀ i, i < n → c i ≤ 1000000000) : sumB c s n ≤ n * 1000000000 := by
 induction n with
 | zero => exact Nat.zero_le _
 | succ n ih =>
  have h1 := ih fun i hi => hc i (Nat.lt_succ_of_lt hi)
  have h2 := hc n (Nat.lt_succ_self n)
  show sumB c s n + c n * b1 (s n) ≤ _
  have h3 : c n * b1 (s n) ≤ c n := by cases s n <;> simp [b1]
  omega
end Bdd
end Go.Proofs.YtpfajhcdfgpgmaaGreatDoor

namespace Go.Proofs.YtpfajhcdfgpgmaaGreatDoor
open Bdd (rwN validB kidOk)
variable {w0 : World} {a : Option Addr} {ml n : Nat} {E S : Int} {N : List Nod}
set_option maxRecDepth 1000000
set_option maxHeartbeats 4000000
set_option synthInstance.maxHeartbeats 0
set_option synthInstance.maxSize 9999
open Go.RowKit
theorem Of_tab {t : Bdd.D} (ct : Nat) (w : World) (H : BolsAt w0 a (2 ^ n) (Bdd.tabU t (2 ^ n))) (ho : Bdd.OK 0 n t) (hn : n ≤ 16) (e0 : Ext w0 w) : Calls Tryz.prog 51 #[.int .i64 ((n : Nat) : Int), .slice a (2 ^ n) ct] w fun e w' => ∃ E' S' a' m' c' er, e = .returned (.tuple #[.agg #[.int .i64 E', .int .i64 S', .slice a' m' c'], .int .i64 er]) ∧ OptM w.heap.size w' (Bdd.machO n t) E' S' a' m' c' er ∧ Ext w w' := by
 have h := Of_c ct w H hn e0
 rw [Bdd.gro_tab ho] at h
 exact h
namespace Bdd
theorem machO_some {t : D} {N : List Row} (h : machO n t = some (E, S, N)) : (nodes t).length ≤ 2000 ∧ E = ((n : Nat) : Int) ∧ S = start t ∧ N = nodes t := by
  unfold machO at h
  split at h
  · rename_i q
    simp only [Option.some.injEq, Prod.mk.injEq] at h
    exact ⟨q, h.1.symm, h.2.1.symm, h.2.2.symm⟩
  · cases h
theorem machO_none {t : D} (h : machO n t = none) : 2000 < (nodes t).length := by
 unfold machO at h
 split at h
 · cases h
 · omega
end Bdd
theorem rmValid_c (c : Nat) (w : World) (H : NdsAt w0 a ml N) (e0 : Ext w0 w) : Calls Tryz.prog 24 #[mw E S a ml c] w fun e w' => e = .returned (.bool (validB E S N)) ∧ Ext w w' := by
 have Dp := e0.size;obtain ⟨b, o, ha, hbr, hx⟩ := H.parts;have hln := H.len;have hmx := H.max;refine calls_cw 132 [(0, mw E S a ml c)] Tryz.func24 rfl Tryz.ntmps24 (by kernel_rfl) (by kernel_rfl) (fun L => ?_);have hE := er_ w;refine zc (zp (pS (sw 42 #[iv E, iv S, .slice a ml c] ?_)));intro O1 X2 Ff Fe hb hbx;have ⟨B4, B8, B1⟩ := bq3 hbx;refine mv2 hb e0 hE fun e0 hE=>?_;have Cd := hb.size;have Fv := B4.lt;refine pT (.bool false) ?_;refine zn (zc (zc (zp (pT (pw O1 0) ?_))));refine pU (iv E) (xl (ld3 (B4.1))) ?_
 by_cases Ef : (E : Int) < (0 : Int)
 ·
  refine pU (.bool true) (ed ((E : Int) < (0 : Int)) (Ef)) ?_;refine pT (.bool true) ?_;refine pK ?_;refine pK ?_;refine pK ?_;refine pD (.bool true) (.bool true) ?_;refine pK ?_;refine pK ?_;refine pK ?_;refine pK ?_;refine pD (.bool true) (.bool true) ?_;refine pK ?_;refine pK ?_;refine pK ?_;refine pD (.bool true) (.bool true) ?_;refine pK ?_;refine pK ?_;refine pK ?_;refine pK ?_;refine pK ?_;refine pK ?_;refine pT (.bool true) ?_;refine zn (cK [1,33] (fun L => ?_));refine zt ?_;refine cw_seq ?_;have hbad : validB E S N = false := decide_eq_false fun q => by have q1 := q.1.e;have q2 := q.1.l;have q3 := q.1.s;omega
  refine zp (pT (.bool false) ?_);refine zn (ct_ (qt (zR (.bool false) ?_)));exact ⟨congrArg (fun z => Ending.returned (Value.bool z)) hbad.symm, hE⟩
 ·
  refine pU (.bool false) (en ((E : Int) < (0 : Int)) (Ef)) ?_;refine pD (.bool false) (pw O1 0) ?_;refine pU (iv E) (xl (ld3 (B4.1))) ?_
  by_cases Eg : (E : Int) > (16 : Int)
  ·
   refine pU (.bool true) (ed ((E : Int) > (16 : Int)) (Eg)) ?_;refine pD (.bool true) (.bool true) ?_;refine pK ?_;refine pK ?_;refine pK ?_;refine pK ?_;refine pD (.bool true) (.bool true) ?_;refine pK ?_;refine pK ?_;refine pK ?_;refine pD (.bool true) (.bool true) ?_;refine pK ?_;refine pK ?_;refine pK ?_;refine pK ?_;refine pK ?_;refine pK ?_;refine pT (.bool true) ?_;refine zn (cK [1,33] (fun L => ?_));refine zt ?_;refine cw_seq ?_;have hbad : validB E S N = false := decide_eq_false fun q => by have q1 := q.1.e;have q2 := q.1.l;have q3 := q.1.s;omega
   refine zp (pT (.bool false) ?_);refine zn (ct_ (qt (zR (.bool false) ?_)));exact ⟨congrArg (fun z => Ending.returned (Value.bool z)) hbad.symm, hE⟩
  ·
   refine pU (.bool false) (en ((E : Int) > (16 : Int)) (Eg)) ?_;refine pD (.bool false) (.bool false) ?_;refine pT (pw O1 2) ?_;refine pU (.slice a ml c) (xl (ld40 (B1.1))) ?_;refine pT (iv ml) ?_
   by_cases Eh : ((ml : Nat) : Int) > (2000 : Int)
   ·
    refine pU (.bool true) (ed (((ml : Nat) : Int) > (2000 : Int)) (Eh)) ?_;refine pD (.bool true) (.bool true) ?_;refine pK ?_;refine pK ?_;refine pK ?_;refine pD (.bool true) (.bool true) ?_;refine pK ?_;refine pK ?_;refine pK ?_;refine pK ?_;refine pK ?_;refine pK ?_;refine pT (.bool true) ?_;refine zn (cK [1,33] (fun L => ?_));refine zt ?_;refine cw_seq ?_;have hbad : validB E S N = false := decide_eq_false fun q => by have q1 := q.1.e;have q2 := q.1.l;have q3 := q.1.s;omega
    refine zp (pT (.bool false) ?_);refine zn (ct_ (qt (zR (.bool false) ?_)));exact ⟨congrArg (fun z => Ending.returned (Value.bool z)) hbad.symm, hE⟩
   ·
    refine pU (.bool false) (en (((ml : Nat) : Int) > (2000 : Int)) (Eh)) ?_;refine pD (.bool false) (.bool false) ?_;refine pT (pw O1 1) ?_;refine pU (iv S) (xl (ld3 (B8.1))) ?_
    by_cases Ei : (S : Int) < (-2 : Int)
    ·
     refine pU (.bool true) (ed ((S : Int) < (-2 : Int)) (Ei)) ?_;refine pD (.bool true) (.bool true) ?_;refine pK ?_;refine pK ?_;refine pK ?_;refine pK ?_;refine pK ?_;refine pK ?_;refine pT (.bool true) ?_;refine zn (cK [1,33] (fun L => ?_));refine zt ?_;refine cw_seq ?_;have hbad : validB E S N = false := decide_eq_false fun q => by have q1 := q.1.e;have q2 := q.1.l;have q3 := q.1.s;omega
     refine zp (pT (.bool false) ?_);refine zn (ct_ (qt (zR (.bool false) ?_)));exact ⟨congrArg (fun z => Ending.returned (Value.bool z)) hbad.symm, hE⟩
    ·
     refine pU (.bool false) (en ((S : Int) < (-2 : Int)) (Ei)) ?_;refine pD (.bool false) (.bool false) ?_;refine pT (pw O1 1) ?_;refine pU (iv S) (xl (ld3 (B8.1))) ?_;refine pT (pw O1 2) ?_;refine pU (.slice a ml c) (xl (ld40 (B1.1))) ?_;refine pT (iv ml) ?_
     by_cases Ej : (S : Int) ≥ ((ml : Nat) : Int)
     ·
      refine pU (.bool true) (ed ((S : Int) ≥ ((ml : Nat) : Int)) (Ej)) ?_;refine pT (.bool true) ?_;refine zn (cK [1,33] (fun L => ?_));refine zt ?_;refine cw_seq ?_;have hbad : validB E S N = false := decide_eq_false fun q => by have q1 := q.1.e;have q2 := q.1.l;have q3 := q.1.s;omega
      refine zp (pT (.bool false) ?_);refine zn (ct_ (qt (zR (.bool false) ?_)));exact ⟨congrArg (fun z => Ending.returned (Value.bool z)) hbad.symm, hE⟩
     ·
      refine pU (.bool false) (en ((S : Int) ≥ ((ml : Nat) : Int)) (Ej)) ?_;refine pT (.bool false) ?_;refine zn (cK [1,33] (fun L => ?_));refine zf ?_;refine cs_ (zq (zc (cw_seq ?_)));obtain ⟨n, rfl⟩ : ∃ n : Nat, E = (n : Int) := ⟨E.toNat, by omega⟩;have Ck : n ≤ 16 := by omega
      have F3 : 0 ≤ ((n : Nat) : Int) ∧ ((n : Nat) : Int) ≤ 16 := by omega
      have F6 : -2 ≤ S ∧ S ≤ ((N.length : Nat) : Int) - 1 := by omega
      have F4 : N.length ≤ 2000 := by omega
      have Fa : 2 ^ n ≤ 65536 := Tq (Nat.pow_le_pow_right (n := 2) (by decide) Ck) (by decide);refine zp (pT (iv 0) ?_);refine zn (cb_ ?_);have B0 := er_ X2;refine cw_loop [1, 3] (fun ws' wr m => ∃ i : Nat, ws' = [(1, pw O1 0), (3, iv i)] ∧ m = ml - i ∧ X2.heap.size ≤ wr.heap.size ∧ Ext w0 wr ∧ Ext w wr ∧ Ext X2 wr ∧ i ≤ ml ∧ (∀ j, j < i → Bdd.okN ((n : Nat) : Int) N j)) (ws0 := [(1, pw O1 0), (3, iv 0)]) (by kernel_rfl) _ ⟨0, rfl, rfl, nr_ _, e0, hE, B0, Nat.zero_le _, (fun j hj => absurd hj (Nat.not_lt_zero j))⟩ ?_;clear e0 hE B0;rintro Fw L ws Dm ⟨i, rfl, rfl, Bj, e0, hE, B0, hi, hall⟩
      by_cases hlt : i < ml
      ·
       obtain rfl := ha (by omega);have hbl := hbr (by omega);refine zc (zc (zp (pD (iv i) (pw O1 2) ?_)));refine pU (sv b o ml c) (xl (ld40 (B1.c B0))) ?_;refine pT (iv ml) ?_;refine pU (.bool true) (ed (((i : Nat) : Int) < ((ml : Nat) : Int)) (by omega)) ?_;refine zn (zt ?_);refine cs_ (zq (zc (cb_ ?_)));refine zc (zp (pT (pw O1 2) ?_));refine pU (sv b o ml c) (xl (ld40 (B1.c B0))) ?_;refine pT (iv i) ?_;refine pU (pw b (o + i * 3)) (xi (sv b o ml c) (iv i) (ix40 (k := i) (by omega))) ?_;refine pU (nw ((rwN N i).1) ((rwN N i).2.1) ((rwN N i).2.2)) (xl (ld56 ((hx.ext e0).c0 (i := i) (by omega)) ((hx.ext e0).c1 (i := i) (by omega)) ((hx.ext e0).c2 (i := i) (by omega)))) ?_;refine pS (sw 56 #[iv 0, iv 0, iv 0] ?_);intro Ba Ez Ch Eo hb hbx;have ⟨B2, B5, B7⟩ := bq3 hbx;refine mv3 hb e0 hE B0 fun e0 hE B0=>?_;have Cm := hb.size;have Fg := B2.lt;refine pP (sn_setK3 (O := Ba) (j := 0) (v0 := iv ((rwN N i).1)) (v1 := iv ((rwN N i).2.1)) (v2 := iv ((rwN N i).2.2)) (xt (pw Ba 0) (nw ((rwN N i).1) ((rwN N i).2.1) ((rwN N i).2.2)) (st56 B2.1 B2.2 B5.1 B5.2 B7.1 B7.2)) B2 B5 B7 ?_);intro Dr ho B2 B5 B7 hk;replace e0 := ho.ext e0 (by omega);replace hE := ho.ext hE (Tq (Tq Cd Bj) (nq_ Ch));replace B0 := ho.ext B0 (Tq Bj (nq_ Ch));have Cn := nq_ ho.size.symm;clear ho hk;refine zn (zc (zc (zp (pT (pw Ba 0) ?_))));refine pU (iv ((rwN N i).1)) (xl (ld3 (B2.1))) ?_
       by_cases D9 : ((rwN N i).1 : Int) < (0 : Int)
       ·
        refine pU (.bool true) (ed (((rwN N i).1 : Int) < (0 : Int)) (D9)) ?_;refine pT (.bool true) ?_;refine pK ?_;refine pK ?_;refine pK ?_;refine pK ?_;refine pK ?_;refine pD (.bool true) (.bool true) ?_;refine pK ?_;refine pK ?_;refine pK ?_;refine pD (.bool true) (.bool true) ?_;refine pK ?_;refine pK ?_;refine pK ?_;refine pK ?_;refine pD (.bool true) (.bool true) ?_;refine pK ?_;refine pK ?_;refine pK ?_;refine pD (.bool true) (.bool true) ?_;refine pK ?_;refine pK ?_;refine pK ?_;refine pK ?_;refine pD (.bool true) (.bool true) ?_;refine pK ?_;refine pK ?_;refine pK ?_;refine pK ?_;refine pK ?_;refine pT (.bool true) ?_;refine zn (cK [1,3,4,84] (fun L => ?_));refine zt ?_;refine cw_seq ?_
        have hbad : validB ((n : Nat) : Int) S N = false := Bdd.valid_bad (i := i) (by omega) fun q => by
         obtain ⟨⟨⟨q1, q2⟩, _⟩, ⟨⟨q3, q4⟩, _⟩, q5, q6⟩ := q;have q1 : -2 ≤ (rwN N i).2.1 := q1;have q2 : (rwN N i).2.1 ≤ ((i : Nat) : Int) - 1 := q2;have q3 : -2 ≤ (rwN N i).2.2 := q3;have q4 : (rwN N i).2.2 ≤ ((i : Nat) : Int) - 1 := q4;omega
        refine zp (pT (.bool false) ?_);refine zn (ct_ (qt (qb (qt (qt (qb (qt (zR (.bool false) ?_))))))));exact ⟨congrArg (fun z => Ending.returned (Value.bool z)) hbad.symm, hE⟩
       ·
        refine pU (.bool false) (en (((rwN N i).1 : Int) < (0 : Int)) (D9)) ?_;refine pD (.bool false) (pw Ba 0) ?_;refine pU (iv ((rwN N i).1)) (xl (ld3 (B2.1))) ?_;refine pT (pw O1 0) ?_;refine pU (iv n) (xl (ld3 (B4.c B0))) ?_
        by_cases Da : ((rwN N i).1 : Int) ≥ ((n : Nat) : Int)
        ·
         refine pU (.bool true) (ed (((rwN N i).1 : Int) ≥ ((n : Nat) : Int)) (Da)) ?_;refine pD (.bool true) (.bool true) ?_;refine pK ?_;refine pK ?_;refine pK ?_;refine pD (.bool true) (.bool true) ?_;refine pK ?_;refine pK ?_;refine pK ?_;refine pK ?_;refine pD (.bool true) (.bool true) ?_;refine pK ?_;refine pK ?_;refine pK ?_;refine pD (.bool true) (.bool true) ?_;refine pK ?_;refine pK ?_;refine pK ?_;refine pK ?_;refine pD (.bool true) (.bool true) ?_;refine pK ?_;refine pK ?_;refine pK ?_;refine pK ?_;refine pK ?_;refine pT (.bool true) ?_;refine zn (cK [1,3,4,84] (fun L => ?_));refine zt ?_;refine cw_seq ?_
         have hbad : validB ((n : Nat) : Int) S N = false := Bdd.valid_bad (i := i) (by omega) fun q => by
          obtain ⟨⟨⟨q1, q2⟩, _⟩, ⟨⟨q3, q4⟩, _⟩, q5, q6⟩ := q;have q1 : -2 ≤ (rwN N i).2.1 := q1;have q2 : (rwN N i).2.1 ≤ ((i : Nat) : Int) - 1 := q2;have q3 : -2 ≤ (rwN N i).2.2 := q3;have q4 : (rwN N i).2.2 ≤ ((i : Nat) : Int) - 1 := q4;omega
         refine zp (pT (.bool false) ?_);refine zn (ct_ (qt (qb (qt (qt (qb (qt (zR (.bool false) ?_))))))));exact ⟨congrArg (fun z => Ending.returned (Value.bool z)) hbad.symm, hE⟩
        ·
         refine pU (.bool false) (en (((rwN N i).1 : Int) ≥ ((n : Nat) : Int)) (Da)) ?_;refine pD (.bool false) (.bool false) ?_;refine pT (pw Ba 1) ?_;refine pU (iv ((rwN N i).2.1)) (xl (ld3 (B5.1))) ?_
         by_cases Db : ((rwN N i).2.1 : Int) < (-2 : Int)
         ·
          refine pU (.bool true) (ed (((rwN N i).2.1 : Int) < (-2 : Int)) (Db)) ?_;refine pD (.bool true) (.bool true) ?_;refine pK ?_;refine pK ?_;refine pK ?_;refine pK ?_;refine pD (.bool true) (.bool true) ?_;refine pK ?_;refine pK ?_;refine pK ?_;refine pD (.bool true) (.bool true) ?_;refine pK ?_;refine pK ?_;refine pK ?_;refine pK ?_;refine pD (.bool true) (.bool true) ?_;refine pK ?_;refine pK ?_;refine pK ?_;refine pK ?_;refine pK ?_;refine pT (.bool true) ?_;refine zn (cK [1,3,4,84] (fun L => ?_));refine zt ?_;refine cw_seq ?_
          have hbad : validB ((n : Nat) : Int) S N = false := Bdd.valid_bad (i := i) (by omega) fun q => by
           obtain ⟨⟨⟨q1, q2⟩, _⟩, ⟨⟨q3, q4⟩, _⟩, q5, q6⟩ := q;have q1 : -2 ≤ (rwN N i).2.1 := q1;have q2 : (rwN N i).2.1 ≤ ((i : Nat) : Int) - 1 := q2;have q3 : -2 ≤ (rwN N i).2.2 := q3;have q4 : (rwN N i).2.2 ≤ ((i : Nat) : Int) - 1 := q4;omega
          refine zp (pT (.bool false) ?_);refine zn (ct_ (qt (qb (qt (qt (qb (qt (zR (.bool false) ?_))))))));exact ⟨congrArg (fun z => Ending.returned (Value.bool z)) hbad.symm, hE⟩
         ·
          refine pU (.bool false) (en (((rwN N i).2.1 : Int) < (-2 : Int)) (Db)) ?_;refine pD (.bool false) (.bool false) ?_;refine pT (pw Ba 1) ?_;refine pU (iv ((rwN N i).2.1)) (xl (ld3 (B5.1))) ?_;refine pT (iv i) ?_
          by_cases Dc : ((rwN N i).2.1 : Int) ≥ ((i : Nat) : Int)
          ·
           refine pU (.bool true) (ed (((rwN N i).2.1 : Int) ≥ ((i : Nat) : Int)) (Dc)) ?_;refine pD (.bool true) (.bool true) ?_;refine pK ?_;refine pK ?_;refine pK ?_;refine pD (.bool true) (.bool true) ?_;refine pK ?_;refine pK ?_;refine pK ?_;refine pK ?_;refine pD (.bool true) (.bool true) ?_;refine pK ?_;refine pK ?_;refine pK ?_;refine pK ?_;refine pK ?_;refine pT (.bool true) ?_;refine zn (cK [1,3,4,84] (fun L => ?_));refine zt ?_;refine cw_seq ?_
           have hbad : validB ((n : Nat) : Int) S N = false := Bdd.valid_bad (i := i) (by omega) fun q => by
            obtain ⟨⟨⟨q1, q2⟩, _⟩, ⟨⟨q3, q4⟩, _⟩, q5, q6⟩ := q;have q1 : -2 ≤ (rwN N i).2.1 := q1;have q2 : (rwN N i).2.1 ≤ ((i : Nat) : Int) - 1 := q2;have q3 : -2 ≤ (rwN N i).2.2 := q3;have q4 : (rwN N i).2.2 ≤ ((i : Nat) : Int) - 1 := q4;omega
           refine zp (pT (.bool false) ?_);refine zn (ct_ (qt (qb (qt (qt (qb (qt (zR (.bool false) ?_))))))));exact ⟨congrArg (fun z => Ending.returned (Value.bool z)) hbad.symm, hE⟩
          ·
           refine pU (.bool false) (en (((rwN N i).2.1 : Int) ≥ ((i : Nat) : Int)) (Dc)) ?_;refine pD (.bool false) (.bool false) ?_;refine pT (pw Ba 2) ?_;refine pU (iv ((rwN N i).2.2)) (xl (ld3 (B7.1))) ?_
           by_cases Dd : ((rwN N i).2.2 : Int) < (-2 : Int)
           ·
            refine pU (.bool true) (ed (((rwN N i).2.2 : Int) < (-2 : Int)) (Dd)) ?_;refine pD (.bool true) (.bool true) ?_;refine pK ?_;refine pK ?_;refine pK ?_;refine pK ?_;refine pD (.bool true) (.bool true) ?_;refine pK ?_;refine pK ?_;refine pK ?_;refine pK ?_;refine pK ?_;refine pT (.bool true) ?_;refine zn (cK [1,3,4,84] (fun L => ?_));refine zt ?_;refine cw_seq ?_
            have hbad : validB ((n : Nat) : Int) S N = false := Bdd.valid_bad (i := i) (by omega) fun q => by
             obtain ⟨⟨⟨q1, q2⟩, _⟩, ⟨⟨q3, q4⟩, _⟩, q5, q6⟩ := q;have q1 : -2 ≤ (rwN N i).2.1 := q1;have q2 : (rwN N i).2.1 ≤ ((i : Nat) : Int) - 1 := q2;have q3 : -2 ≤ (rwN N i).2.2 := q3;have q4 : (rwN N i).2.2 ≤ ((i : Nat) : Int) - 1 := q4;omega
            refine zp (pT (.bool false) ?_);refine zn (ct_ (qt (qb (qt (qt (qb (qt (zR (.bool false) ?_))))))));exact ⟨congrArg (fun z => Ending.returned (Value.bool z)) hbad.symm, hE⟩
           ·
            refine pU (.bool false) (en (((rwN N i).2.2 : Int) < (-2 : Int)) (Dd)) ?_;refine pD (.bool false) (.bool false) ?_;refine pT (pw Ba 2) ?_;refine pU (iv ((rwN N i).2.2)) (xl (ld3 (B7.1))) ?_;refine pT (iv i) ?_
            by_cases De : ((rwN N i).2.2 : Int) ≥ ((i : Nat) : Int)
            ·
             refine pU (.bool true) (ed (((rwN N i).2.2 : Int) ≥ ((i : Nat) : Int)) (De)) ?_;refine pD (.bool true) (.bool true) ?_;refine pK ?_;refine pK ?_;refine pK ?_;refine pK ?_;refine pK ?_;refine pT (.bool true) ?_;refine zn (cK [1,3,4,84] (fun L => ?_));refine zt ?_;refine cw_seq ?_
             have hbad : validB ((n : Nat) : Int) S N = false := Bdd.valid_bad (i := i) (by omega) fun q => by
              obtain ⟨⟨⟨q1, q2⟩, _⟩, ⟨⟨q3, q4⟩, _⟩, q5, q6⟩ := q;have q1 : -2 ≤ (rwN N i).2.1 := q1;have q2 : (rwN N i).2.1 ≤ ((i : Nat) : Int) - 1 := q2;have q3 : -2 ≤ (rwN N i).2.2 := q3;have q4 : (rwN N i).2.2 ≤ ((i : Nat) : Int) - 1 := q4;omega
             refine zp (pT (.bool false) ?_);refine zn (ct_ (qt (qb (qt (qt (qb (qt (zR (.bool false) ?_))))))));exact ⟨congrArg (fun z => Ending.returned (Value.bool z)) hbad.symm, hE⟩
            ·
             refine pU (.bool false) (en (((rwN N i).2.2 : Int) ≥ ((i : Nat) : Int)) (De)) ?_;refine pD (.bool false) (.bool false) ?_;refine pT (pw Ba 1) ?_;refine pU (iv ((rwN N i).2.1)) (xl (ld3 (B5.1))) ?_;refine pT (pw Ba 2) ?_;refine pU (iv ((rwN N i).2.2)) (xl (ld3 (B7.1))) ?_
             by_cases Df : ((rwN N i).2.1 : Int) = ((rwN N i).2.2 : Int)
             ·
              refine pU (.bool true) (eE ((rwN N i).2.1 : Int) ((rwN N i).2.2 : Int) (Df)) ?_;refine pT (.bool true) ?_;refine zn (cK [1,3,4,84] (fun L => ?_));refine zt ?_;refine cw_seq ?_
              have hbad : validB ((n : Nat) : Int) S N = false := Bdd.valid_bad (i := i) (by omega) fun q => by
               obtain ⟨⟨⟨q1, q2⟩, _⟩, ⟨⟨q3, q4⟩, _⟩, q5, q6⟩ := q;have q1 : -2 ≤ (rwN N i).2.1 := q1;have q2 : (rwN N i).2.1 ≤ ((i : Nat) : Int) - 1 := q2;have q3 : -2 ≤ (rwN N i).2.2 := q3;have q4 : (rwN N i).2.2 ≤ ((i : Nat) : Int) - 1 := q4;omega
              refine zp (pT (.bool false) ?_);refine zn (ct_ (qt (qb (qt (qt (qb (qt (zR (.bool false) ?_))))))));exact ⟨congrArg (fun z => Ending.returned (Value.bool z)) hbad.symm, hE⟩
             ·
              refine pU (.bool false) (eN ((rwN N i).2.1 : Int) ((rwN N i).2.2 : Int) (Df)) ?_;refine pT (.bool false) ?_;refine zn (cK [1,3,4,84] (fun L => ?_));refine zf ?_;refine cs_ (qw_then ?_);refine cw_seq ?_;have B3 := er_ Dr
              by_cases Dt : 0 ≤ (rwN N i).2.1
              ·
               obtain ⟨j0, F7⟩ : ∃ j : Nat, (rwN N i).2.1 = (j : Int) := ⟨((rwN N i).2.1).toNat, by omega⟩;have F8 : j0 < N.length := by omega
               have Bp := B5;rw [F7] at Bp
               by_cases F9 : (rwN N j0).1 ≤ (rwN N i).1
               ·
                have hko : ¬ kidOk N i 0 := fun q => by
                 have z := q.2 (by show (0 : Int) ≤ (rwN N i).2.1; omega);have e : (Bdd.kid N i 0).toNat = j0 := by show ((rwN N i).2.1).toNat = j0;omega
                 rw [e] at z;omega
                have hbad : validB ((n : Nat) : Int) S N = false := Bdd.valid_bad (i := i) (by omega) fun q => hko q.1
                refine dT (fun w' => w'.cell? ⟨Ba, 1, none⟩ = some (iv j0) ∧ w'.cell? ⟨O1, 2, none⟩ = some (sv b o ml c) ∧ w'.cell? ⟨b, o + j0 * 3, none⟩ = some (iv ((rwN N j0).1)) ∧ w'.cell? ⟨Ba, 0, none⟩ = some (iv ((rwN N i).1))) (⟨Bp.1, (B1.x B0).1, (hx.ext e0).c0 (i := j0) (by omega), B2.1⟩) (fun ops Q Fk hb hL hR hK => ?_);refine mv4 hb e0 hE B0 B3 fun e0 hE B0 B3=>?_;have Fb := hb.size;have hS := A4 (Bp.c B3) (B1.c B0) ((hx.ext e0).c0 (i := j0) (by omega)) (B2.c B3);refine wV 0 (pw Ba 1) hR hS ?_;refine wM 1 (iv j0) hR (fun w hS => ld3 (hS.1)) hS ?_;refine wL 2 (.bool true) hR (fun w _ => ev_dec (show _ = Result.ok (Next.value (Value.bool (decide (((j0 : Nat) : Int) ≥ (0 : Int))))) _ from by kernel_rfl) (by omega)) hS ?_;refine wW 3 (.bool true) 4 (pw O1 2) hR hS ?_;refine wM 5 (sv b o ml c) hR (fun w hS => ld40 (hS.2.1)) hS ?_;refine wV 6 (pw Ba 1) hR hS ?_;refine wM 7 (iv j0) hR (fun w hS => ld3 (hS.1)) hS ?_;refine wL 8 (pw b (o + j0 * 3)) hR (fun w _ => ex_index (p := sv b o ml c) (i := iv j0) rfl (by kernel_rfl) (by kernel_rfl) (ix40 (k := j0) (by omega))) hS ?_;refine wV 9 (pw b (o + j0 * 3)) hR hS ?_;refine wM 10 (iv ((rwN N j0).1)) hR (fun w hS => ld3 (hS.2.2.1)) hS ?_;refine wV 11 (pw Ba 0) hR hS ?_;refine wM 12 (iv ((rwN N i).1)) hR (fun w hS => ld3 (hS.2.2.2)) hS ?_;refine wL 13 (.bool true) hR (fun w _ => ev_dec (show _ = Result.ok (Next.value (Value.bool (decide (((rwN N j0).1 : Int) ≤ ((rwN N i).1 : Int))))) _ from by kernel_rfl) (by omega)) hS ?_;refine wW 14 (.bool true) 15 (.bool true) hR hS ?_;refine wK 16 hR hS ?_;refine wK 17 hR hS ?_;refine wK 18 hR hS ?_;refine wK 19 hR hS ?_;refine wK 20 hR hS ?_;refine wK 21 hR hS ?_;refine wK 22 hR hS ?_;refine wK 23 hR hS ?_;refine wK 24 hR hS ?_;refine wK 25 hR hS ?_;refine wK 26 hR hS ?_;refine wK 27 hR hS ?_;refine wK 28 hR hS ?_;refine wK 29 hR hS ?_;refine wK 30 hR hS ?_;refine wV 31 (.bool true) hR hS ?_;refine we hL hR hK ?_;refine zq (cK [1,3,116] (fun L => ?_));refine zt ?_;refine zc (zp (pT (.bool false) ?_));refine zn (ct_ (qb (qt (qt (qb (qt (zR (.bool false) ?_)))))));exact ⟨congrArg (fun z => Ending.returned (Value.bool z)) hbad.symm, hE⟩
               ·
                have Ct : -2 ≤ Bdd.kid N i 0 ∧ Bdd.kid N i 0 ≤ ((i : Nat) : Int) - 1 := ⟨by show -2 ≤ (rwN N i).2.1; omega, by show (rwN N i).2.1 ≤ ((i : Nat) : Int) - 1; omega⟩
                have Dg : kidOk N i 0 := ⟨Ct, fun z => by
                 have e : (Bdd.kid N i 0).toNat = j0 := by show ((rwN N i).2.1).toNat = j0;omega
                 rw [e];omega⟩
                by_cases Cr : 0 ≤ (rwN N i).2.2
                ·
                 obtain ⟨j1, Du⟩ : ∃ j : Nat, (rwN N i).2.2 = (j : Int) := ⟨((rwN N i).2.2).toNat, by omega⟩;have Dv : j1 < N.length := by omega
                 have Bw := B7;rw [Du] at Bw
                 by_cases Dw : (rwN N j1).1 ≤ (rwN N i).1
                 ·
                  have hko : ¬ kidOk N i 1 := fun q => by
                   have z := q.2 (by show (0 : Int) ≤ (rwN N i).2.2; omega);have e : (Bdd.kid N i 1).toNat = j1 := by show ((rwN N i).2.2).toNat = j1;omega
                   rw [e] at z;omega
                  have hbad : validB ((n : Nat) : Int) S N = false := Bdd.valid_bad (i := i) (by omega) fun q => hko q.2.1
                  refine dT (fun w' => w'.cell? ⟨Ba, 1, none⟩ = some (iv j0) ∧ w'.cell? ⟨O1, 2, none⟩ = some (sv b o ml c) ∧ w'.cell? ⟨b, o + j0 * 3, none⟩ = some (iv ((rwN N j0).1)) ∧ w'.cell? ⟨Ba, 0, none⟩ = some (iv ((rwN N i).1)) ∧ w'.cell? ⟨Ba, 2, none⟩ = some (iv j1) ∧ w'.cell? ⟨b, o + j1 * 3, none⟩ = some (iv ((rwN N j1).1))) (⟨Bp.1, (B1.x B0).1, (hx.ext e0).c0 (i := j0) (by omega), B2.1, Bw.1, (hx.ext e0).c0 (i := j1) (by omega)⟩) (fun ops Q Fl hb hL hR hK => ?_);refine mv4 hb e0 hE B0 B3 fun e0 hE B0 B3=>?_;have Fc := hb.size;have hS := A6 (Bp.c B3) (B1.c B0) ((hx.ext e0).c0 (i := j0) (by omega)) (B2.c B3) (Bw.c B3) ((hx.ext e0).c0 (i := j1) (by omega));refine wV 0 (pw Ba 1) hR hS ?_;refine wM 1 (iv j0) hR (fun w hS => ld3 (hS.1)) hS ?_;refine wL 2 (.bool true) hR (fun w _ => ev_dec (show _ = Result.ok (Next.value (Value.bool (decide (((j0 : Nat) : Int) ≥ (0 : Int))))) _ from by kernel_rfl) (by omega)) hS ?_;refine wW 3 (.bool true) 4 (pw O1 2) hR hS ?_;refine wM 5 (sv b o ml c) hR (fun w hS => ld40 (hS.2.1)) hS ?_;refine wV 6 (pw Ba 1) hR hS ?_;refine wM 7 (iv j0) hR (fun w hS => ld3 (hS.1)) hS ?_;refine wL 8 (pw b (o + j0 * 3)) hR (fun w _ => ex_index (p := sv b o ml c) (i := iv j0) rfl (by kernel_rfl) (by kernel_rfl) (ix40 (k := j0) (by omega))) hS ?_;refine wV 9 (pw b (o + j0 * 3)) hR hS ?_;refine wM 10 (iv ((rwN N j0).1)) hR (fun w hS => ld3 (hS.2.2.1)) hS ?_;refine wV 11 (pw Ba 0) hR hS ?_;refine wM 12 (iv ((rwN N i).1)) hR (fun w hS => ld3 (hS.2.2.2.1)) hS ?_;refine wL 13 (.bool false) hR (fun w _ => ev_ndec (show _ = Result.ok (Next.value (Value.bool (decide (((rwN N j0).1 : Int) ≤ ((rwN N i).1 : Int))))) _ from by kernel_rfl) (by omega)) hS ?_;refine wW 14 (.bool false) 15 (.bool false) hR hS ?_;refine wV 16 (pw Ba 2) hR hS ?_;refine wM 17 (iv j1) hR (fun w hS => ld3 (hS.2.2.2.2.1)) hS ?_;refine wL 18 (.bool true) hR (fun w _ => ev_dec (show _ = Result.ok (Next.value (Value.bool (decide (((j1 : Nat) : Int) ≥ (0 : Int))))) _ from by kernel_rfl) (by omega)) hS ?_;refine wW 19 (.bool true) 20 (pw O1 2) hR hS ?_;refine wM 21 (sv b o ml c) hR (fun w hS => ld40 (hS.2.1)) hS ?_;refine wV 22 (pw Ba 2) hR hS ?_;refine wM 23 (iv j1) hR (fun w hS => ld3 (hS.2.2.2.2.1)) hS ?_;refine wL 24 (pw b (o + j1 * 3)) hR (fun w _ => ex_index (p := sv b o ml c) (i := iv j1) rfl (by kernel_rfl) (by kernel_rfl) (ix40 (k := j1) (by omega))) hS ?_;refine wV 25 (pw b (o + j1 * 3)) hR hS ?_;refine wM 26 (iv ((rwN N j1).1)) hR (fun w hS => ld3 (hS.2.2.2.2.2)) hS ?_;refine wV 27 (pw Ba 0) hR hS ?_;refine wM 28 (iv ((rwN N i).1)) hR (fun w hS => ld3 (hS.2.2.2.1)) hS ?_;refine wL 29 (.bool true) hR (fun w _ => ev_dec (show _ = Result.ok (Next.value (Value.bool (decide (((rwN N j1).1 : Int) ≤ ((rwN N i).1 : Int))))) _ from by kernel_rfl) (by omega)) hS ?_;refine wW 30 (.bool true) 31 (.bool true) hR hS ?_;refine we hL hR hK ?_;refine zq (cK [1,3,116] (fun L => ?_));refine zt ?_;refine zc (zp (pT (.bool false) ?_));refine zn (ct_ (qb (qt (qt (qb (qt (zR (.bool false) ?_)))))));exact ⟨congrArg (fun z => Ending.returned (Value.bool z)) hbad.symm, hE⟩
                 ·
                  have C1 : -2 ≤ Bdd.kid N i 1 ∧ Bdd.kid N i 1 ≤ ((i : Nat) : Int) - 1 := ⟨by show -2 ≤ (rwN N i).2.2; omega, by show (rwN N i).2.2 ≤ ((i : Nat) : Int) - 1; omega⟩
                  have Cs : kidOk N i 1 := ⟨C1, fun z => by
                   have e : (Bdd.kid N i 1).toNat = j1 := by show ((rwN N i).2.2).toNat = j1;omega
                   rw [e];omega⟩
                  refine dT (fun w' => w'.cell? ⟨Ba, 1, none⟩ = some (iv j0) ∧ w'.cell? ⟨O1, 2, none⟩ = some (sv b o ml c) ∧ w'.cell? ⟨b, o + j0 * 3, none⟩ = some (iv ((rwN N j0).1)) ∧ w'.cell? ⟨Ba, 0, none⟩ = some (iv ((rwN N i).1)) ∧ w'.cell? ⟨Ba, 2, none⟩ = some (iv j1) ∧ w'.cell? ⟨b, o + j1 * 3, none⟩ = some (iv ((rwN N j1).1))) (⟨Bp.1, (B1.x B0).1, (hx.ext e0).c0 (i := j0) (by omega), B2.1, Bw.1, (hx.ext e0).c0 (i := j1) (by omega)⟩) (fun ops Q Fm hb hL hR hK => ?_);refine mv4 hb e0 hE B0 B3 fun e0 hE B0 B3=>?_;have Dy := hb.size;have hS := A6 (Bp.c B3) (B1.c B0) ((hx.ext e0).c0 (i := j0) (by omega)) (B2.c B3) (Bw.c B3) ((hx.ext e0).c0 (i := j1) (by omega));refine wV 0 (pw Ba 1) hR hS ?_;refine wM 1 (iv j0) hR (fun w hS => ld3 (hS.1)) hS ?_;refine wL 2 (.bool true) hR (fun w _ => ev_dec (show _ = Result.ok (Next.value (Value.bool (decide (((j0 : Nat) : Int) ≥ (0 : Int))))) _ from by kernel_rfl) (by omega)) hS ?_;refine wW 3 (.bool true) 4 (pw O1 2) hR hS ?_;refine wM 5 (sv b o ml c) hR (fun w hS => ld40 (hS.2.1)) hS ?_;refine wV 6 (pw Ba 1) hR hS ?_;refine wM 7 (iv j0) hR (fun w hS => ld3 (hS.1)) hS ?_;refine wL 8 (pw b (o + j0 * 3)) hR (fun w _ => ex_index (p := sv b o ml c) (i := iv j0) rfl (by kernel_rfl) (by kernel_rfl) (ix40 (k := j0) (by omega))) hS ?_;refine wV 9 (pw b (o + j0 * 3)) hR hS ?_;refine wM 10 (iv ((rwN N j0).1)) hR (fun w hS => ld3 (hS.2.2.1)) hS ?_;refine wV 11 (pw Ba 0) hR hS ?_;refine wM 12 (iv ((rwN N i).1)) hR (fun w hS => ld3 (hS.2.2.2.1)) hS ?_;refine wL 13 (.bool false) hR (fun w _ => ev_ndec (show _ = Result.ok (Next.value (Value.bool (decide (((rwN N j0).1 : Int) ≤ ((rwN N i).1 : Int))))) _ from by kernel_rfl) (by omega)) hS ?_;refine wW 14 (.bool false) 15 (.bool false) hR hS ?_;refine wV 16 (pw Ba 2) hR hS ?_;refine wM 17 (iv j1) hR (fun w hS => ld3 (hS.2.2.2.2.1)) hS ?_;refine wL 18 (.bool true) hR (fun w _ => ev_dec (show _ = Result.ok (Next.value (Value.bool (decide (((j1 : Nat) : Int) ≥ (0 : Int))))) _ from by kernel_rfl) (by omega)) hS ?_;refine wW 19 (.bool true) 20 (pw O1 2) hR hS ?_;refine wM 21 (sv b o ml c) hR (fun w hS => ld40 (hS.2.1)) hS ?_;refine wV 22 (pw Ba 2) hR hS ?_;refine wM 23 (iv j1) hR (fun w hS => ld3 (hS.2.2.2.2.1)) hS ?_;refine wL 24 (pw b (o + j1 * 3)) hR (fun w _ => ex_index (p := sv b o ml c) (i := iv j1) rfl (by kernel_rfl) (by kernel_rfl) (ix40 (k := j1) (by omega))) hS ?_;refine wV 25 (pw b (o + j1 * 3)) hR hS ?_;refine wM 26 (iv ((rwN N j1).1)) hR (fun w hS => ld3 (hS.2.2.2.2.2)) hS ?_;refine wV 27 (pw Ba 0) hR hS ?_;refine wM 28 (iv ((rwN N i).1)) hR (fun w hS => ld3 (hS.2.2.2.1)) hS ?_;refine wL 29 (.bool false) hR (fun w _ => ev_ndec (show _ = Result.ok (Next.value (Value.bool (decide (((rwN N j1).1 : Int) ≤ ((rwN N i).1 : Int))))) _ from by kernel_rfl) (by omega)) hS ?_;refine wW 30 (.bool false) 31 (.bool false) hR hS ?_;refine we hL hR hK ?_;refine zq (cK [1,3,116] (fun L => ?_));refine zf ?_;refine cs_ (qw_block (zq (zp (pT (iv i) ?_))));refine pU (nv (i + 1)) (ew (by omega) (by omega)) ?_;refine pT (nv (i + 1)) ?_;refine pl_nil (zr [1, 3] _ ?_ ⟨(i + 1), rfl, rfl, (Tq Bj (Tq Cm (Tq Cn Dy))), e0, hE, B0, by omega, (fun j hj => by rcases Nat.lt_succ_iff_lt_or_eq.1 hj with h | h; exact hall j h; rw [h]; exact Bdd.okN_of Dg Cs (by omega) (by omega))⟩);omega
                ·
                 have C1 : -2 ≤ Bdd.kid N i 1 ∧ Bdd.kid N i 1 ≤ ((i : Nat) : Int) - 1 := ⟨by show -2 ≤ (rwN N i).2.2; omega, by show (rwN N i).2.2 ≤ ((i : Nat) : Int) - 1; omega⟩;have Cs : kidOk N i 1 := ⟨C1, fun z => absurd z Cr⟩;refine dT (fun w' => w'.cell? ⟨Ba, 1, none⟩ = some (iv j0) ∧ w'.cell? ⟨O1, 2, none⟩ = some (sv b o ml c) ∧ w'.cell? ⟨b, o + j0 * 3, none⟩ = some (iv ((rwN N j0).1)) ∧ w'.cell? ⟨Ba, 0, none⟩ = some (iv ((rwN N i).1)) ∧ w'.cell? ⟨Ba, 2, none⟩ = some (iv ((rwN N i).2.2))) (⟨Bp.1, (B1.x B0).1, (hx.ext e0).c0 (i := j0) (by omega), B2.1, B7.1⟩) (fun ops Q Fo hb hL hR hK => ?_);refine mv4 hb e0 hE B0 B3 fun e0 hE B0 B3=>?_;have Dz := hb.size;have hS := A5 (Bp.c B3) (B1.c B0) ((hx.ext e0).c0 (i := j0) (by omega)) (B2.c B3) (B7.c B3);refine wV 0 (pw Ba 1) hR hS ?_;refine wM 1 (iv j0) hR (fun w hS => ld3 (hS.1)) hS ?_;refine wL 2 (.bool true) hR (fun w _ => ev_dec (show _ = Result.ok (Next.value (Value.bool (decide (((j0 : Nat) : Int) ≥ (0 : Int))))) _ from by kernel_rfl) (by omega)) hS ?_;refine wW 3 (.bool true) 4 (pw O1 2) hR hS ?_;refine wM 5 (sv b o ml c) hR (fun w hS => ld40 (hS.2.1)) hS ?_;refine wV 6 (pw Ba 1) hR hS ?_;refine wM 7 (iv j0) hR (fun w hS => ld3 (hS.1)) hS ?_;refine wL 8 (pw b (o + j0 * 3)) hR (fun w _ => ex_index (p := sv b o ml c) (i := iv j0) rfl (by kernel_rfl) (by kernel_rfl) (ix40 (k := j0) (by omega))) hS ?_;refine wV 9 (pw b (o + j0 * 3)) hR hS ?_;refine wM 10 (iv ((rwN N j0).1)) hR (fun w hS => ld3 (hS.2.2.1)) hS ?_;refine wV 11 (pw Ba 0) hR hS ?_;refine wM 12 (iv ((rwN N i).1)) hR (fun w hS => ld3 (hS.2.2.2.1)) hS ?_;refine wL 13 (.bool false) hR (fun w _ => ev_ndec (show _ = Result.ok (Next.value (Value.bool (decide (((rwN N j0).1 : Int) ≤ ((rwN N i).1 : Int))))) _ from by kernel_rfl) (by omega)) hS ?_;refine wW 14 (.bool false) 15 (.bool false) hR hS ?_;refine wV 16 (pw Ba 2) hR hS ?_;refine wM 17 (iv ((rwN N i).2.2)) hR (fun w hS => ld3 (hS.2.2.2.2)) hS ?_;refine wL 18 (.bool false) hR (fun w _ => ev_ndec (show _ = Result.ok (Next.value (Value.bool (decide (((rwN N i).2.2 : Int) ≥ (0 : Int))))) _ from by kernel_rfl) (by omega)) hS ?_;refine wV 19 (.bool false) hR hS ?_;refine wK 20 hR hS ?_;refine wK 21 hR hS ?_;refine wK 22 hR hS ?_;refine wK 23 hR hS ?_;refine wK 24 hR hS ?_;refine wK 25 hR hS ?_;refine wK 26 hR hS ?_;refine wK 27 hR hS ?_;refine wK 28 hR hS ?_;refine wK 29 hR hS ?_;refine wW 30 (.bool false) 31 (.bool false) hR hS ?_;refine we hL hR hK ?_;refine zq (cK [1,3,116] (fun L => ?_));refine zf ?_;refine cs_ (qw_block (zq (zp (pT (iv i) ?_))));refine pU (nv (i + 1)) (ew (by omega) (by omega)) ?_;refine pT (nv (i + 1)) ?_;refine pl_nil (zr [1, 3] _ ?_ ⟨(i + 1), rfl, rfl, (Tq Bj (Tq Cm (Tq Cn Dz))), e0, hE, B0, by omega, (fun j hj => by rcases Nat.lt_succ_iff_lt_or_eq.1 hj with h | h; exact hall j h; rw [h]; exact Bdd.okN_of Dg Cs (by omega) (by omega))⟩);omega
              ·
               have Ct : -2 ≤ Bdd.kid N i 0 ∧ Bdd.kid N i 0 ≤ ((i : Nat) : Int) - 1 := ⟨by show -2 ≤ (rwN N i).2.1; omega, by show (rwN N i).2.1 ≤ ((i : Nat) : Int) - 1; omega⟩;have Dg : kidOk N i 0 := ⟨Ct, fun z => absurd z Dt⟩
               by_cases Cr : 0 ≤ (rwN N i).2.2
               ·
                obtain ⟨j1, Du⟩ : ∃ j : Nat, (rwN N i).2.2 = (j : Int) := ⟨((rwN N i).2.2).toNat, by omega⟩;have Dv : j1 < N.length := by omega
                have Bx := B7;rw [Du] at Bx
                by_cases Dw : (rwN N j1).1 ≤ (rwN N i).1
                ·
                 have hko : ¬ kidOk N i 1 := fun q => by
                  have z := q.2 (by show (0 : Int) ≤ (rwN N i).2.2; omega);have e : (Bdd.kid N i 1).toNat = j1 := by show ((rwN N i).2.2).toNat = j1;omega
                  rw [e] at z;omega
                 have hbad : validB ((n : Nat) : Int) S N = false := Bdd.valid_bad (i := i) (by omega) fun q => hko q.2.1
                 refine dT (fun w' => w'.cell? ⟨Ba, 1, none⟩ = some (iv ((rwN N i).2.1)) ∧ w'.cell? ⟨Ba, 2, none⟩ = some (iv j1) ∧ w'.cell? ⟨O1, 2, none⟩ = some (sv b o ml c) ∧ w'.cell? ⟨b, o + j1 * 3, none⟩ = some (iv ((rwN N j1).1)) ∧ w'.cell? ⟨Ba, 0, none⟩ = some (iv ((rwN N i).1))) (⟨B5.1, Bx.1, (B1.x B0).1, (hx.ext e0).c0 (i := j1) (by omega), B2.1⟩) (fun ops Q Fp hb hL hR hK => ?_);refine mv4 hb e0 hE B0 B3 fun e0 hE B0 B3=>?_;have Fd := hb.size;have hS := A5 (B5.c B3) (Bx.c B3) (B1.c B0) ((hx.ext e0).c0 (i := j1) (by omega)) (B2.c B3);refine wV 0 (pw Ba 1) hR hS ?_;refine wM 1 (iv ((rwN N i).2.1)) hR (fun w hS => ld3 (hS.1)) hS ?_;refine wL 2 (.bool false) hR (fun w _ => ev_ndec (show _ = Result.ok (Next.value (Value.bool (decide (((rwN N i).2.1 : Int) ≥ (0 : Int))))) _ from by kernel_rfl) (by omega)) hS ?_;refine wV 3 (.bool false) hR hS ?_;refine wK 4 hR hS ?_;refine wK 5 hR hS ?_;refine wK 6 hR hS ?_;refine wK 7 hR hS ?_;refine wK 8 hR hS ?_;refine wK 9 hR hS ?_;refine wK 10 hR hS ?_;refine wK 11 hR hS ?_;refine wK 12 hR hS ?_;refine wK 13 hR hS ?_;refine wW 14 (.bool false) 15 (.bool false) hR hS ?_;refine wV 16 (pw Ba 2) hR hS ?_;refine wM 17 (iv j1) hR (fun w hS => ld3 (hS.2.1)) hS ?_;refine wL 18 (.bool true) hR (fun w _ => ev_dec (show _ = Result.ok (Next.value (Value.bool (decide (((j1 : Nat) : Int) ≥ (0 : Int))))) _ from by kernel_rfl) (by omega)) hS ?_;refine wW 19 (.bool true) 20 (pw O1 2) hR hS ?_;refine wM 21 (sv b o ml c) hR (fun w hS => ld40 (hS.2.2.1)) hS ?_;refine wV 22 (pw Ba 2) hR hS ?_;refine wM 23 (iv j1) hR (fun w hS => ld3 (hS.2.1)) hS ?_;refine wL 24 (pw b (o + j1 * 3)) hR (fun w _ => ex_index (p := sv b o ml c) (i := iv j1) rfl (by kernel_rfl) (by kernel_rfl) (ix40 (k := j1) (by omega))) hS ?_;refine wV 25 (pw b (o + j1 * 3)) hR hS ?_;refine wM 26 (iv ((rwN N j1).1)) hR (fun w hS => ld3 (hS.2.2.2.1)) hS ?_;refine wV 27 (pw Ba 0) hR hS ?_;refine wM 28 (iv ((rwN N i).1)) hR (fun w hS => ld3 (hS.2.2.2.2)) hS ?_;refine wL 29 (.bool true) hR (fun w _ => ev_dec (show _ = Result.ok (Next.value (Value.bool (decide (((rwN N j1).1 : Int) ≤ ((rwN N i).1 : Int))))) _ from by kernel_rfl) (by omega)) hS ?_;refine wW 30 (.bool true) 31 (.bool true) hR hS ?_;refine we hL hR hK ?_;refine zq (cK [1,3,116] (fun L => ?_));refine zt ?_;refine zc (zp (pT (.bool false) ?_));refine zn (ct_ (qb (qt (qt (qb (qt (zR (.bool false) ?_)))))));exact ⟨congrArg (fun z => Ending.returned (Value.bool z)) hbad.symm, hE⟩
                ·
                 have C1 : -2 ≤ Bdd.kid N i 1 ∧ Bdd.kid N i 1 ≤ ((i : Nat) : Int) - 1 := ⟨by show -2 ≤ (rwN N i).2.2; omega, by show (rwN N i).2.2 ≤ ((i : Nat) : Int) - 1; omega⟩
                 have Cs : kidOk N i 1 := ⟨C1, fun z => by
                  have e : (Bdd.kid N i 1).toNat = j1 := by show ((rwN N i).2.2).toNat = j1;omega
                  rw [e];omega⟩
                 refine dT (fun w' => w'.cell? ⟨Ba, 1, none⟩ = some (iv ((rwN N i).2.1)) ∧ w'.cell? ⟨Ba, 2, none⟩ = some (iv j1) ∧ w'.cell? ⟨O1, 2, none⟩ = some (sv b o ml c) ∧ w'.cell? ⟨b, o + j1 * 3, none⟩ = some (iv ((rwN N j1).1)) ∧ w'.cell? ⟨Ba, 0, none⟩ = some (iv ((rwN N i).1))) (⟨B5.1, Bx.1, (B1.x B0).1, (hx.ext e0).c0 (i := j1) (by omega), B2.1⟩) (fun ops Q Fq hb hL hR hK => ?_);refine mv4 hb e0 hE B0 B3 fun e0 hE B0 B3=>?_;have E4 := hb.size;have hS := A5 (B5.c B3) (Bx.c B3) (B1.c B0) ((hx.ext e0).c0 (i := j1) (by omega)) (B2.c B3);refine wV 0 (pw Ba 1) hR hS ?_;refine wM 1 (iv ((rwN N i).2.1)) hR (fun w hS => ld3 (hS.1)) hS ?_;refine wL 2 (.bool false) hR (fun w _ => ev_ndec (show _ = Result.ok (Next.value (Value.bool (decide (((rwN N i).2.1 : Int) ≥ (0 : Int))))) _ from by kernel_rfl) (by omega)) hS ?_;refine wV 3 (.bool false) hR hS ?_;refine wK 4 hR hS ?_;refine wK 5 hR hS ?_;refine wK 6 hR hS ?_;refine wK 7 hR hS ?_;refine wK 8 hR hS ?_;refine wK 9 hR hS ?_;refine wK 10 hR hS ?_;refine wK 11 hR hS ?_;refine wK 12 hR hS ?_;refine wK 13 hR hS ?_;refine wW 14 (.bool false) 15 (.bool false) hR hS ?_;refine wV 16 (pw Ba 2) hR hS ?_;refine wM 17 (iv j1) hR (fun w hS => ld3 (hS.2.1)) hS ?_;refine wL 18 (.bool true) hR (fun w _ => ev_dec (show _ = Result.ok (Next.value (Value.bool (decide (((j1 : Nat) : Int) ≥ (0 : Int))))) _ from by kernel_rfl) (by omega)) hS ?_;refine wW 19 (.bool true) 20 (pw O1 2) hR hS ?_;refine wM 21 (sv b o ml c) hR (fun w hS => ld40 (hS.2.2.1)) hS ?_;refine wV 22 (pw Ba 2) hR hS ?_;refine wM 23 (iv j1) hR (fun w hS => ld3 (hS.2.1)) hS ?_;refine wL 24 (pw b (o + j1 * 3)) hR (fun w _ => ex_index (p := sv b o ml c) (i := iv j1) rfl (by kernel_rfl) (by kernel_rfl) (ix40 (k := j1) (by omega))) hS ?_;refine wV 25 (pw b (o + j1 * 3)) hR hS ?_;refine wM 26 (iv ((rwN N j1).1)) hR (fun w hS => ld3 (hS.2.2.2.1)) hS ?_;refine wV 27 (pw Ba 0) hR hS ?_;refine wM 28 (iv ((rwN N i).1)) hR (fun w hS => ld3 (hS.2.2.2.2)) hS ?_;refine wL 29 (.bool false) hR (fun w _ => ev_ndec (show _ = Result.ok (Next.value (Value.bool (decide (((rwN N j1).1 : Int) ≤ ((rwN N i).1 : Int))))) _ from by kernel_rfl) (by omega)) hS ?_;refine wW 30 (.bool false) 31 (.bool false) hR hS ?_;refine we hL hR hK ?_;refine zq (cK [1,3,116] (fun L => ?_));refine zf ?_;refine cs_ (qw_block (zq (zp (pT (iv i) ?_))));refine pU (nv (i + 1)) (ew (by omega) (by omega)) ?_;refine pT (nv (i + 1)) ?_;refine pl_nil (zr [1, 3] _ ?_ ⟨(i + 1), rfl, rfl, (Tq Bj (Tq Cm (Tq Cn E4))), e0, hE, B0, by omega, (fun j hj => by rcases Nat.lt_succ_iff_lt_or_eq.1 hj with h | h; exact hall j h; rw [h]; exact Bdd.okN_of Dg Cs (by omega) (by omega))⟩);omega
               ·
                have C1 : -2 ≤ Bdd.kid N i 1 ∧ Bdd.kid N i 1 ≤ ((i : Nat) : Int) - 1 := ⟨by show -2 ≤ (rwN N i).2.2; omega, by show (rwN N i).2.2 ≤ ((i : Nat) : Int) - 1; omega⟩;have Cs : kidOk N i 1 := ⟨C1, fun z => absurd z Cr⟩;refine dT (fun w' => w'.cell? ⟨Ba, 1, none⟩ = some (iv ((rwN N i).2.1)) ∧ w'.cell? ⟨Ba, 2, none⟩ = some (iv ((rwN N i).2.2))) (⟨B5.1, B7.1⟩) (fun ops Q Fr hb hL hR hK => ?_);refine mv4 hb e0 hE B0 B3 fun e0 hE B0 B3=>?_;have E5 := hb.size;have hS := A2 (B5.c B3) (B7.c B3);refine wV 0 (pw Ba 1) hR hS ?_;refine wM 1 (iv ((rwN N i).2.1)) hR (fun w hS => ld3 (hS.1)) hS ?_;refine wL 2 (.bool false) hR (fun w _ => ev_ndec (show _ = Result.ok (Next.value (Value.bool (decide (((rwN N i).2.1 : Int) ≥ (0 : Int))))) _ from by kernel_rfl) (by omega)) hS ?_;refine wV 3 (.bool false) hR hS ?_;refine wK 4 hR hS ?_;refine wK 5 hR hS ?_;refine wK 6 hR hS ?_;refine wK 7 hR hS ?_;refine wK 8 hR hS ?_;refine wK 9 hR hS ?_;refine wK 10 hR hS ?_;refine wK 11 hR hS ?_;refine wK 12 hR hS ?_;refine wK 13 hR hS ?_;refine wW 14 (.bool false) 15 (.bool false) hR hS ?_;refine wV 16 (pw Ba 2) hR hS ?_;refine wM 17 (iv ((rwN N i).2.2)) hR (fun w hS => ld3 (hS.2)) hS ?_;refine wL 18 (.bool false) hR (fun w _ => ev_ndec (show _ = Result.ok (Next.value (Value.bool (decide (((rwN N i).2.2 : Int) ≥ (0 : Int))))) _ from by kernel_rfl) (by omega)) hS ?_;refine wV 19 (.bool false) hR hS ?_;refine wK 20 hR hS ?_;refine wK 21 hR hS ?_;refine wK 22 hR hS ?_;refine wK 23 hR hS ?_;refine wK 24 hR hS ?_;refine wK 25 hR hS ?_;refine wK 26 hR hS ?_;refine wK 27 hR hS ?_;refine wK 28 hR hS ?_;refine wK 29 hR hS ?_;refine wW 30 (.bool false) 31 (.bool false) hR hS ?_;refine we hL hR hK ?_;refine zq (cK [1,3,116] (fun L => ?_));refine zf ?_;refine cs_ (qw_block (zq (zp (pT (iv i) ?_))));refine pU (nv (i + 1)) (ew (by omega) (by omega)) ?_;refine pT (nv (i + 1)) ?_;refine pl_nil (zr [1, 3] _ ?_ ⟨(i + 1), rfl, rfl, (Tq Bj (Tq Cm (Tq Cn E5))), e0, hE, B0, by omega, (fun j hj => by rcases Nat.lt_succ_iff_lt_or_eq.1 hj with h | h; exact hall j h; rw [h]; exact Bdd.okN_of Dg Cs (by omega) (by omega))⟩);omega
      ·
       have hin : i = ml := by omega
       refine zc (zc (zp (pD (iv i) (pw O1 2) ?_)));refine pU (.slice a ml c) (xl (ld40 (B1.c B0))) ?_;refine pT (iv ml) ?_;refine pU (.bool false) (en (((i : Nat) : Int) < ((ml : Nat) : Int)) (by omega)) ?_;refine zn (zf ?_);refine cx_ (qx (qx (qo (qw_then ?_))));refine cw_seq ?_;have B6 := er_ Dm;have hstr : Bdd.Str ((n : Nat) : Int) S N := ⟨F3, F4, F6, fun j hj => hall j (by omega)⟩;have hto := Bdd.tree_ok hstr;rw [Int.toNat_natCast] at hto;refine cw_join (fun ws' Y => ∃ Cv : Option Addr, ∃ Cw : Nat, ∃ C3 C4 : Int, ∃ C7 : Option Addr, ∃ Cj C5 : Nat, ∃ Br : Int, ∃ C6 : Nat, ws' = [(1, pw O1 0), (5, pw C6 0), (6, iv Br)] ∧ Ext w0 Y ∧ Ext w Y ∧ Ext X2 Y ∧ Ext Dm Y ∧ OptM w.heap.size Y (Bdd.machO n (Bdd.tree S N)) C3 C4 C7 Cj C5 Br ∧ BoxAt Y C6 0 (iv C3) ∧ BoxAt Y C6 1 (iv C4) ∧ BoxAt Y C6 2 (.slice C7 Cj C5) ∧ Dm.heap.size ≤ Y.heap.size ∧ Dm.heap.size ≤ C6) (fun hJ => ?_) ?_
       ·
        refine dT (fun w' => w'.cell? ⟨O1, 0, none⟩ = some (iv n) ∧ w'.cell? ⟨O1, 1, none⟩ = some (iv S) ∧ w'.cell? ⟨O1, 2, none⟩ = some (.slice a ml c)) (⟨(B4.x B0).1, (B8.x B0).1, (B1.x B0).1⟩) (fun ops Q Fs hb hL hR hK => ?_);refine mv4 hb e0 hE B0 B6 fun e0 hE B0 B6=>?_;have Bh := hb.size;have hS := A3 (B4.c B0) (B8.c B0) (B1.c B0);refine wV 0 (pw O1 0) hR hS ?_;refine wM 1 (iv n) hR (fun w hS => ld3 (hS.1)) hS ?_;refine wM 2 (mw n S a ml c) hR (fun w hS => ld42 (hS.1) (hS.2.1) (hS.2.2)) hS ?_;refine zw 3 8 hR ?_ ?_
        ·
         refine sc 61 #[mw n S a ml c] ((Table_c _ _ H hstr e0).mono ?_);rintro e Eu ⟨Cv, Cw, rfl, Co, hb⟩;refine mv4 hb e0 hE B0 B6 fun e0 hE B0 B6=>?_;have Bq := hb.size;have Bs := er_ Eu;refine ⟨_, rfl, ⟨(B4.c B0), (B8.c B0), (B1.c B0)⟩, ?_⟩;refine zw 4 8 hR ?_ ?_
         ·
          refine sc 51 #[iv n, .slice Cv (2 ^ n) Cw] ((Of_tab _ _ Co hto Ck (er_ _)).mono ?_);rintro e Ew ⟨C3, C4, C7, Cj, C5, Br, rfl, D5, hb⟩;refine mv5 hb e0 hE B0 B6 Bs fun e0 hE B0 B6 Bs=>?_;have C2 := hb.size;have Cc := er_ Ew;have hS := A3 (B4.c B0) (B8.c B0) (B1.c B0);refine ⟨_, rfl, hS, ?_⟩;refine wW 5 (.tuple #[mw C3 C4 C7 Cj C5, iv Br]) 6 (mw C3 C4 C7 Cj C5) hR hS ?_;refine wV 7 (iv Br) hR hS ?_;refine wN 8 42 #[iv 0, iv 0, .slice none 0 0] hR ?_;intro C6 F0 Bt Ep hb hbx;have ⟨Be, Bk, Bl⟩ := bq3 hbx;refine mv6 hb e0 hE B0 B6 Bs Cc fun e0 hE B0 B6 Bs Cc=>?_;have E6 := hb.size;have Fh := Be.lt;refine ⟨⟨(B4.c B0), (B8.c B0), (B1.c B0)⟩, ?_⟩;refine wS 9 hR (sn_setK3 (O := C6) (j := 0) (v0 := iv C3) (v1 := iv C4) (v2 := .slice C7 Cj C5) (ex_store (p := pw C6 0) (v := mw C3 C4 C7 Cj C5) rfl (by kernel_rfl) (by kernel_rfl) (st42 Be.1 Be.2 Bk.1 Bk.2 Bl.1 Bl.2)) Be Bk Bl ?_);intro F1 ho Be Bk Bl hk;replace e0 := ho.ext e0 (by omega);replace hE := ho.ext hE (by omega);replace B0 := ho.ext B0 (by omega);replace B6 := ho.ext B6 (by omega);replace Bs := ho.ext Bs (Tq C2 (nq_ Bt));replace Cc := ho.ext Cc (nq_ Bt);have E7 := nq_ ho.size.symm;clear ho hk;refine ⟨⟨(B4.c B0), (B8.c B0), (B1.c B0)⟩, ?_⟩;refine wV 10 (iv Br) hR (⟨(B4.c B0), (B8.c B0), (B1.c B0)⟩) ?_;refine we hL hR hK ?_;have Ca := ((D5.ext Cc)).mono (Tq Cd (Tq Bj (Tq Bh Bq)));exact zl hJ [1, 5, 6] ⟨Cv, Cw, C3, C4, C7, Cj, C5, Br, C6, rfl, e0, hE, B0, B6, Ca, Be, Bk, Bl, (Tq Bh (Tq Bq (Tq C2 (Tq E6 E7)))), (by omega)⟩
         ·
          refine sw 42 #[iv 0, iv 0, .slice none 0 0] ?_;intro Dn Ft Bu Er hb hbx;have ⟨Bi, Bm, Bo⟩ := bq3 hbx;refine mv5 hb e0 hE B0 B6 Bs fun e0 hE B0 B6 Bs=>?_;have Dj := hb.size;have Ea := Bi.lt;refine ⟨⟨(B4.c B0), (B8.c B0), (B1.c B0)⟩, ?_⟩;refine wC 4 51 #[iv n, .slice Cv (2 ^ n) Cw] hR ((Of_tab _ _ (Co.ext Bs) hto Ck (er_ _)).mono ?_);rintro e Fj ⟨Cx, Cz, D2, Dl, D4, C9, rfl, Cb, hb⟩;refine mv7 hb e0 hE B0 B6 Bi Bm Bo fun e0 hE B0 B6 Bi Bm Bo=>?_;have E8 := hb.size;have hS := A3 (B4.c B0) (B8.c B0) (B1.c B0);refine ⟨_, rfl, hS, ?_⟩;refine wW 5 (.tuple #[mw Cx Cz D2 Dl D4, iv C9]) 6 (mw Cx Cz D2 Dl D4) hR hS ?_;refine wV 7 (iv C9) hR hS ?_;refine wS 9 hR (sn_setK3 (O := Dn) (j := 0) (v0 := iv Cx) (v1 := iv Cz) (v2 := .slice D2 Dl D4) (ex_store (p := pw Dn 0) (v := mw Cx Cz D2 Dl D4) rfl (by kernel_rfl) (by kernel_rfl) (st42 Bi.1 Bi.2 Bm.1 Bm.2 Bo.1 Bo.2)) Bi Bm Bo ?_);intro F2 ho Bi Bm Bo hk;replace e0 := ho.ext e0 (by omega);replace hE := ho.ext hE (by omega);replace B0 := ho.ext B0 (by omega);replace B6 := ho.ext B6 (Tq (Tq Bh Bq) (nq_ Bu));replace Cb := Cb.turn ho (nl_ Ea (nr_ _));have E9 := nq_ ho.size.symm;clear ho hk;refine ⟨⟨(B4.c B0), (B8.c B0), (B1.c B0)⟩, ?_⟩;refine wV 10 (iv C9) hR (⟨(B4.c B0), (B8.c B0), (B1.c B0)⟩) ?_;refine we hL hR hK ?_;have D6 := (Cb).mono (Tq Cd (Tq Bj (Tq Bh (Tq Bq Dj))));exact zl hJ [1, 5, 6] ⟨Cv, Cw, Cx, Cz, D2, Dl, D4, C9, Dn, rfl, e0, hE, B0, B6, D6, Bi, Bm, Bo, (Tq Bh (Tq Bq (Tq Dj (Tq E8 E9)))), (Tq (Tq Bh Bq) (nq_ Bu))⟩
        ·
         refine sw 42 #[iv 0, iv 0, .slice none 0 0] ?_;intro Do Fu Bz Es hb hbx;have ⟨Bc, Bf, Bg⟩ := bq3 hbx;refine mv4 hb e0 hE B0 B6 fun e0 hE B0 B6=>?_;have Dk := hb.size;have Eb := Bc.lt;refine ⟨⟨(B4.c B0), (B8.c B0), (B1.c B0)⟩, ?_⟩;refine wC 3 61 #[mw n S a ml c] hR ((Table_c _ _ H hstr e0).mono ?_);rintro e Ey ⟨Ed, Ee, rfl, D7, hb⟩;refine mv7 hb e0 hE B0 B6 Bc Bf Bg fun e0 hE B0 B6 Bc Bf Bg=>?_;have Cu := hb.size;have D8 := er_ Ey;refine ⟨_, rfl, ⟨(B4.c B0), (B8.c B0), (B1.c B0)⟩, ?_⟩;refine wC 4 51 #[iv n, .slice Ed (2 ^ n) Ee] hR ((Of_tab _ _ D7 hto Ck (er_ _)).mono ?_);rintro e Ec ⟨Cy, D0, D3, Ci, C8, Bv, rfl, C0, hb⟩;refine mv7 hb e0 hE B0 B6 Bc Bf Bg fun e0 hE B0 B6 Bc Bf Bg=>?_;have Dh := hb.size;have hS := A3 (B4.c B0) (B8.c B0) (B1.c B0);refine ⟨_, rfl, hS, ?_⟩;refine wW 5 (.tuple #[mw Cy D0 D3 Ci C8, iv Bv]) 6 (mw Cy D0 D3 Ci C8) hR hS ?_;refine wV 7 (iv Bv) hR hS ?_;refine wS 9 hR (sn_setK3 (O := Do) (j := 0) (v0 := iv Cy) (v1 := iv D0) (v2 := .slice D3 Ci C8) (ex_store (p := pw Do 0) (v := mw Cy D0 D3 Ci C8) rfl (by kernel_rfl) (by kernel_rfl) (st42 Bc.1 Bc.2 Bf.1 Bf.2 Bg.1 Bg.2)) Bc Bf Bg ?_);intro Dq ho Bc Bf Bg hk;replace e0 := ho.ext e0 (by omega);replace hE := ho.ext hE (by omega);replace B0 := ho.ext B0 (Tq (Tq Bj Bh) (nq_ Bz));replace B6 := ho.ext B6 (Tq Bh (nq_ Bz));replace C0 := C0.turn ho (nl_ Eb Cu);have Di := nq_ ho.size.symm;clear ho hk;refine ⟨⟨(B4.c B0), (B8.c B0), (B1.c B0)⟩, ?_⟩;refine wV 10 (iv Bv) hR (⟨(B4.c B0), (B8.c B0), (B1.c B0)⟩) ?_;refine we hL hR hK ?_;have Cq := (C0).mono (Tq Cd (Tq Bj (Tq Bh (Tq Dk Cu))));exact zl hJ [1, 5, 6] ⟨Ed, Ee, Cy, D0, D3, Ci, C8, Bv, Do, rfl, e0, hE, B0, B6, Cq, Bc, Bf, Bg, (Tq Bh (Tq Dk (Tq Cu (Tq Dh Di)))), (Tq Bh (nq_ Bz))⟩
       ·
        clear e0 hE B0 B6;rintro L ws D1 ⟨Cv, Cw, C3, C4, C7, Cj, C5, Br, C6, rfl, e0, hE, B0, B6, Ca, Be, Bk, Bl, Ek, El⟩;have Cp := er_ D1;have Et := Be.lt;refine zq (cw_seq ?_);rcases (Ca) with ⟨N9, Dx, Em, F5, _, _⟩ | ⟨Dx, _, _, _, _, _, Em⟩
        ·
         refine zp (pT (iv Br) ?_);refine pU (.bool true) (eE (Br : Int) (0 : Int) (Em)) ?_;refine pT (.bool true) ?_;refine pU (mw C3 C4 C7 Cj C5) (xl (ld42 (Be.1) (Bk.1) (Bl.1))) ?_;refine pU (mw n S a ml c) (xl (ld42 (B4.c B0) (B8.c B0) (B1.c B0))) ?_;refine pS (sc 12 #[mw C3 C4 C7 Cj C5, mw n S a ml c] ((rmSame_c C5 c _ F5 (er_ _) H e0).mono ?_));rintro e Fi ⟨rfl, hb⟩;replace hE := hE.trans hb;have En := hb.size;refine ⟨_, rfl, pD (.bool (decide (C3 = ((n : Nat) : Int) ∧ C4 = S ∧ N9 = N))) (.bool (decide (C3 = ((n : Nat) : Int) ∧ C4 = S ∧ N9 = N))) ?_⟩;refine zn (ct_ (zR (.bool (decide (C3 = ((n : Nat) : Int) ∧ C4 = S ∧ N9 = N))) ?_));obtain ⟨_, e1, e2, e3⟩ := Bdd.machO_some Dx;exact ⟨congrArg (fun z => Ending.returned (Value.bool z)) (by rw [Bdd.valid_str hstr, e1, e2, e3]; exact decide_eq_decide.2 ⟨fun q => q.2, fun q => ⟨rfl, q⟩⟩), hE⟩
        ·
         refine zp (pT (iv Br) ?_);refine pU (.bool false) (eN (Br : Int) (0 : Int) (by omega)) ?_;refine pT (.bool false) ?_;refine pK ?_;refine pK ?_;refine pK ?_;refine pD (.bool false) (.bool false) ?_;refine zn (ct_ (zR (.bool false) ?_))
         have hbad : validB ((n : Nat) : Int) S N = false := by
          have hmn := Bdd.machO_none Dx;rw [Bdd.valid_str hstr];exact decide_eq_false fun q => by rw [q.2] at hmn;omega
         exact ⟨congrArg (fun z => Ending.returned (Value.bool z)) hbad.symm, hE⟩
theorem rmValid_r {r : Bool} (c : Nat) (w : World) (H : NdsAt w0 a ml N) (e0 : Ext w0 w) (hr : validB E S N = r) : Calls Tryz.prog 24 #[.agg #[.int .i64 E, .int .i64 S, .slice a ml c]] w fun e w' => e = .returned (.bool r) ∧ Ext w w' := hr ▸ rmValid_c c w H e0
end Go.Proofs.YtpfajhcdfgpgmaaGreatDoor

namespace Go.Proofs.YtpfajhcdfgpgmaaGreatDoor
open Bdd (errV cntM needM)
variable {E S V : Int} {k ml s : Nat} {w0 : World} {a : Option Addr} {N : List Nod}
set_option maxRecDepth 1000000
set_option maxHeartbeats 4000000
set_option synthInstance.maxHeartbeats 0
set_option synthInstance.maxSize 9999
open Go.RowKit
namespace Bdd
theorem aft_no {N : List Row} {K : Int} (h : ¬ (validB E S N = true ∧ (0 ≤ K ∧ K ≤ E) ∧ 0 ≤ V ∧ V ≤ ((2 ^ E.toNat : Nat) : Int) - 1)) : aft E S N K V = none := if_neg h
theorem acc_no {N : List Row} (h : ¬ (validB E S N = true ∧ (0 ≤ E ∧ E ≤ E) ∧ 0 ≤ V ∧ V ≤ ((2 ^ E.toNat : Nat) : Int) - 1)) : accB E S N V = false := by
 unfold accB
 rw [aft_no h]
 exact decide_eq_false (fun q => by cases q)
theorem lowQ_t {V : Nat} (h : V % 2 ^ k = s % 2 ^ k) : lowQ s k V = true := decide_eq_true h
theorem lowQ_f {V : Nat} (h : ¬ V % 2 ^ k = s % 2 ^ k) : lowQ s k V = false := decide_eq_false h
theorem aft_full {n : Nat} {N : List Row} {p q : Bool} (hv : validB ((n : Nat) : Int) S N = true) (ho : OK 0 n (tree S N)) (hk : k ≤ n) (hs : s < 2 ^ n) (hp : p = sureU (tree S N) s k (2 ^ n)) (hq : q = canU (tree S N) s k (2 ^ n)) : surO (aft ((n : Nat) : Int) S N ((k : Nat) : Int) ((s : Nat) : Int)) = p ∧ canO (aft ((n : Nat) : Int) S N ((k : Nat) : Int) ((s : Nat) : Int)) = q ∧ errO (aft ((n : Nat) : Int) S N ((k : Nat) : Int) ((s : Nat) : Int)) = 0 := by
 have h : aft ((n : Nat) : Int) S N ((k : Nat) : Int) ((s : Nat) : Int) = some (rest k (bits s) (tree S N)) := by
  unfold aft
  rw [if_pos ⟨hv, ⟨by omega, by omega⟩, by omega, by rw [Int.toNat_natCast]; omega⟩]
  rfl
 rw [h, sur_is, can_is, hp, hq, sureU_is ho hk, canU_is ho hk]
 exact ⟨rfl, rfl, if_neg (by simp)⟩
end Bdd
theorem rmAccepts_c (V : Int) (c : Nat) (w : World) (H : NdsAt w0 a ml N) (e0 : Ext w0 w) : Calls Tryz.prog 29 #[mw E S a ml c, iv V] w fun e w' => e = .returned (.bool (Bdd.accB E S N V)) ∧ Ext w w' := by
 have Bf := e0.size;refine calls_cw 23 [(1, iv V), (0, mw E S a ml c)] Tryz.func29 rfl Tryz.ntmps29 (by kernel_rfl) (by kernel_rfl) (fun L => ?_);have hE := er_ w;refine zc (zp (pS (sw 42 #[iv E, iv S, .slice a ml c] ?_)));intro O1 X2 Bc Ba hb hbx;have ⟨B0, B1, B2⟩ := bq3 hbx;refine mv2 hb e0 hE fun e0 hE=>?_;have Bg := hb.size;have Bj := B0.lt;refine pT (.bool false) ?_;refine zn (zc (cw_seq ?_));obtain ⟨q9, B4⟩ : ∃ q, Bdd.validB E S N = q := ⟨_, rfl⟩
 cases q9
 ·
  refine zp (pU (mw E S a ml c) (xl (ld42 (B0.1) (B1.1) (B2.1))) ?_);refine pS (sc 24 #[mw E S a ml c] ((rmValid_r (r := false) _ _ H e0 B4).mono ?_));rintro e w5 ⟨rfl, hb⟩;refine mv5 hb e0 hE B0 B1 B2 fun e0 hE B0 B1 B2=>?_;have Bh := hb.size;refine ⟨_, rfl, pD (.bool true) (.bool true) ?_⟩;refine pK ?_;refine pK ?_;refine pD (.bool true) (.bool true) ?_;refine pK ?_;refine pK ?_;refine pK ?_;refine pK ?_;refine pK ?_;refine pT (.bool true) ?_;refine zn (cK [1,2,18] (fun L => ?_));refine zt ?_;refine cw_seq ?_;have hbad : Bdd.accB E S N V = false := Bdd.acc_no (fun q => by rw [B4] at q; exact absurd q.1 (by decide));refine zp (pT (.bool false) ?_);refine zn (ct_ (qt (zR (.bool false) ?_)));exact ⟨congrArg (fun z => Ending.returned (Value.bool z)) hbad.symm, hE⟩
 ·
  have hstr := (Bdd.valid_iff.1 B4).1;have Be := hstr.e;obtain ⟨n, rfl⟩ : ∃ n : Nat, E = (n : Int) := ⟨E.toNat, by omega⟩;have B5 : n ≤ 16 := by omega
  have B7 : 2 ^ n ≤ 65536 := Tq (Nat.pow_le_pow_right (n := 2) (by decide) B5) (by decide);have hpp := Nat.two_pow_pos n;have hetn : (((n : Nat) : Int)).toNat = n := Int.toNat_natCast n;have hto := Bdd.tree_ok hstr;rw [hetn] at hto;refine zp (pU (mw n S a ml c) (xl (ld42 (B0.1) (B1.1) (B2.1))) ?_);refine pS (sc 24 #[mw n S a ml c] ((rmValid_r (r := true) _ _ H e0 B4).mono ?_));rintro e w7 ⟨rfl, hb⟩;refine mv5 hb e0 hE B0 B1 B2 fun e0 hE B0 B1 B2=>?_;have Bi := hb.size;refine ⟨_, rfl, pD (.bool false) (.bool false) ?_⟩;refine pT (iv V) ?_
  by_cases B6 : (V : Int) < (0 : Int)
  ·
   refine pU (.bool true) (ed ((V : Int) < (0 : Int)) (B6)) ?_;refine pD (.bool true) (.bool true) ?_;refine pK ?_;refine pK ?_;refine pK ?_;refine pK ?_;refine pK ?_;refine pT (.bool true) ?_;refine zn (cK [1,2,18] (fun L => ?_));refine zt ?_;refine cw_seq ?_;have hbad : Bdd.accB ((n : Nat) : Int) S N V = false := Bdd.acc_no (fun q => by rw [hetn] at q; omega);refine zp (pT (.bool false) ?_);refine zn (ct_ (qt (zR (.bool false) ?_)));exact ⟨congrArg (fun z => Ending.returned (Value.bool z)) hbad.symm, hE⟩
  ·
   refine pU (.bool false) (en ((V : Int) < (0 : Int)) (B6)) ?_;refine pD (.bool false) (.bool false) ?_;refine pD (iv V) (pw O1 0) ?_;refine pU (iv n) (xl (ld3 (B0.1))) ?_;refine pU (nv (2 ^ n)) (ex_bin rfl (by kernel_rfl) (by kernel_rfl) (bin_shl1 (by omega))) ?_
   by_cases B3 : (V : Int) ≥ ((2 ^ n : Nat) : Int)
   ·
    refine pU (.bool true) (ed ((V : Int) ≥ ((2 ^ n : Nat) : Int)) (B3)) ?_;refine pT (.bool true) ?_;refine zn (cK [1,2,18] (fun L => ?_));refine zt ?_;refine cw_seq ?_;have hbad : Bdd.accB ((n : Nat) : Int) S N V = false := Bdd.acc_no (fun q => by rw [hetn] at q; omega);refine zp (pT (.bool false) ?_);refine zn (ct_ (qt (zR (.bool false) ?_)));exact ⟨congrArg (fun z => Ending.returned (Value.bool z)) hbad.symm, hE⟩
   ·
    refine pU (.bool false) (en ((V : Int) ≥ ((2 ^ n : Nat) : Int)) (B3)) ?_;refine pT (.bool false) ?_;refine zn (cK [1,2,18] (fun L => ?_));refine zf ?_;refine cs_ (zq (cw_seq ?_));obtain ⟨s, rfl⟩ : ∃ j : Nat, V = (j : Int) := ⟨V.toNat, by omega⟩;obtain ⟨y, hy⟩ : ∃ q, Bdd.sem (Bdd.tree S N) (Bdd.bits s) = q := ⟨_, rfl⟩;refine zp (pU (mw n S a ml c) (xl (ld42 (B0.1) (B1.1) (B2.1))) ?_);refine pT (iv s) ?_;refine pS (sc 69 #[mw n S a ml c, iv s] ((walked_r (V := s) (y := y) _ _ H hstr e0 hy).mono ?_));rintro e Bk ⟨rfl, hb⟩;replace hE := hE.trans hb;have B8 := hb.size;refine ⟨_, rfl, ?_⟩;refine pU (.bool y) (ev_bool (show _ = Result.ok (Next.value (Value.bool ((Bdd.accI y : Int) == (-2 : Int)))) _ from by kernel_rfl) (by cases y <;> rfl)) ?_;refine pT (.bool y) ?_;refine zn (ct_ (zR (.bool y) ?_));exact ⟨congrArg (fun z => Ending.returned (Value.bool z)) ((Bdd.acc_is B4 (by rw [hetn]; omega)).trans hy).symm, hE⟩
theorem rmAfter_c (K V : Int) (c : Nat) (w : World) (H : NdsAt w0 a ml N) (e0 : Ext w0 w) : Calls Tryz.prog 28 #[mw E S a ml c, iv K, iv V] w fun e w' => e = .returned (.tuple #[.bool (Bdd.surO (Bdd.aft E S N K V)), .bool (Bdd.canO (Bdd.aft E S N K V)), iv (Bdd.errO (Bdd.aft E S N K V))]) ∧ Ext w w' := by
 have Bw := e0.size;refine calls_cw 70 [(2, iv V), (1, iv K), (0, mw E S a ml c)] Tryz.func28 rfl Tryz.ntmps28 (by kernel_rfl) (by kernel_rfl) (fun L => ?_);have hE := er_ w;refine zc (zp (pS (sw 42 #[iv E, iv S, .slice a ml c] ?_)));intro O1 X2 Bs Br hb hbx;have ⟨B0, B2, B3⟩ := bq3 hbx;refine mv2 hb e0 hE fun e0 hE=>?_;have Bx := hb.size;have C1 := B0.lt;refine pD (.bool false) (.bool false) ?_;refine pT (iv 0) ?_;refine zn (zc (cw_seq ?_));obtain ⟨q9, Bg⟩ : ∃ q, Bdd.validB E S N = q := ⟨_, rfl⟩
 cases q9
 ·
  refine zp (pU (mw E S a ml c) (xl (ld42 (B0.1) (B2.1) (B3.1))) ?_);refine pS (sc 24 #[mw E S a ml c] ((rmValid_r (r := false) _ _ H e0 Bg).mono ?_));rintro e w5 ⟨rfl, hb⟩;refine mv5 hb e0 hE B0 B2 B3 fun e0 hE B0 B2 B3=>?_;have Bz := hb.size;refine ⟨_, rfl, pD (.bool true) (.bool true) ?_⟩;refine pK ?_;refine pK ?_;refine pD (.bool true) (.bool true) ?_;refine pK ?_;refine pK ?_;refine pK ?_;refine pK ?_;refine pD (.bool true) (.bool true) ?_;refine pK ?_;refine pK ?_;refine pD (.bool true) (.bool true) ?_;refine pK ?_;refine pK ?_;refine pK ?_;refine pK ?_;refine pK ?_;refine pT (.bool true) ?_;refine zn (cK [1,2,3,36] (fun L => ?_));refine zt ?_;refine cw_seq ?_;have hbad : Bdd.aft E S N K V = none := Bdd.aft_no (fun q => by rw [Bg] at q; exact absurd q.1 (by decide));refine zp (pD (.bool false) (.bool false) ?_);refine pT (iv 140) ?_;refine zn (ct_ (qt (qw_ret [.bool false, .bool false, iv 140] rfl ⟨(by kernel_rfl), (by kernel_rfl), (by kernel_rfl), trivial⟩ ?_)));exact ⟨Bdd.aft_none hbad, hE⟩
 ·
  have hstr := (Bdd.valid_iff.1 Bg).1;have Bv := hstr.e;obtain ⟨n, rfl⟩ : ∃ n : Nat, E = (n : Int) := ⟨E.toNat, by omega⟩;have Bi : n ≤ 16 := by omega
  have Bp : 2 ^ n ≤ 65536 := Tq (Nat.pow_le_pow_right (n := 2) (by decide) Bi) (by decide);have hpp := Nat.two_pow_pos n;have hetn : (((n : Nat) : Int)).toNat = n := Int.toNat_natCast n;have hto := Bdd.tree_ok hstr;rw [hetn] at hto;refine zp (pU (mw n S a ml c) (xl (ld42 (B0.1) (B2.1) (B3.1))) ?_);refine pS (sc 24 #[mw n S a ml c] ((rmValid_r (r := true) _ _ H e0 Bg).mono ?_));rintro e w7 ⟨rfl, hb⟩;refine mv5 hb e0 hE B0 B2 B3 fun e0 hE B0 B2 B3=>?_;have C0 := hb.size;refine ⟨_, rfl, pD (.bool false) (.bool false) ?_⟩;refine pT (iv K) ?_
  by_cases Bk : (K : Int) < (0 : Int)
  ·
   refine pU (.bool true) (ed ((K : Int) < (0 : Int)) (Bk)) ?_;refine pD (.bool true) (.bool true) ?_;refine pK ?_;refine pK ?_;refine pK ?_;refine pK ?_;refine pD (.bool true) (.bool true) ?_;refine pK ?_;refine pK ?_;refine pD (.bool true) (.bool true) ?_;refine pK ?_;refine pK ?_;refine pK ?_;refine pK ?_;refine pK ?_;refine pT (.bool true) ?_;refine zn (cK [1,2,3,36] (fun L => ?_));refine zt ?_;refine cw_seq ?_;have hbad : Bdd.aft ((n : Nat) : Int) S N K V = none := Bdd.aft_no (fun q => by rw [hetn] at q; omega);refine zp (pD (.bool false) (.bool false) ?_);refine pT (iv 140) ?_;refine zn (ct_ (qt (qw_ret [.bool false, .bool false, iv 140] rfl ⟨(by kernel_rfl), (by kernel_rfl), (by kernel_rfl), trivial⟩ ?_)));exact ⟨Bdd.aft_none hbad, hE⟩
  ·
   refine pU (.bool false) (en ((K : Int) < (0 : Int)) (Bk)) ?_;refine pD (.bool false) (.bool false) ?_;refine pD (iv K) (pw O1 0) ?_;refine pU (iv n) (xl (ld3 (B0.1))) ?_
   by_cases Bc : (K : Int) > ((n : Nat) : Int)
   ·
    refine pU (.bool true) (ed ((K : Int) > ((n : Nat) : Int)) (Bc)) ?_;refine pD (.bool true) (.bool true) ?_;refine pK ?_;refine pK ?_;refine pD (.bool true) (.bool true) ?_;refine pK ?_;refine pK ?_;refine pK ?_;refine pK ?_;refine pK ?_;refine pT (.bool true) ?_;refine zn (cK [1,2,3,36] (fun L => ?_));refine zt ?_;refine cw_seq ?_;have hbad : Bdd.aft ((n : Nat) : Int) S N K V = none := Bdd.aft_no (fun q => by rw [hetn] at q; omega);refine zp (pD (.bool false) (.bool false) ?_);refine pT (iv 140) ?_;refine zn (ct_ (qt (qw_ret [.bool false, .bool false, iv 140] rfl ⟨(by kernel_rfl), (by kernel_rfl), (by kernel_rfl), trivial⟩ ?_)));exact ⟨Bdd.aft_none hbad, hE⟩
   ·
    refine pU (.bool false) (en ((K : Int) > ((n : Nat) : Int)) (Bc)) ?_;refine pD (.bool false) (.bool false) ?_;refine pT (iv V) ?_
    by_cases Be : (V : Int) < (0 : Int)
    ·
     refine pU (.bool true) (ed ((V : Int) < (0 : Int)) (Be)) ?_;refine pD (.bool true) (.bool true) ?_;refine pK ?_;refine pK ?_;refine pK ?_;refine pK ?_;refine pK ?_;refine pT (.bool true) ?_;refine zn (cK [1,2,3,36] (fun L => ?_));refine zt ?_;refine cw_seq ?_;have hbad : Bdd.aft ((n : Nat) : Int) S N K V = none := Bdd.aft_no (fun q => by rw [hetn] at q; omega);refine zp (pD (.bool false) (.bool false) ?_);refine pT (iv 140) ?_;refine zn (ct_ (qt (qw_ret [.bool false, .bool false, iv 140] rfl ⟨(by kernel_rfl), (by kernel_rfl), (by kernel_rfl), trivial⟩ ?_)));exact ⟨Bdd.aft_none hbad, hE⟩
    ·
     refine pU (.bool false) (en ((V : Int) < (0 : Int)) (Be)) ?_;refine pD (.bool false) (.bool false) ?_;refine pD (iv V) (pw O1 0) ?_;refine pU (iv n) (xl (ld3 (B0.1))) ?_;refine pU (nv (2 ^ n)) (ex_bin rfl (by kernel_rfl) (by kernel_rfl) (bin_shl1 (by omega))) ?_
     by_cases Bf : (V : Int) ≥ ((2 ^ n : Nat) : Int)
     ·
      refine pU (.bool true) (ed ((V : Int) ≥ ((2 ^ n : Nat) : Int)) (Bf)) ?_;refine pT (.bool true) ?_;refine zn (cK [1,2,3,36] (fun L => ?_));refine zt ?_;refine cw_seq ?_;have hbad : Bdd.aft ((n : Nat) : Int) S N K V = none := Bdd.aft_no (fun q => by rw [hetn] at q; omega);refine zp (pD (.bool false) (.bool false) ?_);refine pT (iv 140) ?_;refine zn (ct_ (qt (qw_ret [.bool false, .bool false, iv 140] rfl ⟨(by kernel_rfl), (by kernel_rfl), (by kernel_rfl), trivial⟩ ?_)));exact ⟨Bdd.aft_none hbad, hE⟩
     ·
      refine pU (.bool false) (en ((V : Int) ≥ ((2 ^ n : Nat) : Int)) (Bf)) ?_;refine pT (.bool false) ?_;refine zn (cK [1,2,3,36] (fun L => ?_));refine zf ?_;refine cs_ (zq (cw_seq ?_));obtain ⟨s, rfl⟩ : ∃ j : Nat, V = (j : Int) := ⟨V.toNat, by omega⟩;obtain ⟨k, rfl⟩ : ∃ j : Nat, K = (j : Int) := ⟨K.toNat, by omega⟩;have hkn : k ≤ n := by omega
      have hpk := Nat.two_pow_pos k;have Bl : 2 ^ k ≤ 65536 := Tq (Nat.pow_le_pow_right (n := 2) (by decide) (show k ≤ 16 by omega)) (by decide);refine zp (pU (mw n S a ml c) (xl (ld42 (B0.1) (B2.1) (B3.1))) ?_);refine pS (sc 61 #[mw n S a ml c] ((Table_c _ _ H hstr e0).mono ?_));rintro e Bh ⟨Bo, B4, rfl, Ba, hb⟩;refine mv2 hb e0 hE fun e0 hE=>?_;have Bq := hb.size;have B1 := er_ Bh;refine ⟨_, rfl, pT (.slice Bo (2 ^ n) B4) ?_⟩;refine zn (zc (zp (pT (.bool true) ?_)));refine zn (zc (zp (pT (.bool false) ?_)));refine zn (zc (zc (zp (pT (iv 0) ?_))));refine zn (cb_ ?_);have hTBt := Ba;obtain ⟨bt, ot, hat, hbrt, hxt⟩ := hTBt.parts (Nat.two_pow_pos n);obtain rfl := hat;refine cw_loop [1, 2, 9, 10, 11, 12] (fun ws' wr m => ∃ V : Nat, ∃ qs qc : Bool, ws' = [(1, iv k), (2, iv s), (9, sv bt ot (2 ^ n) B4), (10, .bool qs), (11, .bool qc), (12, iv V)] ∧ m = 2 ^ n - V ∧ Bh.heap.size ≤ wr.heap.size ∧ Ext w0 wr ∧ Ext w wr ∧ Ext Bh wr ∧ V ≤ 2 ^ n ∧ qs = Bdd.sureU (Bdd.tree S N) s k V ∧ qc = Bdd.canU (Bdd.tree S N) s k V) (ws0 := [(1, iv k), (2, iv s), (9, sv bt ot (2 ^ n) B4), (10, .bool true), (11, .bool false), (12, iv 0)]) (by kernel_rfl) _ ⟨0, true, false, rfl, rfl, nr_ _, e0, hE, B1, Nat.zero_le _, rfl, rfl⟩ ?_;clear e0 hE B1;rintro C2 L ws Bm ⟨V, qs, qc, rfl, rfl, B6, e0, hE, B1, hV, hqs, hqc⟩
      by_cases hlt : V < 2 ^ n
      ·
       obtain ⟨y, hy⟩ : ∃ q, Bdd.sem (Bdd.tree S N) (Bdd.bits V) = q := ⟨_, rfl⟩;refine zc (zc (zp (pD (iv V) (sv bt ot (2 ^ n) B4) ?_)));refine pT (nv (2 ^ n)) ?_;refine pU (.bool true) (ed (((V : Nat) : Int) < ((2 ^ n : Nat) : Int)) (by omega)) ?_;refine zn (zt ?_);refine cs_ (zq (zc (cb_ ?_)));refine cw_seq ?_;have B7 := er_ Bm
       by_cases hlow : V % 2 ^ k = s % 2 ^ k
       ·
        refine dT (fun w' => True) (trivial) (fun ops Q Bt hb hL hR hK => ?_);refine mv3 hb e0 hE B1 fun e0 hE B1=>?_;have B8 := hb.size;have hS := trivial;refine wW 0 (iv V) 1 (iv k) hR hS ?_;refine wL 2 (nv (2 ^ k)) hR (fun w _ => ex_bin rfl (by kernel_rfl) (by kernel_rfl) (bin_shl1 (by omega))) hS ?_;refine wL 3 (nv (V % 2 ^ k)) hR (fun w _ => ex_bin (a := ((V : Nat) : Int)) (b := ((2 ^ k : Nat) : Int)) rfl (by kernel_rfl) (by kernel_rfl) (bin_rem hpk)) hS ?_;refine wW 4 (iv s) 5 (iv k) hR hS ?_;refine wL 6 (nv (2 ^ k)) hR (fun w _ => ex_bin rfl (by kernel_rfl) (by kernel_rfl) (bin_shl1 (by omega))) hS ?_;refine wL 7 (nv (s % 2 ^ k)) hR (fun w _ => ex_bin (a := ((s : Nat) : Int)) (b := ((2 ^ k : Nat) : Int)) rfl (by kernel_rfl) (by kernel_rfl) (bin_rem hpk)) hS ?_;refine wL 8 (.bool true) hR (fun w _ => ev_eq (show _ = Result.ok (Next.value (Value.bool (((V % 2 ^ k : Nat) : Int) == ((s % 2 ^ k : Nat) : Int)))) _ from by kernel_rfl) (by rw [hlow])) hS ?_;refine we hL hR hK ?_;refine zq (cK [1,2,9,10,11,12,53] (fun L => ?_));refine zt ?_;refine cw_seq ?_;have B5 := hxt V (by omega);rw [Bdd.tb_tab (by omega), hy] at B5
        cases qs
        ·
         refine zp (pD (.bool false) (.bool false) ?_);refine pK ?_;refine pK ?_;refine pK ?_;refine pK ?_;refine pD (.bool false) (.bool false) ?_;refine pl_nil (qw_then ?_)
         cases qc
         ·
          refine zp (pD (.bool false) (.bool false) ?_);refine pD (sv bt ot (2 ^ n) B4) (iv V) ?_;refine pU (pw bt (ot + V)) (xi (sv bt ot (2 ^ n) B4) (iv V) (ix88 (k := V) (by omega))) ?_;refine pU (.bool y) (xl (ld4 ((B1.cell B5)))) ?_;refine pD (.bool y) (.bool y) ?_;refine pl_nil (qw_block (zq (cK [1,2,9,10,11,12] (fun L => ?_))));refine zp (pT (iv V) ?_);refine pU (nv (V + 1)) (ew (by omega) (by omega)) ?_;refine pT (nv (V + 1)) ?_;refine pl_nil (qw_round [1, 2, 9, 10, 11, 12] (ws' := [(1, iv k), (2, iv s), (9, sv bt ot (2 ^ n) B4), (10, .bool false), (11, .bool y), (12, nv (V + 1))]) (by kernel_rfl) _ ?_ ⟨(V + 1), false, y, rfl, rfl, (Tq B6 B8), e0, hE, B1, by omega, (by rw [Bdd.sureU_next, ← hqs, Bdd.lowQ_t hlow, hy]; simp), (by rw [Bdd.canU_next, ← hqc, Bdd.lowQ_t hlow, hy]; simp)⟩);omega
         ·
          refine zp (pD (.bool true) (.bool true) ?_);refine pK ?_;refine pK ?_;refine pK ?_;refine pK ?_;refine pD (.bool true) (.bool true) ?_;refine pl_nil (qw_block (zq (cK [1,2,9,10,11,12] (fun L => ?_))));refine zp (pT (iv V) ?_);refine pU (nv (V + 1)) (ew (by omega) (by omega)) ?_;refine pT (nv (V + 1)) ?_;refine pl_nil (qw_round [1, 2, 9, 10, 11, 12] (ws' := [(1, iv k), (2, iv s), (9, sv bt ot (2 ^ n) B4), (10, .bool false), (11, .bool true), (12, nv (V + 1))]) (by kernel_rfl) _ ?_ ⟨(V + 1), false, true, rfl, rfl, (Tq B6 B8), e0, hE, B1, by omega, (by rw [Bdd.sureU_next, ← hqs, Bdd.lowQ_t hlow, hy]; simp), (by rw [Bdd.canU_next, ← hqc, Bdd.lowQ_t hlow, hy]; simp)⟩);omega
        ·
         refine zp (pD (.bool true) (.bool true) ?_);refine pD (sv bt ot (2 ^ n) B4) (iv V) ?_;refine pU (pw bt (ot + V)) (xi (sv bt ot (2 ^ n) B4) (iv V) (ix88 (k := V) (by omega))) ?_;refine pU (.bool y) (xl (ld4 ((B1.cell B5)))) ?_;refine pD (.bool y) (.bool y) ?_;refine pl_nil (qw_then ?_)
         cases qc
         ·
          refine zp (pD (.bool false) (.bool false) ?_);refine pD (sv bt ot (2 ^ n) B4) (iv V) ?_;refine pU (pw bt (ot + V)) (xi (sv bt ot (2 ^ n) B4) (iv V) (ix88 (k := V) (by omega))) ?_;refine pU (.bool y) (xl (ld4 ((B1.cell B5)))) ?_;refine pD (.bool y) (.bool y) ?_;refine pl_nil (qw_block (zq (cK [1,2,9,10,11,12] (fun L => ?_))));refine zp (pT (iv V) ?_);refine pU (nv (V + 1)) (ew (by omega) (by omega)) ?_;refine pT (nv (V + 1)) ?_;refine pl_nil (qw_round [1, 2, 9, 10, 11, 12] (ws' := [(1, iv k), (2, iv s), (9, sv bt ot (2 ^ n) B4), (10, .bool y), (11, .bool y), (12, nv (V + 1))]) (by kernel_rfl) _ ?_ ⟨(V + 1), y, y, rfl, rfl, (Tq B6 B8), e0, hE, B1, by omega, (by rw [Bdd.sureU_next, ← hqs, Bdd.lowQ_t hlow, hy]; simp), (by rw [Bdd.canU_next, ← hqc, Bdd.lowQ_t hlow, hy]; simp)⟩);omega
         ·
          refine zp (pD (.bool true) (.bool true) ?_);refine pK ?_;refine pK ?_;refine pK ?_;refine pK ?_;refine pD (.bool true) (.bool true) ?_;refine pl_nil (qw_block (zq (cK [1,2,9,10,11,12] (fun L => ?_))));refine zp (pT (iv V) ?_);refine pU (nv (V + 1)) (ew (by omega) (by omega)) ?_;refine pT (nv (V + 1)) ?_;refine pl_nil (qw_round [1, 2, 9, 10, 11, 12] (ws' := [(1, iv k), (2, iv s), (9, sv bt ot (2 ^ n) B4), (10, .bool y), (11, .bool true), (12, nv (V + 1))]) (by kernel_rfl) _ ?_ ⟨(V + 1), y, true, rfl, rfl, (Tq B6 B8), e0, hE, B1, by omega, (by rw [Bdd.sureU_next, ← hqs, Bdd.lowQ_t hlow, hy]; simp), (by rw [Bdd.canU_next, ← hqc, Bdd.lowQ_t hlow, hy]; simp)⟩);omega
       ·
        refine dT (fun w' => True) (trivial) (fun ops Q Bu hb hL hR hK => ?_);refine mv3 hb e0 hE B1 fun e0 hE B1=>?_;have Bj := hb.size;have hS := trivial;refine wW 0 (iv V) 1 (iv k) hR hS ?_;refine wL 2 (nv (2 ^ k)) hR (fun w _ => ex_bin rfl (by kernel_rfl) (by kernel_rfl) (bin_shl1 (by omega))) hS ?_;refine wL 3 (nv (V % 2 ^ k)) hR (fun w _ => ex_bin (a := ((V : Nat) : Int)) (b := ((2 ^ k : Nat) : Int)) rfl (by kernel_rfl) (by kernel_rfl) (bin_rem hpk)) hS ?_;refine wW 4 (iv s) 5 (iv k) hR hS ?_;refine wL 6 (nv (2 ^ k)) hR (fun w _ => ex_bin rfl (by kernel_rfl) (by kernel_rfl) (bin_shl1 (by omega))) hS ?_;refine wL 7 (nv (s % 2 ^ k)) hR (fun w _ => ex_bin (a := ((s : Nat) : Int)) (b := ((2 ^ k : Nat) : Int)) rfl (by kernel_rfl) (by kernel_rfl) (bin_rem hpk)) hS ?_;refine wL 8 (.bool false) hR (fun w _ => ev_neq (show _ = Result.ok (Next.value (Value.bool (((V % 2 ^ k : Nat) : Int) == ((s % 2 ^ k : Nat) : Int)))) _ from by kernel_rfl) (fun q => hlow (Int.ofNat.inj q))) hS ?_;refine we hL hR hK ?_;refine zq (cK [1,2,9,10,11,12,53] (fun L => ?_));refine zf ?_;refine cs_ (qw_block (zq (zp (pT (iv V) ?_))));refine pU (nv (V + 1)) (ew (by omega) (by omega)) ?_;refine pT (nv (V + 1)) ?_;refine pl_nil (qw_round [1, 2, 9, 10, 11, 12] (ws' := [(1, iv k), (2, iv s), (9, sv bt ot (2 ^ n) B4), (10, .bool qs), (11, .bool qc), (12, nv (V + 1))]) (by kernel_rfl) _ ?_ ⟨(V + 1), qs, qc, rfl, rfl, (Tq B6 Bj), e0, hE, B1, by omega, (by rw [Bdd.sureU_next, ← hqs, Bdd.lowQ_f hlow, hy]; simp), (by rw [Bdd.canU_next, ← hqc, Bdd.lowQ_f hlow, hy]; simp)⟩);omega
      ·
       have hVn : V = 2 ^ n := by omega
       refine zc (zc (zp (pD (iv V) (sv bt ot (2 ^ n) B4) ?_)));refine pT (nv (2 ^ n)) ?_;refine pU (.bool false) (en (((V : Nat) : Int) < ((2 ^ n : Nat) : Int)) (by omega)) ?_;refine zn (zf ?_);refine cx_ (qx (qx (qo (zq (zc (zp (pD (.bool qs) (.bool qc) ?_)))))));refine pD (.bool qs) (.bool qc) ?_;refine pT (iv 0) ?_;refine zn (cK [6,7,8] (fun L => ?_));refine ct_ (qw_ret [.bool qs, .bool qc, iv 0] rfl ⟨(by kernel_rfl), (by kernel_rfl), (by kernel_rfl), trivial⟩ ?_);obtain ⟨r1, r2, r3⟩ := Bdd.aft_full Bg hto hkn (by omega) (hVn ▸ hqs) (hVn ▸ hqc);rw [r1, r2, r3];exact ⟨rfl, hE⟩
theorem rmCount_c (c : Nat) (w : World) (H : NdsAt w0 a ml N) (e0 : Ext w0 w) : Calls Tryz.prog 21 #[mw E S a ml c] w fun e w' => e = .returned (.tuple #[iv (cntM E S N), iv (errV E S N)]) ∧ Ext w w' := by
 have Bm := e0.size;refine calls_cw 25 [(0, mw E S a ml c)] Tryz.func21 rfl Tryz.ntmps21 (by kernel_rfl) (by kernel_rfl) (fun L => ?_);have hE := er_ w;refine zc (zp (pS (sw 42 #[iv E, iv S, .slice a ml c] ?_)));intro O1 X2 Bk Bj hb hbx;have ⟨B0, B1, B2⟩ := bq3 hbx;refine mv2 hb e0 hE fun e0 hE=>?_;have Bo := hb.size;have Br := B0.lt;refine pD (iv 0) (iv 0) ?_;refine zn (zc (cw_seq ?_));obtain ⟨q9, B7⟩ : ∃ q, Bdd.validB E S N = q := ⟨_, rfl⟩
 cases q9
 ·
  refine zp (pU (mw E S a ml c) (xl (ld42 (B0.1) (B1.1) (B2.1))) ?_);refine pS (sc 24 #[mw E S a ml c] ((rmValid_r (r := false) _ _ H e0 B7).mono ?_));rintro e w5 ⟨rfl, hb⟩;refine mv5 hb e0 hE B0 B1 B2 fun e0 hE B0 B1 B2=>?_;have Bp := hb.size;refine ⟨_, rfl, pT (.bool true) ?_⟩;refine zn (zt ?_);refine zc (zp (pD (iv 0) (iv 140) ?_));refine zn (ct_ (qt (qw_ret [iv 0, iv 140] rfl ⟨(by kernel_rfl), (by kernel_rfl), trivial⟩ ?_)));have Bf : cntM E S N = 0 := if_neg (by rw [B7]; decide);have Bg : errV E S N = 140 := if_neg (by rw [B7]; decide);rw [Bf, Bg];exact ⟨rfl, hE⟩
 ·
  have hstr := (Bdd.valid_iff.1 B7).1;have Bl := hstr.e;obtain ⟨n, rfl⟩ : ∃ n : Nat, E = (n : Int) := ⟨E.toNat, by omega⟩;have Be : n ≤ 16 := by omega
  have Bh : 2 ^ n ≤ 65536 := Tq (Nat.pow_le_pow_right (n := 2) (by decide) Be) (by decide);have hpp := Nat.two_pow_pos n;have hetn : (((n : Nat) : Int)).toNat = n := Int.toNat_natCast n;have hto := Bdd.tree_ok hstr;rw [hetn] at hto;refine zp (pU (mw n S a ml c) (xl (ld42 (B0.1) (B1.1) (B2.1))) ?_);refine pS (sc 24 #[mw n S a ml c] ((rmValid_r (r := true) _ _ H e0 B7).mono ?_));rintro e w7 ⟨rfl, hb⟩;refine mv5 hb e0 hE B0 B1 B2 fun e0 hE B0 B1 B2=>?_;have Bq := hb.size;refine ⟨_, rfl, pT (.bool false) ?_⟩;refine zn (zf ?_);refine cs_ (zq (zc (zp (pT (iv 0) ?_))));refine zn (zc (zp (pU (mw n S a ml c) (xl (ld42 (B0.1) (B1.1) (B2.1))) ?_)));refine pS (sc 61 #[mw n S a ml c] ((Table_c _ _ H hstr e0).mono ?_));rintro e Bc ⟨a9, B4, rfl, B8, hb⟩;refine mv2 hb e0 hE fun e0 hE=>?_;have Bi := hb.size;have B3 := er_ Bc;refine ⟨_, rfl, pT (.slice a9 (2 ^ n) B4) ?_⟩;refine zn (zc (zc (zp (pT (iv 0) ?_))));refine zn (cb_ ?_);have hTBt := B8;obtain ⟨bt, ot, hat, hbrt, hxt⟩ := hTBt.parts (Nat.two_pow_pos n);obtain rfl := hat;refine cw_loop [4, 5, 6] (fun ws' wr m => ∃ V z : Nat, ws' = [(4, iv z), (5, sv bt ot (2 ^ n) B4), (6, iv V)] ∧ m = 2 ^ n - V ∧ Bc.heap.size ≤ wr.heap.size ∧ Ext w0 wr ∧ Ext w wr ∧ Ext Bc wr ∧ V ≤ 2 ^ n ∧ z = Bdd.cu (Bdd.tree S N) V) (ws0 := [(4, iv 0), (5, sv bt ot (2 ^ n) B4), (6, iv 0)]) (by kernel_rfl) _ ⟨0, 0, rfl, rfl, nr_ _, e0, hE, B3, Nat.zero_le _, rfl⟩ ?_;clear e0 hE B3;rintro Bs L ws Bt ⟨V, z, rfl, rfl, Ba, e0, hE, B3, hV, hz⟩
  by_cases hlt : V < 2 ^ n
  ·
   obtain ⟨y, hy⟩ : ∃ q, Bdd.sem (Bdd.tree S N) (Bdd.bits V) = q := ⟨_, rfl⟩;refine zc (zc (zp (pD (iv V) (sv bt ot (2 ^ n) B4) ?_)));refine pT (nv (2 ^ n)) ?_;refine pU (.bool true) (ed (((V : Nat) : Int) < ((2 ^ n : Nat) : Int)) (by omega)) ?_;refine zn (zt ?_);refine cs_ (zq (zc (cb_ ?_)));refine cw_seq ?_;have hzl := Bdd.cu_le (Bdd.tree S N) V
   cases y
   ·
    have B5 := hxt V (by omega);rw [Bdd.tb_tab (by omega), hy] at B5;refine zp (pD (sv bt ot (2 ^ n) B4) (iv V) ?_);refine pU (pw bt (ot + V)) (xi (sv bt ot (2 ^ n) B4) (iv V) (ix88 (k := V) (by omega))) ?_;refine pU (.bool false) (xl (ld4 ((B3.cell B5)))) ?_;refine zn (zf ?_);refine cs_ (qw_block (zq (zp (pT (iv V) ?_))));refine pU (nv (V + 1)) (ew (by omega) (by omega)) ?_;refine pT (nv (V + 1)) ?_;refine pl_nil (qw_round [4, 5, 6] (ws' := [(4, iv z), (5, sv bt ot (2 ^ n) B4), (6, nv (V + 1))]) (by kernel_rfl) _ ?_ ⟨(V + 1), z, rfl, rfl, Ba, e0, hE, B3, by omega, (by rw [hz]; show _ = Bdd.cu (Bdd.tree S N) V + Bdd.b1 (Bdd.sem (Bdd.tree S N) (Bdd.bits V)); rw [hy]; rfl)⟩);omega
   ·
    have B6 := hxt V (by omega);rw [Bdd.tb_tab (by omega), hy] at B6;refine zp (pD (sv bt ot (2 ^ n) B4) (iv V) ?_);refine pU (pw bt (ot + V)) (xi (sv bt ot (2 ^ n) B4) (iv V) (ix88 (k := V) (by omega))) ?_;refine pU (.bool true) (xl (ld4 ((B3.cell B6)))) ?_;refine zn (zt ?_);refine zp (pT (iv z) ?_);refine pU (nv (z + 1)) (ew (by omega) (by omega)) ?_;refine pT (nv (z + 1)) ?_;refine pl_nil (qw_block (zq (zp (pT (iv V) ?_))));refine pU (nv (V + 1)) (ew (by omega) (by omega)) ?_;refine pT (nv (V + 1)) ?_;refine pl_nil (qw_round [4, 5, 6] (ws' := [(4, nv (z + 1)), (5, sv bt ot (2 ^ n) B4), (6, nv (V + 1))]) (by kernel_rfl) _ ?_ ⟨(V + 1), (z + 1), rfl, rfl, Ba, e0, hE, B3, by omega, (by rw [hz]; show _ = Bdd.cu (Bdd.tree S N) V + Bdd.b1 (Bdd.sem (Bdd.tree S N) (Bdd.bits V)); rw [hy]; rfl)⟩);omega
  ·
   have hVn : V = 2 ^ n := by omega
   refine zc (zc (zp (pD (iv V) (sv bt ot (2 ^ n) B4) ?_)));refine pT (nv (2 ^ n)) ?_;refine pU (.bool false) (en (((V : Nat) : Int) < ((2 ^ n : Nat) : Int)) (by omega)) ?_;refine zn (zf ?_);refine cx_ (qx (qx (qo (zq (zc (zp (pD (iv z) (iv z) ?_)))))));refine pT (iv 0) ?_;refine zn (ct_ (qw_ret [iv z, iv 0] rfl ⟨(by kernel_rfl), (by kernel_rfl), trivial⟩ ?_))
   have Bf : cntM ((n : Nat) : Int) S N = ((z : Nat) : Int) := by
    unfold cntM;rw [if_pos B7, hetn, Bdd.cnt_is hto, hz, hVn]
   have Bg : errV ((n : Nat) : Int) S N = 0 := if_pos B7;rw [Bf, Bg];exact ⟨rfl, hE⟩
theorem rmNeeded_c (c : Nat) (w : World) (H : NdsAt w0 a ml N) (e0 : Ext w0 w) : Calls Tryz.prog 23 #[mw E S a ml c] w fun e w' => e = .returned (.tuple #[iv (needM E S N), iv (errV E S N)]) ∧ Ext w w' := by
 have Bm := e0.size;refine calls_cw 30 [(0, mw E S a ml c)] Tryz.func23 rfl Tryz.ntmps23 (by kernel_rfl) (by kernel_rfl) (fun L => ?_);have hE := er_ w;refine zc (zp (pS (sw 42 #[iv E, iv S, .slice a ml c] ?_)));intro O1 X2 Bk Bj hb hbx;have ⟨B0, B1, B2⟩ := bq3 hbx;refine mv2 hb e0 hE fun e0 hE=>?_;have Bo := hb.size;have Br := B0.lt;refine pD (iv 0) (iv 0) ?_;refine zn (zc (cw_seq ?_));obtain ⟨q9, B7⟩ : ∃ q, Bdd.validB E S N = q := ⟨_, rfl⟩
 cases q9
 ·
  refine zp (pU (mw E S a ml c) (xl (ld42 (B0.1) (B1.1) (B2.1))) ?_);refine pS (sc 24 #[mw E S a ml c] ((rmValid_r (r := false) _ _ H e0 B7).mono ?_));rintro e w5 ⟨rfl, hb⟩;refine mv5 hb e0 hE B0 B1 B2 fun e0 hE B0 B1 B2=>?_;have Bp := hb.size;refine ⟨_, rfl, pT (.bool true) ?_⟩;refine zn (zt ?_);refine zc (zp (pD (iv 0) (iv 140) ?_));refine zn (ct_ (qt (qw_ret [iv 0, iv 140] rfl ⟨(by kernel_rfl), (by kernel_rfl), trivial⟩ ?_)));have Bf : needM E S N = 0 := if_neg (by rw [B7]; decide);have Bg : errV E S N = 140 := if_neg (by rw [B7]; decide);rw [Bf, Bg];exact ⟨rfl, hE⟩
 ·
  have hstr := (Bdd.valid_iff.1 B7).1;have Bl := hstr.e;obtain ⟨n, rfl⟩ : ∃ n : Nat, E = (n : Int) := ⟨E.toNat, by omega⟩;have Be : n ≤ 16 := by omega
  have Bh : 2 ^ n ≤ 65536 := Tq (Nat.pow_le_pow_right (n := 2) (by decide) Be) (by decide);have hpp := Nat.two_pow_pos n;have hetn : (((n : Nat) : Int)).toNat = n := Int.toNat_natCast n;have hto := Bdd.tree_ok hstr;rw [hetn] at hto;refine zp (pU (mw n S a ml c) (xl (ld42 (B0.1) (B1.1) (B2.1))) ?_);refine pS (sc 24 #[mw n S a ml c] ((rmValid_r (r := true) _ _ H e0 B7).mono ?_));rintro e w7 ⟨rfl, hb⟩;refine mv5 hb e0 hE B0 B1 B2 fun e0 hE B0 B1 B2=>?_;have Bq := hb.size;refine ⟨_, rfl, pT (.bool false) ?_⟩;refine zn (zf ?_);refine cs_ (zq (zc (zp (pT (pw O1 0) ?_))));refine pU (iv n) (xl (ld3 (B0.1))) ?_;refine pU (nv (2 ^ n)) (ex_bin rfl (by kernel_rfl) (by kernel_rfl) (bin_shl1 (by omega))) ?_;refine pU (nv (2 ^ n - 1)) (ev_int (ev_wrap (a := ((2 ^ n : Nat) : Int) - 1) (by kernel_rfl) (by omega) (by omega)) (by omega)) ?_;refine pT (nv (2 ^ n - 1)) ?_;refine zn (zc (zp (pU (mw n S a ml c) (xl (ld42 (B0.1) (B1.1) (B2.1))) ?_)));refine pS (sc 61 #[mw n S a ml c] ((Table_c _ _ H hstr e0).mono ?_));rintro e Bc ⟨a9, B4, rfl, B8, hb⟩;refine mv2 hb e0 hE fun e0 hE=>?_;have Bi := hb.size;have B3 := er_ Bc;refine ⟨_, rfl, pT (.slice a9 (2 ^ n) B4) ?_⟩;refine zn (cK [4,5] (fun L => ?_));refine zc (zc (zp (pT (iv 0) ?_)));refine zn (cb_ ?_);have hTBt := B8;obtain ⟨bt, ot, hat, hbrt, hxt⟩ := hTBt.parts (Nat.two_pow_pos n);obtain rfl := hat;refine cw_loop [4, 5, 6] (fun ws' wr m => ∃ V z : Nat, ws' = [(4, iv z), (5, sv bt ot (2 ^ n) B4), (6, iv V)] ∧ m = 2 ^ n - V ∧ Bc.heap.size ≤ wr.heap.size ∧ Ext w0 wr ∧ Ext w wr ∧ Ext Bc wr ∧ V ≤ 2 ^ n ∧ z = Bdd.needU (Bdd.tree S N) n V) (ws0 := [(4, nv (2 ^ n - 1)), (5, sv bt ot (2 ^ n) B4), (6, iv 0)]) (by kernel_rfl) _ ⟨0, (2 ^ n - 1), rfl, rfl, nr_ _, e0, hE, B3, Nat.zero_le _, rfl⟩ ?_;clear e0 hE B3;rintro Bs L ws Bt ⟨V, z, rfl, rfl, Ba, e0, hE, B3, hV, hz⟩
  by_cases hlt : V < 2 ^ n
  ·
   obtain ⟨y, hy⟩ : ∃ q, Bdd.sem (Bdd.tree S N) (Bdd.bits V) = q := ⟨_, rfl⟩;refine zc (zc (zp (pD (iv V) (sv bt ot (2 ^ n) B4) ?_)));refine pT (nv (2 ^ n)) ?_;refine pU (.bool true) (ed (((V : Nat) : Int) < ((2 ^ n : Nat) : Int)) (by omega)) ?_;refine zn (zt ?_);refine cs_ (zq (zc (cb_ ?_)));refine cw_seq ?_;have hzl := Bdd.needU_le (t := (Bdd.tree S N)) (n := n) V
   cases y
   ·
    have B5 := hxt V (by omega);rw [Bdd.tb_tab (by omega), hy] at B5;refine zp (pD (sv bt ot (2 ^ n) B4) (iv V) ?_);refine pU (pw bt (ot + V)) (xi (sv bt ot (2 ^ n) B4) (iv V) (ix88 (k := V) (by omega))) ?_;refine pU (.bool false) (xl (ld4 ((B3.cell B5)))) ?_;refine zn (zf ?_);refine cs_ (qw_block (zq (zp (pT (iv V) ?_))));refine pU (nv (V + 1)) (ew (by omega) (by omega)) ?_;refine pT (nv (V + 1)) ?_;refine pl_nil (qw_round [4, 5, 6] (ws' := [(4, iv z), (5, sv bt ot (2 ^ n) B4), (6, nv (V + 1))]) (by kernel_rfl) _ ?_ ⟨(V + 1), z, rfl, rfl, Ba, e0, hE, B3, by omega, (by rw [hz]; show _ = (if Bdd.sem (Bdd.tree S N) (Bdd.bits V) then Bdd.needU (Bdd.tree S N) n V &&& V else Bdd.needU (Bdd.tree S N) n V); rw [hy]; rfl)⟩);omega
   ·
    have B6 := hxt V (by omega);rw [Bdd.tb_tab (by omega), hy] at B6;refine zp (pD (sv bt ot (2 ^ n) B4) (iv V) ?_);refine pU (pw bt (ot + V)) (xi (sv bt ot (2 ^ n) B4) (iv V) (ix88 (k := V) (by omega))) ?_;refine pU (.bool true) (xl (ld4 ((B3.cell B6)))) ?_;refine zn (zt ?_);refine zp (pD (iv z) (iv V) ?_);refine pU (nv (z &&& V)) (ev_int (show _ = Result.ok (Next.value (Value.int .i64 (bits .and .i64 ((z : Nat) : Int) ((V : Nat) : Int)))) _ from by kernel_rfl) (and_i64 _ _ (by omega) (by omega))) ?_;refine pT (nv (z &&& V)) ?_;refine pl_nil (qw_block (zq (zp (pT (iv V) ?_))));refine pU (nv (V + 1)) (ew (by omega) (by omega)) ?_;refine pT (nv (V + 1)) ?_;refine pl_nil (qw_round [4, 5, 6] (ws' := [(4, nv (z &&& V)), (5, sv bt ot (2 ^ n) B4), (6, nv (V + 1))]) (by kernel_rfl) _ ?_ ⟨(V + 1), (z &&& V), rfl, rfl, Ba, e0, hE, B3, by omega, (by rw [hz]; show _ = (if Bdd.sem (Bdd.tree S N) (Bdd.bits V) then Bdd.needU (Bdd.tree S N) n V &&& V else Bdd.needU (Bdd.tree S N) n V); rw [hy]; rfl)⟩);omega
  ·
   have hVn : V = 2 ^ n := by omega
   refine zc (zc (zp (pD (iv V) (sv bt ot (2 ^ n) B4) ?_)));refine pT (nv (2 ^ n)) ?_;refine pU (.bool false) (en (((V : Nat) : Int) < ((2 ^ n : Nat) : Int)) (by omega)) ?_;refine zn (zf ?_);refine cx_ (qx (qx (qo (zq (zc (zp (pD (iv z) (iv z) ?_)))))));refine pT (iv 0) ?_;refine zn (ct_ (qw_ret [iv z, iv 0] rfl ⟨(by kernel_rfl), (by kernel_rfl), trivial⟩ ?_))
   have Bf : needM ((n : Nat) : Int) S N = ((z : Nat) : Int) := by
    unfold needM;rw [if_pos B7, hetn, ← Bdd.needU_is hto, hz, hVn]
   have Bg : errV ((n : Nat) : Int) S N = 0 := if_pos B7;rw [Bf, Bg];exact ⟨rfl, hE⟩
end Go.Proofs.YtpfajhcdfgpgmaaGreatDoor

namespace Go.Proofs.YtpfajhcdfgpgmaaGreatDoor
open Bdd (cf chpM tree)
open Globe (nth)
variable {w0 : World} {a al : Option Addr} {kl ml : Nat} {N : List Nod} {E S : Int} {l : List Int}
set_option maxRecDepth 1000000
set_option maxHeartbeats 4000000
set_option synthInstance.maxHeartbeats 0
set_option synthInstance.maxSize 9999
open Go.RowKit
namespace Bdd
def chX (o : Option Off) : Int := match o with | some o => ((o.2.2 : Nat) : Int) | none => 0
def chY (o : Option Off) : Int := match o with | some o => ((o.2.1 : Nat) : Int) | none => 0
def chB (o : Option Off) : Bool := match o with | some o => o.1 | none => false
def chZ (o : Option Off) : Int := match o with | some _ => 0 | none => 140
end Bdd
theorem Cheapest_t (c cl : Nat) (w : World) (H : NdsAt w0 a ml N) (HL : IntsAt w0 al l) (hlc : l.length = kl) (hk9 : kl ≤ 1000000000) (e0 : Ext w0 w) : Calls Tryz.prog 25 #[.agg #[.int .i64 E, .int .i64 S, .slice a ml c], .slice al kl cl] w fun e w' => e = .returned (.tuple #[.int .i64 (Bdd.chX (chpM E S N l)), .int .i64 (Bdd.chY (chpM E S N l)), .bool (Bdd.chB (chpM E S N l)), .int .i64 (Bdd.chZ (chpM E S N l))]) ∧ Ext w w' :=
 (Cheapest_c c cl w H HL hlc hk9 e0).mono fun e w' h => by
  obtain ⟨x, y, b, z, rfl, h, hE⟩ := h
  rcases h with ⟨o, ho, rfl, rfl, rfl, rfl⟩ | ⟨ho, rfl, rfl, rfl, rfl⟩ <;> rw [ho] <;> exact ⟨rfl, hE⟩
theorem ex_int9 {P : Program} {ev : Operand → Value} {oi : Oper} {w : World} {x y : Int} (h : (execOp ev oi).run P w = .ok (.value (.int .i64 x)) w) (e : x = y) : (execOp ev oi).run P w = .ok (.value (.int .i64 y)) w := e ▸ h
theorem rmCheapest_t (c cl : Nat) (w : World) (H : NdsAt w0 a ml N) (HL : IntsAt w0 al l) (hlc : l.length = kl) (_hk9 : kl ≤ 1000000000) (e0 : Ext w0 w) : Calls Tryz.prog 26 #[mw E S a ml c, .slice al kl cl] w fun e w' => e = .returned (.tuple #[iv (Bdd.chX (chpM E S N l)), iv (Bdd.chY (chpM E S N l)), .bool (Bdd.chB (chpM E S N l)), iv (Bdd.chZ (chpM E S N l))]) ∧ Ext w w' := by
 have C4 := e0.size;obtain ⟨bc, oc, hac, hbrc, hxc⟩ := HL.parts hlc;refine calls_cw 87 [(1, .slice al kl cl), (0, mw E S a ml c)] Tryz.func26 rfl Tryz.ntmps26 (by kernel_rfl) (by kernel_rfl) (fun L => ?_);have hE := er_ w;refine zc (zp (pS (sw 42 #[iv E, iv S, .slice a ml c] ?_)));intro O1 X2 C1 C0 hb hbx;have ⟨B2, B3, B4⟩ := bq3 hbx;refine mv2 hb e0 hE fun e0 hE=>?_;have C5 := hb.size;have C8 := B2.lt;refine pD (iv 0) (iv 0) ?_;refine pD (.bool false) (iv 0) ?_;refine zn (zc (cw_seq ?_));obtain ⟨q9, Bm⟩ : ∃ q, Bdd.validB E S N = q := ⟨_, rfl⟩
 cases q9
 ·
  refine zp (pU (mw E S a ml c) (xl (ld42 (B2.1) (B3.1) (B4.1))) ?_);refine pS (sc 24 #[mw E S a ml c] ((rmValid_r (r := false) _ _ H e0 Bm).mono ?_));rintro e w5 ⟨rfl, hb⟩;refine mv5 hb e0 hE B2 B3 B4 fun e0 hE B2 B3 B4=>?_;have C6 := hb.size;refine ⟨_, rfl, pD (.bool true) (.bool true) ?_⟩;refine pK ?_;refine pK ?_;refine pK ?_;refine pK ?_;refine pK ?_;refine pT (.bool true) ?_;refine zn (cK [1,2,24] (fun L => ?_));refine zt ?_;refine cw_seq ?_;have hbad : chpM E S N l = none := if_neg (fun q => by rw [Bm] at q; exact absurd q.1 (by decide));refine zp (pD (iv 0) (iv 0) ?_);refine pD (.bool false) (iv 140) ?_;refine zn (ct_ (qt (qw_ret [iv 0, iv 0, .bool false, iv 140] rfl ⟨(by kernel_rfl), (by kernel_rfl), (by kernel_rfl), (by kernel_rfl), trivial⟩ ?_)));rw [hbad];exact ⟨rfl, hE⟩
 ·
  have hstr := (Bdd.valid_iff.1 Bm).1;have C3 := hstr.e;obtain ⟨n, rfl⟩ : ∃ n : Nat, E = (n : Int) := ⟨E.toNat, by omega⟩;have Bq : n ≤ 16 := by omega
  have Bw : 2 ^ n ≤ 65536 := Tq (Nat.pow_le_pow_right (n := 2) (by decide) Bq) (by decide);have hpp := Nat.two_pow_pos n;have hetn : (((n : Nat) : Int)).toNat = n := Int.toNat_natCast n;have hto := Bdd.tree_ok hstr;rw [hetn] at hto;refine zp (pU (mw n S a ml c) (xl (ld42 (B2.1) (B3.1) (B4.1))) ?_);refine pS (sc 24 #[mw n S a ml c] ((rmValid_r (r := true) _ _ H e0 Bm).mono ?_));rintro e w7 ⟨rfl, hb⟩;refine mv5 hb e0 hE B2 B3 B4 fun e0 hE B2 B3 B4=>?_;have C7 := hb.size;refine ⟨_, rfl, pD (.bool false) (.bool false) ?_⟩;refine pD (.slice al kl cl) (iv kl) ?_;refine pT (pw O1 0) ?_;refine pU (iv n) (xl (ld3 (B2.1))) ?_
  by_cases Bt : ((kl : Nat) : Int) = ((n : Nat) : Int)
  ·
   refine pU (.bool false) (ev_nne (show _ = Result.ok (Next.value (Value.bool (((kl : Nat) : Int) != ((n : Nat) : Int)))) _ from by kernel_rfl) (Bt)) ?_;refine pT (.bool false) ?_;refine zn (cK [1,2,24] (fun L => ?_));refine zf ?_;refine cs_ (zq (zc (cw_seq ?_)));have hkn : kl = n := by omega
   refine zp (pT (iv 0) ?_);refine zn (cb_ ?_);have B0 := er_ w7;refine cw_loop [1, 2, 8] (fun ws' wr m => ∃ i : Nat, ws' = [(1, .slice al kl cl), (2, pw O1 0), (8, iv i)] ∧ m = kl - i ∧ w7.heap.size ≤ wr.heap.size ∧ Ext w0 wr ∧ Ext w wr ∧ Ext w7 wr ∧ i ≤ kl ∧ Bdd.badC (l.take i) = false) (ws0 := [(1, .slice al kl cl), (2, pw O1 0), (8, iv 0)]) (by kernel_rfl) _ ⟨0, rfl, rfl, nr_ _, e0, hE, B0, Nat.zero_le _, rfl⟩ ?_;clear e0 hE B0;rintro C9 L ws Cc ⟨i, rfl, rfl, Br, e0, hE, B0, hi, hno⟩
   by_cases hlt : i < kl
   ·
    obtain rfl := hac (by omega);have hbcl := hbrc (by omega);have Bf := hxc i (by omega);refine zc (zc (zp (pD (iv i) (sv bc oc kl cl) ?_)));refine pT (iv kl) ?_;refine pU (.bool true) (ed (((i : Nat) : Int) < ((kl : Nat) : Int)) (by omega)) ?_;refine zn (zt ?_);refine cs_ (zq (zc (cb_ ?_)));refine zc (zp (pD (sv bc oc kl cl) (iv i) ?_));refine pU (pw bc (oc + i)) (xi (sv bc oc kl cl) (iv i) (ix24 (k := i) (by omega))) ?_;refine pU (iv (nth l i)) (xl (ld3 ((e0.cell Bf)))) ?_
    by_cases Bh : (nth l i : Int) < (0 : Int)
    ·
     refine pU (.bool true) (ed ((nth l i : Int) < (0 : Int)) (Bh)) ?_;refine pT (.bool true) ?_;refine pK ?_;refine pK ?_;refine pK ?_;refine pK ?_;refine pK ?_;refine pT (.bool true) ?_;refine zn (cK [1,2,8,42] (fun L => ?_));refine zt ?_;refine cw_seq ?_
     have hbad : chpM ((n : Nat) : Int) S N l = none := if_neg (fun q => by
      have z := Bdd.bad_found (l := l) (i := i) (by omega) (Globe.inB_f.2 (by omega));rw [q.2.2] at z;cases z)
     refine zp (pD (iv 0) (iv 0) ?_);refine pD (.bool false) (iv 140) ?_;refine zn (ct_ (qb (qt (qt (qb (qt (qw_ret [iv 0, iv 0, .bool false, iv 140] rfl ⟨(by kernel_rfl), (by kernel_rfl), (by kernel_rfl), (by kernel_rfl), trivial⟩ ?_)))))));rw [hbad];exact ⟨rfl, hE⟩
    ·
     refine pU (.bool false) (en ((nth l i : Int) < (0 : Int)) (Bh)) ?_;refine pD (.bool false) (sv bc oc kl cl) ?_;refine pT (iv i) ?_;refine pU (pw bc (oc + i)) (xi (sv bc oc kl cl) (iv i) (ix24 (k := i) (by omega))) ?_;refine pU (iv (nth l i)) (xl (ld3 ((e0.cell Bf)))) ?_
     by_cases Bi : (nth l i : Int) > (1000000000 : Int)
     ·
      refine pU (.bool true) (ed ((nth l i : Int) > (1000000000 : Int)) (Bi)) ?_;refine pT (.bool true) ?_;refine zn (cK [1,2,8,42] (fun L => ?_));refine zt ?_;refine cw_seq ?_
      have hbad : chpM ((n : Nat) : Int) S N l = none := if_neg (fun q => by
       have z := Bdd.bad_found (l := l) (i := i) (by omega) (Globe.inB_f.2 (by omega));rw [q.2.2] at z;cases z)
      refine zp (pD (iv 0) (iv 0) ?_);refine pD (.bool false) (iv 140) ?_;refine zn (ct_ (qb (qt (qt (qb (qt (qw_ret [iv 0, iv 0, .bool false, iv 140] rfl ⟨(by kernel_rfl), (by kernel_rfl), (by kernel_rfl), (by kernel_rfl), trivial⟩ ?_)))))));rw [hbad];exact ⟨rfl, hE⟩
     ·
      refine pU (.bool false) (en ((nth l i : Int) > (1000000000 : Int)) (Bi)) ?_;refine pT (.bool false) ?_;refine zn (cK [1,2,8,42] (fun L => ?_));refine zf ?_;refine cs_ (qw_block (zq (zp (pT (iv i) ?_))));refine pU (nv (i + 1)) (ew (by omega) (by omega)) ?_;refine pT (nv (i + 1)) ?_;refine pl_nil (zr [1, 2, 8] _ ?_ ⟨(i + 1), rfl, rfl, Br, e0, hE, B0, by omega, (Bdd.bad_next (by omega) hno (Globe.inB_t.2 (by omega)))⟩);omega
   ·
    have hbd : Bdd.badC l = false := by
     have hil : i = l.length := by omega
     rw [hil, List.take_length] at hno;exact hno
    refine zc (zc (zp (pD (iv i) (.slice al kl cl) ?_)));refine pT (iv kl) ?_;refine pU (.bool false) (en (((i : Nat) : Int) < ((kl : Nat) : Int)) (by omega)) ?_;refine zn (zf ?_);refine cx_ (qx (qx (qo (zq (cw_seq ?_)))));have hcf : ∀ i, i < n → cf l i ≤ 1000000000 := fun i hi => (Bdd.cf_at hbd (by omega)).2
    refine zp (pT (iv 0) ?_);refine zn (zc (zp (pT (iv (-1 : Int)) ?_)));refine zn (zc (zp (pU (mw n S a ml c) (xl (ld42 (B2.c B0) (B3.c B0) (B4.c B0))) ?_)));refine pS (sc 61 #[mw n S a ml c] ((Table_c _ _ H hstr e0).mono ?_));rintro e Bo ⟨Bu, B5, rfl, Bg, hb⟩;refine mv3 hb e0 hE B0 fun e0 hE B0=>?_;have Bz := hb.size;have B1 := er_ Bo;refine ⟨_, rfl, pT (.slice Bu (2 ^ n) B5) ?_⟩;refine zn (zc (zc (zp (pT (iv 0) ?_))));refine zn (cb_ ?_);have hTBt := Bg;obtain ⟨bt, ot, hat, hbrt, hxt⟩ := hTBt.parts (Nat.two_pow_pos n);obtain rfl := hat;refine cw_loop [1, 9, 10, 11, 12] (fun ws' wr m => ∃ V b9 : Nat, ∃ c9 : Int, ws' = [(1, .slice al kl cl), (9, iv b9), (10, iv c9), (11, sv bt ot (2 ^ n) B5), (12, iv V)] ∧ m = 2 ^ n - V ∧ Bo.heap.size ≤ wr.heap.size ∧ Ext w0 wr ∧ Ext w wr ∧ Ext w7 wr ∧ Ext Bo wr ∧ V ≤ 2 ^ n ∧ Bdd.ChU (cf l) (tree S N) n V b9 c9) (ws0 := [(1, .slice al kl cl), (9, iv 0), (10, iv (-1 : Int)), (11, sv bt ot (2 ^ n) B5), (12, iv 0)]) (by kernel_rfl) _ ⟨0, 0, (-1), rfl, rfl, nr_ _, e0, hE, B0, B1, Nat.zero_le _, Bdd.ChU.zero _ _ _⟩ ?_;clear e0 hE B0 B1;rintro Ca L ws Bp ⟨V, b9, c9, rfl, rfl, B8, e0, hE, B0, B1, hV, hch⟩
    by_cases hlt : V < 2 ^ n
    ·
     obtain ⟨y, hy⟩ : ∃ q, Bdd.sem (tree S N) (Bdd.bits V) = q := ⟨_, rfl⟩;refine zc (zc (zp (pD (iv V) (sv bt ot (2 ^ n) B5) ?_)));refine pT (nv (2 ^ n)) ?_;refine pU (.bool true) (ed (((V : Nat) : Int) < ((2 ^ n : Nat) : Int)) (by omega)) ?_;refine zn (zt ?_);refine cs_ (zq (zc (cb_ ?_)));refine zc (cw_seq ?_)
     cases y
     ·
      have Bc := hxt V (by omega);rw [Bdd.tb_tab (by omega), hy] at Bc;refine zp (pD (sv bt ot (2 ^ n) B5) (iv V) ?_);refine pU (pw bt (ot + V)) (xi (sv bt ot (2 ^ n) B5) (iv V) (ix88 (k := V) (by omega))) ?_;refine pU (.bool false) (xl (ld4 ((B1.cell Bc)))) ?_;refine pT (.bool true) ?_;refine zn (zt ?_);refine cx_ (qx (qo (zq (zp (pT (iv V) ?_)))));refine pU (nv (V + 1)) (ew (by omega) (by omega)) ?_;refine pT (nv (V + 1)) ?_;refine pl_nil (zr [1, 9, 10, 11, 12] _ ?_ ⟨(V + 1), b9, c9, rfl, rfl, B8, e0, hE, B0, B1, by omega, (hch.skip hy)⟩);omega
     ·
      have Be := hxt V (by omega);rw [Bdd.tb_tab (by omega), hy] at Be;refine zp (pD (sv bt ot (2 ^ n) B5) (iv V) ?_);refine pU (pw bt (ot + V)) (xi (sv bt ot (2 ^ n) B5) (iv V) (ix88 (k := V) (by omega))) ?_;refine pU (.bool true) (xl (ld4 ((B1.cell Be)))) ?_;refine pT (.bool false) ?_;refine zn (zf ?_);refine cs_ (zq (zc (zp (pT (iv 0) ?_))));refine zn (cK [1,9,10,11,12,13] (fun L => ?_));refine zc (zc (zp (pT (iv 0) ?_)));refine zn (cb_ ?_);have B6 := er_ Bp;refine cw_loop [1, 9, 10, 11, 12, 13, 14] (fun ws' wr m => ∃ j sm : Nat, ws' = [(1, .slice al kl cl), (9, iv b9), (10, iv c9), (11, sv bt ot (2 ^ n) B5), (12, iv V), (13, iv sm), (14, iv j)] ∧ m = kl - j ∧ Bp.heap.size ≤ wr.heap.size ∧ Ext w0 wr ∧ Ext w wr ∧ Ext w7 wr ∧ Ext Bo wr ∧ Ext Bp wr ∧ j ≤ kl ∧ sm = Bdd.sumB (cf l) (Bdd.bits V) j) (ws0 := [(1, .slice al kl cl), (9, iv b9), (10, iv c9), (11, sv bt ot (2 ^ n) B5), (12, iv V), (13, iv 0), (14, iv 0)]) (by kernel_rfl) _ ⟨0, 0, rfl, rfl, nr_ _, e0, hE, B0, B1, B6, Nat.zero_le _, rfl⟩ ?_;clear e0 hE B0 B1 B6;rintro Cb L ws Cd ⟨j, sm, rfl, rfl, Ba, e0, hE, B0, B1, B6, hj, hsm⟩
      by_cases hlt : j < kl
      ·
       obtain rfl := hac (by omega);have hbcl := hbrc (by omega);have B7 := hxc j (by omega);rw [(Bdd.cf_at hbd (i := j) (by omega)).1] at B7;have hcj := (Bdd.cf_at hbd (i := j) (by omega)).2;have hsl := Bdd.sumB_le9 (c := cf l) (s := Bdd.bits V) (n := j) (fun q hq => hcf q (by omega));have hvd : V / 2 ^ j ≤ V := Nat.div_le_self _ _;have Bv := Bdd.b1_is V j;have hbl : Bdd.b1 (Bdd.bits V j) ≤ 1 := by cases Bdd.bits V j <;> decide
       have hml : cf l j * Bdd.b1 (Bdd.bits V j) ≤ cf l j := by cases Bdd.bits V j <;> simp [Bdd.b1]
       obtain ⟨p9, Bl⟩ : ∃ q, q = cf l j * Bdd.b1 (Bdd.bits V j) := ⟨_, rfl⟩;rw [← Bl] at hml;refine zc (zc (zp (pD (iv j) (sv bc oc kl cl) ?_)));refine pT (iv kl) ?_;refine pU (.bool true) (ed (((j : Nat) : Int) < ((kl : Nat) : Int)) (by omega)) ?_;refine zn (zt ?_);refine cs_ (zq (zc (cb_ ?_)));refine dT (fun w' => w'.cell? ⟨bc, oc + j, none⟩ = some (nv (cf l j))) ((e0.cell B7)) (fun ops Q C2 hb hL hR hK => ?_);refine mv5 hb e0 hE B0 B1 B6 fun e0 hE B0 B1 B6=>?_;have Bs := hb.size;have hS := e0.cell B7;refine wW 0 (iv sm) 1 (sv bc oc kl cl) hR hS ?_;refine wV 2 (iv j) hR hS ?_;refine wL 3 (pw bc (oc + j)) hR (fun w _ => ex_index (p := sv bc oc kl cl) (i := iv j) rfl (by kernel_rfl) (by kernel_rfl) (ix24 (k := j) (by omega))) hS ?_;refine wM 4 (nv (cf l j)) hR (fun w hS => ld3 (hS)) hS ?_;refine wW 5 (iv V) 6 (iv j) hR hS ?_;refine wL 7 (nv (V / 2 ^ j)) hR (fun w _ => ex_bin rfl (by kernel_rfl) (by kernel_rfl) (bin_shr (by omega))) hS ?_;refine wL 8 (nv (Bdd.b1 (Bdd.bits V j))) hR (fun w _ => ex_int9 (ex_bin (a := ((V / 2 ^ j : Nat) : Int)) (b := ((2 : Nat) : Int)) rfl (by kernel_rfl) (by kernel_rfl) (bin_rem (by omega))) (congrArg _ Bv)) hS ?_;refine wL 9 (iv p9) hR (fun w _ => ev_int (ev_wrap (a := ((cf l j : Nat) : Int) * ((Bdd.b1 (Bdd.bits V j) : Nat) : Int)) (by kernel_rfl) (by rw [← Int.natCast_mul, ← Bl]; omega) (by rw [← Int.natCast_mul, ← Bl]; omega)) (by rw [← Int.natCast_mul, ← Bl])) hS ?_;refine wL 10 (nv (sm + p9)) hR (fun w _ => ev_wrap (by kernel_rfl) (by omega) (by omega)) hS ?_;refine wV 11 (nv (sm + p9)) hR hS ?_;refine we hL hR hK ?_;refine qw_block (zq (cK [1,9,10,11,12,13,14] (fun L => ?_)));refine zp (pT (iv j) ?_);refine pU (nv (j + 1)) (ew (by omega) (by omega)) ?_;refine pT (nv (j + 1)) ?_;refine pl_nil (qw_round [1, 9, 10, 11, 12, 13, 14] (ws' := [(1, sv bc oc kl cl), (9, iv b9), (10, iv c9), (11, sv bt ot (2 ^ n) B5), (12, iv V), (13, nv (sm + p9)), (14, nv (j + 1))]) (by kernel_rfl) _ ?_ ⟨(j + 1), (sm + p9), rfl, rfl, (Tq Ba Bs), e0, hE, B0, B1, B6, by omega, (by rw [hsm, Bl]; rfl)⟩);omega
      ·
       have hjk : j = n := by omega
       rw [hjk] at hsm;subst hsm;refine zc (zc (zp (pD (iv j) (.slice al kl cl) ?_)));refine pT (iv kl) ?_;refine pU (.bool false) (en (((j : Nat) : Int) < ((kl : Nat) : Int)) (by omega)) ?_;refine zn (zf ?_);refine cx_ (qx (qx (qo (zq (cw_seq ?_)))));have hsl := Bdd.sumB_le9 (c := cf l) (s := Bdd.bits V) (n := n) hcf;refine zp (pT (iv c9) ?_)
       by_cases Bj : (c9 : Int) < (0 : Int)
       ·
        refine pU (.bool true) (ed ((c9 : Int) < (0 : Int)) (Bj)) ?_;refine pT (.bool true) ?_;refine pK ?_;refine pK ?_;refine pK ?_;refine pT (.bool true) ?_;refine zn (cK [1,9,10,11,12,13,79] (fun L => ?_));refine zt ?_;refine zc (zp (pD (iv V) (iv V) ?_));refine zn (zp (pD (nv (Bdd.sumB (cf l) (Bdd.bits V) n)) (nv (Bdd.sumB (cf l) (Bdd.bits V) n)) ?_));refine pl_nil (qw_block (zq (zp (pT (iv V) ?_))));refine pU (nv (V + 1)) (ew (by omega) (by omega)) ?_;refine pT (nv (V + 1)) ?_;refine pl_nil (zr [1, 9, 10, 11, 12] _ ?_ ⟨(V + 1), V, ((Bdd.sumB (cf l) (Bdd.bits V) n : Nat) : Int), rfl, rfl, (Tq B8 Ba), e0, hE, B0, B1, by omega, (hch.take hy (by omega))⟩);omega
       ·
        refine pU (.bool false) (en ((c9 : Int) < (0 : Int)) (Bj)) ?_;refine pD (.bool false) (nv (Bdd.sumB (cf l) (Bdd.bits V) n)) ?_;refine pT (iv c9) ?_
        by_cases Bk : (((Bdd.sumB (cf l) (Bdd.bits V) n : Nat) : Int) : Int) < (c9 : Int)
        ·
         refine pU (.bool true) (ed ((((Bdd.sumB (cf l) (Bdd.bits V) n : Nat) : Int) : Int) < (c9 : Int)) (Bk)) ?_;refine pT (.bool true) ?_;refine zn (cK [1,9,10,11,12,13,79] (fun L => ?_));refine zt ?_;refine zc (zp (pD (iv V) (iv V) ?_));refine zn (zp (pD (nv (Bdd.sumB (cf l) (Bdd.bits V) n)) (nv (Bdd.sumB (cf l) (Bdd.bits V) n)) ?_));refine pl_nil (qw_block (zq (zp (pT (iv V) ?_))));refine pU (nv (V + 1)) (ew (by omega) (by omega)) ?_;refine pT (nv (V + 1)) ?_;refine pl_nil (zr [1, 9, 10, 11, 12] _ ?_ ⟨(V + 1), V, ((Bdd.sumB (cf l) (Bdd.bits V) n : Nat) : Int), rfl, rfl, (Tq B8 Ba), e0, hE, B0, B1, by omega, (hch.take hy (by omega))⟩);omega
        ·
         refine pU (.bool false) (en ((((Bdd.sumB (cf l) (Bdd.bits V) n : Nat) : Int) : Int) < (c9 : Int)) (Bk)) ?_;refine pT (.bool false) ?_;refine zn (cK [1,9,10,11,12,13,79] (fun L => ?_));refine zf ?_;refine cs_ (qw_block (zq (zp (pT (iv V) ?_))));refine pU (nv (V + 1)) (ew (by omega) (by omega)) ?_;refine pT (nv (V + 1)) ?_;refine pl_nil (zr [1, 9, 10, 11, 12] _ ?_ ⟨(V + 1), b9, c9, rfl, rfl, (Tq B8 Ba), e0, hE, B0, B1, by omega, (hch.keep (by omega))⟩);omega
    ·
     have hVn : V = 2 ^ n := by omega
     refine zc (zc (zp (pD (iv V) (sv bt ot (2 ^ n) B5) ?_)));refine pT (nv (2 ^ n)) ?_;refine pU (.bool false) (en (((V : Nat) : Int) < ((2 ^ n : Nat) : Int)) (by omega)) ?_;refine zn (zf ?_);refine cx_ (qx (qx (qo (zq (zc (zp (pD (iv b9) (iv c9) ?_)))))));refine pU (iv (max (c9 : Int) (0 : Int) : Int)) (ev_int (show _ = Result.ok (Next.value (Value.int .i64 (if (c9 : Int) < (0 : Int) then (0 : Int) else (c9 : Int)))) _ from by kernel_rfl) (by split <;> omega)) ?_;refine pT (iv c9) ?_;refine pU (.bool (decide (c9 ≥ 0))) (ev_bool (show _ = Result.ok (Next.value (Value.bool (decide ((c9 : Int) ≥ (0 : Int))))) _ from by kernel_rfl) rfl) ?_;refine pD (iv b9) (iv (max (c9 : Int) (0 : Int) : Int)) ?_;refine pD (.bool (decide (c9 ≥ 0))) (iv 0) ?_;refine zn (cK [4,5,6,7] (fun L => ?_));refine ct_ (qw_ret [iv b9, iv (max (c9 : Int) (0 : Int) : Int), .bool (decide (c9 ≥ 0)), iv 0] rfl ⟨(by kernel_rfl), (by kernel_rfl), (by kernel_rfl), (by kernel_rfl), trivial⟩ ?_);obtain ⟨r1, r2, r3⟩ := (hVn ▸ hch : Bdd.ChU (cf l) (tree S N) n (2 ^ n) b9 c9).done hto;have Bx : chpM ((n : Nat) : Int) S N l = some (Bdd.off (cf l) (tree S N)) := if_pos ⟨Bm, by omega, hbd⟩;rw [Bx, r1, r2];exact ⟨congrArg (fun z => Ending.returned (Value.tuple #[_, _, .bool z, _])) r3, hE⟩
  ·
   refine pU (.bool true) (eM ((kl : Nat) : Int) ((n : Nat) : Int) (Bt)) ?_;refine pT (.bool true) ?_;refine zn (cK [1,2,24] (fun L => ?_));refine zt ?_;refine cw_seq ?_;have hbad : chpM ((n : Nat) : Int) S N l = none := if_neg (fun q => by omega);refine zp (pD (iv 0) (iv 0) ?_);refine pD (.bool false) (iv 140) ?_;refine zn (ct_ (qt (qw_ret [iv 0, iv 0, .bool false, iv 140] rfl ⟨(by kernel_rfl), (by kernel_rfl), (by kernel_rfl), (by kernel_rfl), trivial⟩ ?_)));rw [hbad];exact ⟨rfl, hE⟩
end Go.Proofs.YtpfajhcdfgpgmaaGreatDoor
