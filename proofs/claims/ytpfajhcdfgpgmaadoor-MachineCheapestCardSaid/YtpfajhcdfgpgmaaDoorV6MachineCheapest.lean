/- The statement MachineCheapest: for every input that the row lists, the law returns true, and every argument reads as it read before. -/
import Derived.Test.YtpfajhcdfgpgmaaDoorV5MachineCheapest
import Derived.Test.YtpfajhcdfgpgmaaDoorTie
import Derived.Test.YtpfajhcdfgpgmaaDoorCards
import Derived.ProofKit
import Derived.OpenShut
import Derived.ChangeOld
import Derived.LaidMore
import Derived.Stop.Joined
import Derived.Stop.LaidErr
import Derived.Lib.LaidTab
import Derived.SevenTiedAt
import Derived.Deep.Slices
namespace Go.Proofs.YtpfajhcdfgpgmaaDoor
set_option maxRecDepth 1000000
set_option maxHeartbeats 4000000
set_option synthInstance.maxHeartbeats 0
set_option synthInstance.maxSize 9999
open Go.RowKit
def Tz69_0 : List Row := [(some 11, [3], []), (some 12, [4], []), (some 13, [11, 12], [0, 1]), (some 14, [3], []), (some 15, [14], [3]), (some 16, [15], [4]), (some 17, [16], [5]), (some 18, [17], [6]), (some 19, [5], []), (some 20, [13, 18, 19], [2, 7, 8, 2]), (some 6, [20], [9, 9, 0, 1, 2, 3, 4, 5, 6, 7, 8, 9])]
def Tz69_1 : List Row := [(some 35, [3], []), (some 36, [4], []), (some 37, [36], [1]), (some 38, [37], [2]), (some 39, [38], [3]), (some 40, [3, 5, 4], []), (some 41, [35, 39, 40], [0, 4, 5]), (some 6, [41], [6, 6, 0, 1, 2, 3, 4, 5, 6])]
def Tz69_2 : List Row := [(some 44, [4], []), (some 45, [44], [0]), (some 46, [3], []), (some 47, [46], [2]), (some 48, [47], [3]), (some 49, [48], [4]), (some 50, [49], [5]), (some 51, [3, 5], []), (some 52, [45, 50, 51], [1, 6, 7]), (some 6, [52], [8, 8, 0, 1, 2, 3, 4, 5, 6, 7, 8])]
def Tz69_3 : List Row := [(some 53, [4], []), (some 54, [53], [0]), (some 55, [3], []), (some 56, [55], [2]), (some 57, [56], [3]), (some 58, [57], [4]), (some 59, [58], [5]), (some 60, [3, 5], []), (some 61, [54, 59, 60], [1, 6, 7]), (some 6, [61], [8, 8, 0, 1, 2, 3, 4, 5, 6, 7, 8])]
namespace Evs
def seeT (n : Nat) (l : List Ev) (f : GF) (cnt : Nat → Bdd.D) : Bdd.D := Bdd.foldD true n (.leaf false) ((suited f l).map cnt)
def goalT (n : Nat) (l : List Ev) : Nat → Goal → (Nat → Bdd.D) → Bdd.D
 | 0, _, _ => .leaf false
 | d + 1, g, cnt =>
  if g.f.k = 1 then seeT n l g.f cnt
  else if g.f.k = 4 then goalT n l d (kidN g 0) fun i => Bdd.ap false n (cnt i) (delT n l i g.f.wi l.length)
  else if g.f.k = 5 then Bdd.foldD false n (.leaf true) ((List.range g.kids.length).map fun i => goalT n l d (kidN g i) cnt)
  else Bdd.foldD true n (.leaf false) ((List.range g.kids.length).map fun i => goalT n l d (kidN g i) cnt)
theorem goalT_succ (n : Nat) (l : List Ev) (d : Nat) (g : Goal) (cnt : Nat → Bdd.D) : goalT n l (d + 1) g cnt = (if g.f.k = 1 then seeT n l g.f cnt
  else if g.f.k = 4 then goalT n l d (kidN g 0) fun i => Bdd.ap false n (cnt i) (delT n l i g.f.wi l.length)
  else if g.f.k = 5 then Bdd.foldD false n (.leaf true) ((List.range g.kids.length).map fun i => goalT n l d (kidN g i) cnt)
  else Bdd.foldD true n (.leaf false) ((List.range g.kids.length).map fun i => goalT n l d (kidN g i) cnt)) := rfl
def RG : Nat → Goal → Prop
 | 0, _ => False
 | d + 1, g => g.f.k = 1 ∨ (g.f.k = 4 ∧ 0 < g.kids.length ∧ RG d (kidN g 0)) ∨ ((g.f.k = 5 ∨ g.f.k = 6) ∧ g.kids.length ≤ 4 ∧ ∀ i, i < g.kids.length → RG d (kidN g i))
def qd : Nat → Nat → Nat
 | 0, _ => 0
 | d + 1, q => 16 * (q + 65536) + (qd d (q + cD + 65536) + 4 * (qd d q + 65536))
theorem qd_see {d q : Nat} : 16 * (q + 65536) ≤ qd (d + 1) q := Nat.le_add_right ..
theorem qd_del {d q : Nat} : qd d (q + cD + 65536) ≤ qd (d + 1) q := Tq (Nat.le_add_right ..) (Nat.le_add_left ..)
theorem qd_all {d q k : Nat} (h : k ≤ 4) : k * (qd d q + 65536) ≤ qd (d + 1) q := Tq (Nat.mul_le_mul_right _ h) (Tq (Nat.le_add_left ..) (Nat.le_add_left ..))
theorem suited_len {g : GF} {l : List Ev} (h : eventsB l = true) : (suited g l).length ≤ 16 := Tq (suitUp_len g l l.length) (eventsB_len h)
end Evs
theorem Stp.weak {n0 B K n q r9 : Nat} {v : Value} {T : List Bdd.D} {w w' : World} {t : Bdd.D} {r : Ending} (h : Stp n0 B K n v T w t q r w') (hq : q ≤ r9) : Stp n0 B K n v T w t r9 r w' := by
 obtain ⟨v', T', h1, h2, h3, h4, h5, h6⟩ := h
 exact ⟨v', T', h1, h2, h3, h4, h5, Tq h6 (Nat.add_le_add_left hq _)⟩
theorem goal2_c {n0 B K n : Nat} {v : Value} {T : List Bdd.D} {w0 : World} {C : Nat} {ae : Option Addr} {ml ce : Nat} {l : List Ev} {CB FB q q9 : Nat} {g : Goal} {ar : Option Addr} {nr cr : Nat} {ac : Option Addr} {nc cc : Nat} {ak : Option Addr} {nk ck : Nat} {t9 : Bdd.D} {cnt : Nat → Bdd.D} {fS : FuncId} {xS yS : Array Value} (w : World) (hB : Bld w n0 B K n v T) (H : EvsAt w0 ae ml l) (hv : Evs.eventsB l = true) (hnl : n = ml) (e0 : Ext w0 w) (h0 : w0.heap.size ≤ n0) (hC0 : BoxAt w C 0 (pw B 0)) (hC1 : BoxAt w C 1 (.slice ae ml ce)) (hCX : ¬ BX B K v C) (hCB : BoxAt w CB 0 (pw C 0)) (hFB : BoxAt w FB 0 (.func (.func fS) xS yS)) (hXC : ¬ BX B K v CB) (hXF : ¬ BX B K v FB) (hCn : CntOK n0 B K n ml v w q fS xS yS cnt) (hG : ∀ v' w' T', BS No B K v w v' w' → Bld w' n0 B K n v' T' → T'.length + q9 ≤ 900000000000 → Ext w0 w' → BoxAt w' C 0 (pw B 0) → BoxAt w' C 1 (.slice ae ml ce) → ¬ BX B K v' C → CntOK n0 B K n ml v' w' q fS xS yS cnt → Calls Tryd.prog 47 #[pw C 0, .agg #[iv g.f.k, .slice ar nr cr, iv g.f.sf, iv g.f.st, iv g.f.lo, iv g.f.hi, .bool g.f.cl, iv g.f.dy, iv g.f.tm, iv g.f.wi, .slice ac nc cc, .slice ak nk ck], .func (.func fS) xS yS] w' (Stp n0 B K n v' T' w' t9 q9)) (hT : T.length + q9 ≤ 900000000000) : Calls Tryd.prog 70 #[.agg #[iv g.f.k, .slice ar nr cr, iv g.f.sf, iv g.f.st, iv g.f.lo, iv g.f.hi, .bool g.f.cl, iv g.f.dy, iv g.f.tm, iv g.f.wi, .slice ac nc cc, .slice ak nk ck], pw CB 0, pw FB 0] w (Stp n0 B K n v T w t9 q9) := by
 have Cm := e0.size;have hCl := hC0.lt;have Cc : n ≤ 16 := by have := Evs.eventsB_len hv;have := H.len;omega
 have C0 : BS No B K v w v w := BS.refl _ _ _ _ _;have C1 := hB.lt;have C5 := hB.ge;have Cb := hB.b0.lt;have hlCB := hCB.lt;have hlFB := hFB.lt;refine calls_cw 9 [(2, pw FB 0), (1, pw CB 0), (0, .agg #[iv g.f.k, .slice ar nr cr, iv g.f.sf, iv g.f.st, iv g.f.lo, iv g.f.hi, .bool g.f.cl, iv g.f.dy, iv g.f.tm, iv g.f.wi, .slice ac nc cc, .slice ak nk ck])] Tryd.func70 rfl Tryd.ntmps70 (by kernel_rfl) (by kernel_rfl) (fun L => ?_);have hE := Ext.refl w;refine zc (zp (pS (sw 55 #[iv g.f.k, .slice ar nr cr, iv g.f.sf, iv g.f.st, iv g.f.lo, iv g.f.hi, .bool g.f.cl, iv g.f.dy, iv g.f.tm, iv g.f.wi, .slice ac nc cc, .slice ak nk ck] ?_)));intro O3 X4 C4 Ce hb hbx;have ⟨Bg, Bm, Bo, Bp, Bq, Br, Bs, Bt, Bu, Bv, Bh, Bi⟩ := bq12 hbx;refine mv7 hb e0 hB C0 hC0 hC1 hCB hFB fun e0 hB C0 hC0 hC1 hCB hFB=>?_;have C6 := hb.size;have Cf := Bg.lt;refine pT (iv 0) ?_;refine pl_nil (qw_then ?_);refine cw_seq ?_;have Ck := Ext.refl X4;refine zp (pU (pw C 0) (xl (ld93 (hCB.1))) ?_);refine pU (.agg #[iv g.f.k, .slice ar nr cr, iv g.f.sf, iv g.f.st, iv g.f.lo, iv g.f.hi, .bool g.f.cl, iv g.f.dy, iv g.f.tm, iv g.f.wi, .slice ac nc cc, .slice ak nk ck]) (xl (ld55 (Bg.1) (Bm.1) (Bo.1) (Bp.1) (Bq.1) (Br.1) (Bs.1) (Bt.1) (Bu.1) (Bv.1) (Bh.1) (Bi.1))) ?_;refine pU (.func (.func fS) xS yS) (xl (ld79 (hFB.1))) ?_;have C7 := hB;have Bl := C0;have Bw := hC0;have Bx := hC1;have Bj := hCB;have Bk := hFB;have B1 := Bg;have B2 := Bm;have B3 := Bo;have B4 := Bp;have B5 := Bq;have B6 := Br;have B7 := Bs;have B8 := Bt;have Ba := Bu;have Bc := Bv;have Be := Bh;have Bf := Bi;refine pS (sc 47 #[pw C 0, .agg #[iv g.f.k, .slice ar nr cr, iv g.f.sf, iv g.f.st, iv g.f.lo, iv g.f.hi, .bool g.f.cl, iv g.f.dy, iv g.f.tm, iv g.f.wi, .slice ac nc cc, .slice ak nk ck], .func (.func fS) xS yS] ((hG _ _ _ C0 hB hT e0 hC0 hC1 hCX (hCn.step C0)).mono ?_));rintro e Cn ⟨v8, T9, rfl, B0, Bz, C2, C3, Ca⟩;replace e0 := B0.wr.ext e0 (fun k q => q.elim (fun q => Tq (Tq (Nat.le_refl _) h0) (C5 k q)) (fun q => q.elim));replace Bl := Bl.trans B0;replace Bw := B0.wr.box (fun q => q.elim hCX id) Bw;replace Bx := B0.wr.box (fun q => q.elim hCX id) Bx;replace Bj := B0.wr.box (fun q => q.elim hXC id) Bj;replace Bk := B0.wr.box (fun q => q.elim hXF id) Bk;have q9 := fun ⦃j : Nat⦄ ⦃v : Value⦄ (h : BoxAt _ O3 j v) => B0.wr.box (fun q => q.elim (fun q => absurd (C1 _ q) (Nat.not_lt_of_le (Nat.le_of_eq C4))) id) h
 clear q9;have Cg := B0.nx hCX (Nat.lt_of_lt_of_le hCl C6);have Ch := B0.nx hXC (Nat.lt_of_lt_of_le hlCB C6);have Ci := B0.nx hXF (Nat.lt_of_lt_of_le hlFB C6);have Cj := B0.nx (fun q => absurd (C1 _ q) (Nat.not_lt_of_le (Nat.le_of_eq C4))) (Nat.lt_of_lt_of_le Cf (Nat.le_refl _));have Cd := B0.wr.size;have C9 := Bz.lt;have C8 := Bz.ge;refine ⟨_, rfl, pT (iv (Bdd.ix T9 t9 : Int)) ?_⟩;refine zn (cw_ret (qw_ret [iv (Bdd.ix T9 t9 : Int)] rfl ⟨(by kernel_rfl), trivial⟩ ?_));exact ⟨_, _, rfl, Bl, Bz, C2, C3, by omega⟩
theorem goal3_c {n0 B K n : Nat} {v : Value} {T : List Bdd.D} {w0 : World} {C : Nat} {ae : Option Addr} {ml ce : Nat} {l : List Ev} {CB FB q q9 : Nat} {g : Goal} {ar : Option Addr} {nr cr : Nat} {ac : Option Addr} {nc cc : Nat} {ak : Option Addr} {nk ck : Nat} {t9 : Bdd.D} {cnt : Nat → Bdd.D} {fS : FuncId} {xS yS : Array Value} (w : World) (hB : Bld w n0 B K n v T) (H : EvsAt w0 ae ml l) (hv : Evs.eventsB l = true) (hnl : n = ml) (e0 : Ext w0 w) (h0 : w0.heap.size ≤ n0) (hC0 : BoxAt w C 0 (pw B 0)) (hC1 : BoxAt w C 1 (.slice ae ml ce)) (hCX : ¬ BX B K v C) (hCB : BoxAt w CB 0 (pw C 0)) (hFB : BoxAt w FB 0 (.func (.func fS) xS yS)) (hXC : ¬ BX B K v CB) (hXF : ¬ BX B K v FB) (hCn : CntOK n0 B K n ml v w q fS xS yS cnt) (hG : ∀ v' w' T', BS No B K v w v' w' → Bld w' n0 B K n v' T' → T'.length + q9 ≤ 900000000000 → Ext w0 w' → BoxAt w' C 0 (pw B 0) → BoxAt w' C 1 (.slice ae ml ce) → ¬ BX B K v' C → CntOK n0 B K n ml v' w' q fS xS yS cnt → Calls Tryd.prog 47 #[pw C 0, .agg #[iv g.f.k, .slice ar nr cr, iv g.f.sf, iv g.f.st, iv g.f.lo, iv g.f.hi, .bool g.f.cl, iv g.f.dy, iv g.f.tm, iv g.f.wi, .slice ac nc cc, .slice ak nk ck], .func (.func fS) xS yS] w' (Stp n0 B K n v' T' w' t9 q9)) (hT : T.length + q9 ≤ 900000000000) : Calls Tryd.prog 71 #[.agg #[iv g.f.k, .slice ar nr cr, iv g.f.sf, iv g.f.st, iv g.f.lo, iv g.f.hi, .bool g.f.cl, iv g.f.dy, iv g.f.tm, iv g.f.wi, .slice ac nc cc, .slice ak nk ck], pw CB 0, pw FB 0] w (Stp n0 B K n v T w t9 q9) := by
 have Cm := e0.size;have hCl := hC0.lt;have Cc : n ≤ 16 := by have := Evs.eventsB_len hv;have := H.len;omega
 have C0 : BS No B K v w v w := BS.refl _ _ _ _ _;have C1 := hB.lt;have C5 := hB.ge;have Cb := hB.b0.lt;have hlCB := hCB.lt;have hlFB := hFB.lt;refine calls_cw 9 [(2, pw FB 0), (1, pw CB 0), (0, .agg #[iv g.f.k, .slice ar nr cr, iv g.f.sf, iv g.f.st, iv g.f.lo, iv g.f.hi, .bool g.f.cl, iv g.f.dy, iv g.f.tm, iv g.f.wi, .slice ac nc cc, .slice ak nk ck])] Tryd.func71 rfl Tryd.ntmps71 (by kernel_rfl) (by kernel_rfl) (fun L => ?_);have hE := Ext.refl w;refine zc (zp (pS (sw 55 #[iv g.f.k, .slice ar nr cr, iv g.f.sf, iv g.f.st, iv g.f.lo, iv g.f.hi, .bool g.f.cl, iv g.f.dy, iv g.f.tm, iv g.f.wi, .slice ac nc cc, .slice ak nk ck] ?_)));intro O3 X4 C4 Ce hb hbx;have ⟨Bg, Bm, Bo, Bp, Bq, Br, Bs, Bt, Bu, Bv, Bh, Bi⟩ := bq12 hbx;refine mv7 hb e0 hB C0 hC0 hC1 hCB hFB fun e0 hB C0 hC0 hC1 hCB hFB=>?_;have C6 := hb.size;have Cf := Bg.lt;refine pT (iv 0) ?_;refine pl_nil (qw_then ?_);refine cw_seq ?_;have Ck := Ext.refl X4;refine zp (pU (pw C 0) (xl (ld93 (hCB.1))) ?_);refine pU (.agg #[iv g.f.k, .slice ar nr cr, iv g.f.sf, iv g.f.st, iv g.f.lo, iv g.f.hi, .bool g.f.cl, iv g.f.dy, iv g.f.tm, iv g.f.wi, .slice ac nc cc, .slice ak nk ck]) (xl (ld55 (Bg.1) (Bm.1) (Bo.1) (Bp.1) (Bq.1) (Br.1) (Bs.1) (Bt.1) (Bu.1) (Bv.1) (Bh.1) (Bi.1))) ?_;refine pU (.func (.func fS) xS yS) (xl (ld79 (hFB.1))) ?_;have C7 := hB;have Bl := C0;have Bw := hC0;have Bx := hC1;have Bj := hCB;have Bk := hFB;have B1 := Bg;have B2 := Bm;have B3 := Bo;have B4 := Bp;have B5 := Bq;have B6 := Br;have B7 := Bs;have B8 := Bt;have Ba := Bu;have Bc := Bv;have Be := Bh;have Bf := Bi;refine pS (sc 47 #[pw C 0, .agg #[iv g.f.k, .slice ar nr cr, iv g.f.sf, iv g.f.st, iv g.f.lo, iv g.f.hi, .bool g.f.cl, iv g.f.dy, iv g.f.tm, iv g.f.wi, .slice ac nc cc, .slice ak nk ck], .func (.func fS) xS yS] ((hG _ _ _ C0 hB hT e0 hC0 hC1 hCX (hCn.step C0)).mono ?_));rintro e Cn ⟨v8, T9, rfl, B0, Bz, C2, C3, Ca⟩;replace e0 := B0.wr.ext e0 (fun k q => q.elim (fun q => Tq (Tq (Nat.le_refl _) h0) (C5 k q)) (fun q => q.elim));replace Bl := Bl.trans B0;replace Bw := B0.wr.box (fun q => q.elim hCX id) Bw;replace Bx := B0.wr.box (fun q => q.elim hCX id) Bx;replace Bj := B0.wr.box (fun q => q.elim hXC id) Bj;replace Bk := B0.wr.box (fun q => q.elim hXF id) Bk;have q9 := fun ⦃j : Nat⦄ ⦃v : Value⦄ (h : BoxAt _ O3 j v) => B0.wr.box (fun q => q.elim (fun q => absurd (C1 _ q) (Nat.not_lt_of_le (Nat.le_of_eq C4))) id) h
 clear q9;have Cg := B0.nx hCX (Nat.lt_of_lt_of_le hCl C6);have Ch := B0.nx hXC (Nat.lt_of_lt_of_le hlCB C6);have Ci := B0.nx hXF (Nat.lt_of_lt_of_le hlFB C6);have Cj := B0.nx (fun q => absurd (C1 _ q) (Nat.not_lt_of_le (Nat.le_of_eq C4))) (Nat.lt_of_lt_of_le Cf (Nat.le_refl _));have Cd := B0.wr.size;have C9 := Bz.lt;have C8 := Bz.ge;refine ⟨_, rfl, pT (iv (Bdd.ix T9 t9 : Int)) ?_⟩;refine zn (cw_ret (qw_ret [iv (Bdd.ix T9 t9 : Int)] rfl ⟨(by kernel_rfl), trivial⟩ ?_));exact ⟨_, _, rfl, Bl, Bz, C2, C3, by omega⟩
theorem goal_c {w0 : World} {C : Nat} {ae : Option Addr} {ml ce : Nat} {l : List Ev} {n0 B K n : Nat} (H : EvsAt w0 ae ml l) (hv : Evs.eventsB l = true) (hnl : n = ml) (h0 : w0.heap.size ≤ n0) : ∀ (d q : Nat) (g : Goal) (cnt : Nat → Bdd.D) (fS : FuncId) (xS yS : Array Value) (ar : Option Addr) (nr cr : Nat) (ac : Option Addr) (nc cc : Nat) (ak : Option Addr) (nk ck : Nat) (v : Value) (T : List Bdd.D) (w : World) (_hB : Bld w n0 B K n v T) (_HG : GOp w0 g ⟨ar, nr, cr, ac, nc, cc, ak, nk, ck⟩) (_hr : Evs.RG d g) (_e0 : Ext w0 w) (_hC0 : BoxAt w C 0 (pw B 0)) (_hC1 : BoxAt w C 1 (.slice ae ml ce)) (_hCX : ¬ BX B K v C) (_hCn : CntOK n0 B K n ml v w q fS xS yS cnt) (_hT : T.length + Evs.qd d q ≤ 900000000000), Calls Tryd.prog 47 #[pw C 0, .agg #[iv g.f.k, .slice ar nr cr, iv g.f.sf, iv g.f.st, iv g.f.lo, iv g.f.hi, .bool g.f.cl, iv g.f.dy, iv g.f.tm, iv g.f.wi, .slice ac nc cc, .slice ak nk ck], .func (.func fS) xS yS] w (Stp n0 B K n v T w (Evs.goalT n l d g cnt) (Evs.qd d q)) := by
 intro d
 induction d with
 | zero => intro q g cnt fS xS yS ar nr cr ac nc cc ak nk ck v T w hB HG hr e0 hC0 hC1 hCX hCn hT;exact hr.elim
 | succ d ih =>
  intro q g cnt fS xS yS ar nr cr ac nc cc ak nk ck v T w hB HG hr e0 hC0 hC1 hCX hCn hT;have Dn := e0.size;have hCl := hC0.lt;have Cc : n ≤ 16 := by have := Evs.eventsB_len hv;have := H.len;omega
  have Bl : BS No B K v w v w := BS.refl _ _ _ _ _;have B6 := hB.lt;have C0 := hB.ge;have Dl := hB.b0.lt;obtain ⟨bk, ok, hak, hbk, hxk⟩ := HG.parts';have hkn := HG.kn';have hkm := HG.km';have hll : l.length = ml := H.len;refine calls_cw 62 [(2, .func (.func fS) xS yS), (1, .agg #[iv g.f.k, .slice ar nr cr, iv g.f.sf, iv g.f.st, iv g.f.lo, iv g.f.hi, .bool g.f.cl, iv g.f.dy, iv g.f.tm, iv g.f.wi, .slice ac nc cc, .slice ak nk ck]), (0, pw C 0)] Tryd.func47 rfl Tryd.ntmps47 (by kernel_rfl) (by kernel_rfl) (fun L => ?_);have hE := Ext.refl w;refine zc (zp (pS (sw 93 #[pw C 0] ?_)));intro O3 X4 Br Dt hb hbx;have B1 := bq1 hbx;refine mv5 hb e0 hB Bl hC0 hC1 fun e0 hB Bl hC0 hC1=>?_;have Bm := hb.size;have Cd := B1.lt;refine pS (sw 55 #[iv g.f.k, .slice ar nr cr, iv g.f.sf, iv g.f.st, iv g.f.lo, iv g.f.hi, .bool g.f.cl, iv g.f.dy, iv g.f.tm, iv g.f.wi, .slice ac nc cc, .slice ak nk ck] ?_);intro O7 X8 Bu Du hb hbx;have ⟨B4, B7, B8, Ba, Bc, Be, Bf, Bg, Bh, B5, B3, B0⟩ := bq12 hbx;refine mv6 hb e0 hB Bl hC0 hC1 B1 fun e0 hB Bl hC0 hC1 B1=>?_;have Bp := hb.size;have C5 := B4.lt;refine pS (sw 79 #[.func (.func fS) xS yS] ?_);intro C3 Ef Bk Dh hb hbx;have B2 := bq1 hbx;refine mv16 hb e0 hB Bl hC0 hC1 B1 B4 B7 B8 Ba Bc Be Bf Bg Bh B5 fun e0 hB Bl hC0 hC1 B1 B4 B7 B8 Ba Bc Be Bf Bg Bh B5=>?_;refine mv2 hb B3 B0 fun B3 B0=>?_;have Bj := hb.size;have Bz := B2.lt;refine pT (iv 0) ?_;refine zn (zc (cw_seq ?_));rcases hr with hk | ⟨hk, hkl, Dm⟩ | ⟨hk | hk, Ei, hrk⟩
  ·
   refine zp (pT (pw O7 0) ?_);refine pU (iv g.f.k) (xl (ld3 (B4.1))) ?_;refine zn (cw_block ?_);refine zc (zp (pU (.bool true) (eE (g.f.k : Int) (1 : Int) (by omega)) ?_));refine pT (.bool true) ?_;refine zn (zt ?_);refine cw_seq ?_;have haa := HG.aa';have hsl := Evs.suited_len (g := g.f) hv;obtain ⟨u, hu⟩ : ∃ u, u = q + 65536 := ⟨_, rfl⟩;have hsu : (Evs.suited g.f l).length * u ≤ Evs.qd (d + 1) q := by rw [hu];exact Tq (Nat.mul_le_mul_right _ hsl) Evs.qd_see
   refine dE Tz69_0 (fun w' => w'.cell? ⟨O3, 0, none⟩ = some (pw C 0) ∧ w'.cell? ⟨O7, 0, none⟩ = some (iv g.f.k) ∧ w'.cell? ⟨O7, 1, none⟩ = some (.slice ar nr cr) ∧ w'.cell? ⟨O7, 2, none⟩ = some (iv g.f.sf) ∧ w'.cell? ⟨O7, 3, none⟩ = some (iv g.f.st) ∧ w'.cell? ⟨O7, 4, none⟩ = some (iv g.f.lo) ∧ w'.cell? ⟨O7, 5, none⟩ = some (iv g.f.hi) ∧ w'.cell? ⟨O7, 6, none⟩ = some (.bool g.f.cl) ∧ w'.cell? ⟨O7, 7, none⟩ = some (iv g.f.dy) ∧ w'.cell? ⟨O7, 8, none⟩ = some (iv g.f.tm) ∧ w'.cell? ⟨O7, 9, none⟩ = some (iv g.f.wi) ∧ w'.cell? ⟨O7, 10, none⟩ = some (.slice ac nc cc) ∧ w'.cell? ⟨O7, 11, none⟩ = some (.slice ak nk ck) ∧ w'.cell? ⟨C, 0, none⟩ = some (pw B 0) ∧ w'.cell? ⟨C3, 0, none⟩ = some (.func (.func fS) xS yS)) (⟨B1.1, B4.1, B7.1, B8.1, Ba.1, Bc.1, Be.1, Bf.1, Bg.1, Bh.1, B5.1, B3.1, B0.1, hC0.1, B2.1⟩) (fun ops Q Eg hb hL hR hK => ?_);refine mv16 hb e0 hB Bl hC0 hC1 B1 B4 B7 B8 Ba Bc Be Bf Bg Bh B5 fun e0 hB Bl hC0 hC1 B1 B4 B7 B8 Ba Bc Be Bf Bg Bh B5=>?_;refine mv3 hb B3 B0 B2 fun B3 B0 B2=>?_;have Bv := hb.size;have hS := A15 B1.1 B4.1 B7.1 B8.1 Ba.1 Bc.1 Be.1 Bf.1 Bg.1 Bh.1 B5.1 B3.1 B0.1 hC0.1 B2.1;refine wM 0 (pw C 0) hR (fun w hS => ld93 (hS.1)) hS ?_;refine wM 1 (.agg #[iv g.f.k, .slice ar nr cr, iv g.f.sf, iv g.f.st, iv g.f.lo, iv g.f.hi, .bool g.f.cl, iv g.f.dy, iv g.f.tm, iv g.f.wi, .slice ac nc cc, .slice ak nk ck]) hR (fun w hS => ld55 (hS.2.1) (hS.2.2.1) (hS.2.2.2.1) (hS.2.2.2.2.1) (hS.2.2.2.2.2.1) (hS.2.2.2.2.2.2.1) (hS.2.2.2.2.2.2.2.1) (hS.2.2.2.2.2.2.2.2.1) (hS.2.2.2.2.2.2.2.2.2.1) (hS.2.2.2.2.2.2.2.2.2.2.1) (hS.2.2.2.2.2.2.2.2.2.2.2.1) (hS.2.2.2.2.2.2.2.2.2.2.2.2.1)) hS ?_;refine wM 3 (pw C 0) hR (fun w hS => ld93 (hS.1)) hS ?_;refine wW 4 (pw C 0) 5 (pw C 0) hR hS ?_;refine wM 6 (pw B 0) hR (fun w hS => ld84 (hS.2.2.2.2.2.2.2.2.2.2.2.2.2.1)) hS ?_;refine wV 7 (.func (.func 63) #[pw B 0] #[]) hR hS ?_;refine wM 8 (.func (.func fS) xS yS) hR (fun w hS => ld79 (hS.2.2.2.2.2.2.2.2.2.2.2.2.2.2)) hS ?_;refine wC 2 62 #[pw C 0, .agg #[iv g.f.k, .slice ar nr cr, iv g.f.sf, iv g.f.st, iv g.f.lo, iv g.f.hi, .bool g.f.cl, iv g.f.dy, iv g.f.tm, iv g.f.wi, .slice ac nc cc, .slice ak nk ck]] hR ((suited_c _ haa H (by omega) e0 hC1).mono ?_);rintro e En ⟨Cv, Cz, Dk, rfl, Cb, C1, C6, hb⟩;refine mv16 hb e0 hB Bl hC0 hC1 B1 B4 B7 B8 Ba Bc Be Bf Bg Bh B5 fun e0 hB Bl hC0 hC1 B1 B4 B7 B8 Ba Bc Be Bf Bg Bh B5=>?_;refine mv3 hb B3 B0 B2 fun B3 B0 B2=>?_;have C4 := hb.size;refine ⟨_, rfl, ⟨B1.1, B4.1, B7.1, B8.1, Ba.1, Bc.1, Be.1, Bf.1, Bg.1, Bh.1, B5.1, B3.1, B0.1, hC0.1, B2.1⟩, ?_⟩;refine wC 9 61 #[.slice Cv ((Evs.suited g.f l).length) Cz, iv (-1 : Int), .func (.func 63) #[pw B 0] #[], .func (.func fS) xS yS] hR (((foldI_c (q := q) (l := Evs.suited g.f l) (mm := ml) (cnt := cnt) (t0 := .leaf false) (st := true) _ hB Cb (fun q => absurd (B6 _ q) (Nat.not_lt_of_le (Tq (Tq Bm (Tq Bp (Tq Bj Bv))) C1))) (Nat.lt_of_lt_of_le C6 (Nat.le_refl _)) rfl (by omega) (fun x hx => by have := Evs.suited_lt hx; omega) trivial (nxt_or Cc _ _) (hCn.step Bl) (by rw [← hu]; omega)).mono fun r w' hq9 => hq9.weak (by rw [← hu]; exact hsu)).mono ?_);rintro e Eo ⟨Ej, D5, rfl, Bo, C7, Ck, Cp, Cg⟩;replace e0 := Bo.wr.ext e0 (fun k q => q.elim (fun q => Tq (Tq (Nat.le_refl _) h0) (C0 k q)) (fun q => q.elim));replace Bl := Bl.trans Bo;replace hC0 := Bo.wr.box (fun q => q.elim hCX id) hC0;replace hC1 := Bo.wr.box (fun q => q.elim hCX id) hC1;replace B1 := Bo.wr.box (fun q => q.elim (fun q => absurd (B6 _ q) (Nat.not_lt_of_le (Nat.le_of_eq Br))) id) B1;have q9 := fun ⦃j : Nat⦄ ⦃v : Value⦄ (h : BoxAt _ O7 j v) => Bo.wr.box (fun q => q.elim (fun q => absurd (B6 _ q) (Nat.not_lt_of_le (Tq Bm (Nat.le_of_eq Bu)))) id) h
   replace B4 := q9 B4;replace B7 := q9 B7;replace B8 := q9 B8;replace Ba := q9 Ba;replace Bc := q9 Bc;replace Be := q9 Be;replace Bf := q9 Bf;replace Bg := q9 Bg;replace Bh := q9 Bh;replace B5 := q9 B5;replace B3 := q9 B3;replace B0 := q9 B0;clear q9;replace B2 := Bo.wr.box (fun q => q.elim (fun q => absurd (B6 _ q) (Nat.not_lt_of_le (Tq (Tq Bm Bp) (Nat.le_of_eq Bk)))) id) B2;have Dv := Bo.nx hCX (by omega);have Dw := Bo.nx (fun q => absurd (B6 _ q) (Nat.not_lt_of_le (Tq (Tq Bm Bp) (Nat.le_of_eq Bk)))) (Nat.lt_of_lt_of_le Bz (Tq Bv C4));have Dx := Bo.nx (fun q => absurd (B6 _ q) (Nat.not_lt_of_le (Nat.le_of_eq Br))) (by omega);have Dy := Bo.nx (fun q => absurd (B6 _ q) (Nat.not_lt_of_le (Tq Bm (Nat.le_of_eq Bu)))) (by omega);have Dz := Bo.nx (fun q => absurd (B6 _ q) (Nat.not_lt_of_le (Tq (Tq Bm (Tq Bp (Tq Bj Bv))) C1))) (Nat.lt_of_lt_of_le C6 (Nat.le_refl _));have Do := Bo.wr.size;have Dd := C7.lt;have D9 := C7.ge;have hS := A15 B1.1 B4.1 B7.1 B8.1 Ba.1 Bc.1 Be.1 Bf.1 Bg.1 Bh.1 B5.1 B3.1 B0.1 hC0.1 B2.1;refine ⟨_, rfl, hS, ?_⟩;refine wV 10 (iv (Bdd.ix D5 (Evs.seeT n l g.f cnt) : Int)) hR hS ?_;refine we hL hR hK ?_;refine zq (cK [6] (fun L => ?_));refine cw_ret (qw_block_ret (qw_then_ret (qw_ret [iv (Bdd.ix D5 (Evs.seeT n l g.f cnt) : Int)] rfl ⟨(by kernel_rfl), trivial⟩ ?_)))
   have hgt : Evs.goalT n l (d + 1) g cnt = Evs.seeT n l g.f cnt := by
    rw [Evs.goalT_succ];rw [if_pos hk]
   rw [hgt];exact ⟨_, _, rfl, Bl, C7, Ck, Cp, Cg⟩
  ·
   refine zp (pT (pw O7 0) ?_);refine pU (iv g.f.k) (xl (ld3 (B4.1))) ?_;refine zn (cw_block ?_);refine zc (zp (pU (.bool false) (eN (g.f.k : Int) (1 : Int) (by omega)) ?_));refine pT (.bool false) ?_;refine zn (zf ?_);refine zc (zp (pU (.bool false) (eN (g.f.k : Int) (2 : Int) (by omega)) ?_));refine pT (.bool false) ?_;refine zn (zf ?_);refine zc (zp (pU (.bool false) (eN (g.f.k : Int) (3 : Int) (by omega)) ?_));refine pT (.bool false) ?_;refine zn (cK [3,4,5,8,27] (fun L => ?_));refine zf ?_;refine zc (zp (pU (.bool true) (eE (g.f.k : Int) (4 : Int) (by omega)) ?_));refine pT (.bool true) ?_;refine zn (zt ?_);refine cw_seq ?_;obtain rfl := hak (by omega);have hbkl := hbk (by omega);obtain ⟨Cw, D4, D0, Ct, D2, Cx, Cu, D3, Cy, Bi, D1⟩ := hxk 0 (by omega);have hqd := Evs.qd_del (d := d) (q := q);refine dE Tz69_1 (fun w' => w'.cell? ⟨O3, 0, none⟩ = some (pw C 0) ∧ w'.cell? ⟨O7, 11, none⟩ = some (sv bk ok nk ck) ∧ w'.cell? ⟨bk, ok, none⟩ = some (iv ((kidN g 0).f.k : Int)) ∧ w'.cell? ⟨bk, ok + 1, none⟩ = some (.slice Cw D4 D0) ∧ w'.cell? ⟨bk, ok + 2, none⟩ = some (iv ((kidN g 0).f.sf : Int)) ∧ w'.cell? ⟨bk, ok + 3, none⟩ = some (iv ((kidN g 0).f.st : Int)) ∧ w'.cell? ⟨bk, ok + 4, none⟩ = some (iv ((kidN g 0).f.lo : Int)) ∧ w'.cell? ⟨bk, ok + 5, none⟩ = some (iv ((kidN g 0).f.hi : Int)) ∧ w'.cell? ⟨bk, ok + 6, none⟩ = some (.bool ((kidN g 0).f.cl)) ∧ w'.cell? ⟨bk, ok + 7, none⟩ = some (iv ((kidN g 0).f.dy : Int)) ∧ w'.cell? ⟨bk, ok + 8, none⟩ = some (iv ((kidN g 0).f.tm : Int)) ∧ w'.cell? ⟨bk, ok + 9, none⟩ = some (iv ((kidN g 0).f.wi : Int)) ∧ w'.cell? ⟨bk, ok + 10, none⟩ = some (.slice Ct D2 Cx) ∧ w'.cell? ⟨bk, ok + 11, none⟩ = some (.slice Cu D3 Cy)) (⟨B1.1, B0.1, (e0.cell Bi.c0), (e0.cell Bi.c1'), (e0.cell Bi.c2), (e0.cell Bi.c3), (e0.cell Bi.c4), (e0.cell Bi.c5), (e0.cell Bi.c6), (e0.cell Bi.c7), (e0.cell Bi.c8), (e0.cell Bi.c9), (e0.cell Bi.c10'), (e0.cell Bi.c11')⟩) (fun ops Q Eh hb hL hR hK => ?_);refine mv9 hb e0 hB Bl hC0 hC1 B1 B4 B5 B0 fun e0 hB Bl hC0 hC1 B1 B4 B5 B0=>?_;replace B2 := B2.x hb;have C2 := hb.size;have hS := A14 B1.1 B0.1 (e0.cell Bi.c0) (e0.cell Bi.c1') (e0.cell Bi.c2) (e0.cell Bi.c3) (e0.cell Bi.c4) (e0.cell Bi.c5) (e0.cell Bi.c6) (e0.cell Bi.c7) (e0.cell Bi.c8) (e0.cell Bi.c9) (e0.cell Bi.c10') (e0.cell Bi.c11');refine wM 0 (pw C 0) hR (fun w hS => ld93 (hS.1)) hS ?_;refine wV 1 (pw O7 11) hR hS ?_;refine wM 2 (sv bk ok nk ck) hR (fun w hS => ld53 (hS.2.1)) hS ?_;refine wL 3 (pw bk ok) hR (fun w _ => ex_index (p := sv bk ok nk ck) (i := iv ((0 : Nat) : Int)) rfl (by kernel_rfl) (by kernel_rfl) (ix53 (k := 0) (by omega))) hS ?_;refine wM 4 (.agg #[iv ((kidN g 0).f.k : Int), .slice Cw D4 D0, iv ((kidN g 0).f.sf : Int), iv ((kidN g 0).f.st : Int), iv ((kidN g 0).f.lo : Int), iv ((kidN g 0).f.hi : Int), .bool ((kidN g 0).f.cl), iv ((kidN g 0).f.dy : Int), iv ((kidN g 0).f.tm : Int), iv ((kidN g 0).f.wi : Int), .slice Ct D2 Cx, .slice Cu D3 Cy]) hR (fun w hS => ld55 (hS.2.2.1) (hS.2.2.2.1) (hS.2.2.2.2.1) (hS.2.2.2.2.2.1) (hS.2.2.2.2.2.2.1) (hS.2.2.2.2.2.2.2.1) (hS.2.2.2.2.2.2.2.2.1) (hS.2.2.2.2.2.2.2.2.2.1) (hS.2.2.2.2.2.2.2.2.2.2.1) (hS.2.2.2.2.2.2.2.2.2.2.2.1) (hS.2.2.2.2.2.2.2.2.2.2.2.2.1) (hS.2.2.2.2.2.2.2.2.2.2.2.2.2)) hS ?_;refine wV 5 (.func (.func 66) #[] #[pw O3 0, pw C3 0, pw O7 0]) hR hS ?_;refine wC 6 47 #[pw C 0, .agg #[iv ((kidN g 0).f.k : Int), .slice Cw D4 D0, iv ((kidN g 0).f.sf : Int), iv ((kidN g 0).f.st : Int), iv ((kidN g 0).f.lo : Int), iv ((kidN g 0).f.hi : Int), .bool ((kidN g 0).f.cl), iv ((kidN g 0).f.dy : Int), iv ((kidN g 0).f.tm : Int), iv ((kidN g 0).f.wi : Int), .slice Ct D2 Cx, .slice Cu D3 Cy], .func (.func 66) #[] #[pw O3 0, pw C3 0, pw O7 0]] hR (((ih (q + cD + 65536) (kidN g 0) _ _ _ _ _ _ _ _ _ _ _ _ _ _ _ _ hB D1 Dm e0 hC0 hC1 hCX (cnt_del (ce := ce) _ hB H hv hnl e0 h0 hC0 hC1 hCX B1 B2 B5 (fun q => absurd (B6 _ q) (Nat.not_lt_of_le (Nat.le_of_eq Br))) (fun q => absurd (B6 _ q) (Nat.not_lt_of_le (Tq (Tq Bm Bp) (Nat.le_of_eq Bk)))) (fun q => absurd (B6 _ q) (Nat.not_lt_of_le (Tq Bm (Nat.le_of_eq Bu)))) (hCn.step Bl) (Nat.le_refl _)) (by omega)).mono fun r w' hq9 => hq9.weak hqd).mono ?_);rintro e Ep ⟨Ek, D6, rfl, Bq, C8, Cm, Cq, Ch⟩;replace e0 := Bq.wr.ext e0 (fun k q => q.elim (fun q => Tq (Tq (Nat.le_refl _) h0) (C0 k q)) (fun q => q.elim));replace Bl := Bl.trans Bq;replace hC0 := Bq.wr.box (fun q => q.elim hCX id) hC0;replace hC1 := Bq.wr.box (fun q => q.elim hCX id) hC1;replace B1 := Bq.wr.box (fun q => q.elim (fun q => absurd (B6 _ q) (Nat.not_lt_of_le (Nat.le_of_eq Br))) id) B1;have q9 := fun ⦃j : Nat⦄ ⦃v : Value⦄ (h : BoxAt _ O7 j v) => Bq.wr.box (fun q => q.elim (fun q => absurd (B6 _ q) (Nat.not_lt_of_le (Tq Bm (Nat.le_of_eq Bu)))) id) h
   replace B4 := q9 B4;replace B0 := q9 B0;clear q9;replace B2 := Bq.wr.box (fun q => q.elim (fun q => absurd (B6 _ q) (Nat.not_lt_of_le (Tq (Tq Bm Bp) (Nat.le_of_eq Bk)))) id) B2;have E0 := Bq.nx hCX (by omega);have E3 := Bq.nx (fun q => absurd (B6 _ q) (Nat.not_lt_of_le (Tq (Tq Bm Bp) (Nat.le_of_eq Bk)))) (Nat.lt_of_lt_of_le Bz C2);have E4 := Bq.nx (fun q => absurd (B6 _ q) (Nat.not_lt_of_le (Nat.le_of_eq Br))) (by omega);have E5 := Bq.nx (fun q => absurd (B6 _ q) (Nat.not_lt_of_le (Tq Bm (Nat.le_of_eq Bu)))) (Nat.lt_of_lt_of_le C5 (Tq Bj C2));have E6 := Bq.nx (fun q => absurd (C0 _ q) (Nat.not_le_of_lt (Nat.lt_of_lt_of_le (by omega) h0))) (by omega);have Dp := Bq.wr.size;have De := C8.lt;have Da := C8.ge;have hS := A14 B1.1 B0.1 (e0.cell Bi.c0) (e0.cell Bi.c1') (e0.cell Bi.c2) (e0.cell Bi.c3) (e0.cell Bi.c4) (e0.cell Bi.c5) (e0.cell Bi.c6) (e0.cell Bi.c7) (e0.cell Bi.c8) (e0.cell Bi.c9) (e0.cell Bi.c10') (e0.cell Bi.c11');refine ⟨_, rfl, hS, ?_⟩;refine wV 7 (iv (Bdd.ix D6 (Evs.goalT n l d (kidN g 0) (fun i => Bdd.ap false n (cnt i) (Evs.delT n l i g.f.wi ml))) : Int)) hR hS ?_;refine we hL hR hK ?_;refine zq (cK [6] (fun L => ?_));refine cw_ret (qw_block_ret (qw_then_ret (qw_ret [iv (Bdd.ix D6 (Evs.goalT n l d (kidN g 0) (fun i => Bdd.ap false n (cnt i) (Evs.delT n l i g.f.wi ml))) : Int)] rfl ⟨(by kernel_rfl), trivial⟩ ?_)))
   have hgt : Evs.goalT n l (d + 1) g cnt = Evs.goalT n l d (kidN g 0) (fun i => Bdd.ap false n (cnt i) (Evs.delT n l i g.f.wi ml)) := by
    rw [Evs.goalT_succ];rw [if_neg (by omega), if_pos hk, hll]
   rw [hgt];exact ⟨_, _, rfl, Bl, C8, Cm, Cq, Ch⟩
  ·
   refine zp (pT (pw O7 0) ?_);refine pU (iv g.f.k) (xl (ld3 (B4.1))) ?_;refine zn (cw_block ?_);refine zc (zp (pU (.bool false) (eN (g.f.k : Int) (1 : Int) (by omega)) ?_));refine pT (.bool false) ?_;refine zn (zf ?_);refine zc (zp (pU (.bool false) (eN (g.f.k : Int) (2 : Int) (by omega)) ?_));refine pT (.bool false) ?_;refine zn (zf ?_);refine zc (zp (pU (.bool false) (eN (g.f.k : Int) (3 : Int) (by omega)) ?_));refine pT (.bool false) ?_;refine zn (cK [3,4,5,8,27] (fun L => ?_));refine zf ?_;refine zc (zp (pU (.bool false) (eN (g.f.k : Int) (4 : Int) (by omega)) ?_));refine pT (.bool false) ?_;refine zn (zf ?_);refine zc (zp (pU (.bool true) (eE (g.f.k : Int) (5 : Int) (by omega)) ?_));refine pT (.bool true) ?_;refine zn (zt ?_);refine cw_seq ?_;have hqd := Evs.qd_all (d := d) (q := q) (k := nk) (by omega);obtain ⟨u, hu⟩ : ∃ u, u = nk * (Evs.qd d q + 65536) := ⟨_, rfl⟩;rw [← hu] at hqd;refine dE Tz69_2 (fun w' => w'.cell? ⟨O7, 11, none⟩ = some (.slice ak nk ck) ∧ w'.cell? ⟨O3, 0, none⟩ = some (pw C 0) ∧ w'.cell? ⟨C, 0, none⟩ = some (pw B 0)) (⟨B0.1, B1.1, hC0.1⟩) (fun ops Q Di hb hL hR hK => ?_);refine mv9 hb e0 hB Bl hC0 hC1 B1 B4 B0 B2 fun e0 hB Bl hC0 hC1 B1 B4 B0 B2=>?_;have Bw := hb.size;have hS := A3 B0.1 B1.1 hC0.1;refine wV 0 (pw O7 11) hR hS ?_;refine wM 1 (.slice ak nk ck) hR (fun w hS => ld53 (hS.1)) hS ?_;refine wM 2 (pw C 0) hR (fun w hS => ld93 (hS.2.1)) hS ?_;refine wW 3 (pw C 0) 4 (pw C 0) hR hS ?_;refine wM 5 (pw B 0) hR (fun w hS => ld84 (hS.2.2)) hS ?_;refine wW 6 (.func (.func 67) #[pw B 0] #[]) 7 (.func (.func 70) #[] #[pw O3 0, pw C3 0]) hR hS ?_;have hqs := Evs.qd_all (d := d) (q := q) (k := 1) (by omega);have Ce : GntOK w0 n0 B K n v Di (Evs.qd d q) 70 #[] #[pw O3 0, pw C3 0] g (fun i => Evs.goalT n l d (kidN g i) cnt) := ⟨fun _ _ => by kernel_rfl, fun v' w' T' b9 hB9 hT9 e9 i hi9 ar9 nr9 cr9 ac9 nc9 cc9 ak9 nk9 ck9 hG9 => goal2_c (ce := ce) (g := kidN g i) w' hB9 H hv hnl e9 h0 (b9.wr.box (fun q => q.elim hCX id) hC0) (b9.wr.box (fun q => q.elim hCX id) hC1) (b9.nx hCX (by omega)) (b9.wr.box (fun q => q.elim (fun q => absurd (B6 _ q) (Nat.not_lt_of_le (Nat.le_of_eq Br))) id) B1) (b9.wr.box (fun q => q.elim (fun q => absurd (B6 _ q) (Nat.not_lt_of_le (Tq (Tq Bm Bp) (Nat.le_of_eq Bk)))) id) B2) (b9.nx (fun q => absurd (B6 _ q) (Nat.not_lt_of_le (Nat.le_of_eq Br))) (by omega)) (b9.nx (fun q => absurd (B6 _ q) (Nat.not_lt_of_le (Tq (Tq Bm Bp) (Nat.le_of_eq Bk)))) (Nat.lt_of_lt_of_le Bz Bw)) ((hCn.step Bl).step b9) (fun v'' w'' T'' b8 hB8 hT8 e8 c0 c1 cx hS8 => ih q (kidN g i) cnt fS xS yS ar9 nr9 cr9 ac9 nc9 cc9 ak9 nk9 ck9 v'' T'' w'' hB8 hG9 (hrk i hi9) e8 c0 c1 cx hS8 hT8) hT9⟩;refine wC 8 69 #[.slice ak nk ck, iv (-2 : Int), .func (.func 67) #[pw B 0] #[], .func (.func 70) #[] #[pw O3 0, pw C3 0]] hR (((foldG_c (q := Evs.qd d q) (t0 := .leaf true) (st := false) _ hB HG e0 h0 trivial (nxt_and Cc _ _) Ce (by rw [← hu]; omega)).mono fun r w' hq9 => hq9.weak (by rw [← hu]; exact hqd)).mono ?_);rintro e Er ⟨El, D7, rfl, Bs, C9, Cn, Cr, Ci⟩;replace e0 := Bs.wr.ext e0 (fun k q => q.elim (fun q => Tq (Tq (Nat.le_refl _) h0) (C0 k q)) (fun q => q.elim));replace Bl := Bl.trans Bs;replace hC0 := Bs.wr.box (fun q => q.elim hCX id) hC0;replace hC1 := Bs.wr.box (fun q => q.elim hCX id) hC1;replace B1 := Bs.wr.box (fun q => q.elim (fun q => absurd (B6 _ q) (Nat.not_lt_of_le (Nat.le_of_eq Br))) id) B1;have q9 := fun ⦃j : Nat⦄ ⦃v : Value⦄ (h : BoxAt _ O7 j v) => Bs.wr.box (fun q => q.elim (fun q => absurd (B6 _ q) (Nat.not_lt_of_le (Tq Bm (Nat.le_of_eq Bu)))) id) h
   replace B4 := q9 B4;replace B0 := q9 B0;clear q9;replace B2 := Bs.wr.box (fun q => q.elim (fun q => absurd (B6 _ q) (Nat.not_lt_of_le (Tq (Tq Bm Bp) (Nat.le_of_eq Bk)))) id) B2;have E7 := Bs.nx hCX (by omega);have E8 := Bs.nx (fun q => absurd (B6 _ q) (Nat.not_lt_of_le (Tq (Tq Bm Bp) (Nat.le_of_eq Bk)))) (Nat.lt_of_lt_of_le Bz Bw);have E9 := Bs.nx (fun q => absurd (B6 _ q) (Nat.not_lt_of_le (Nat.le_of_eq Br))) (by omega);have Ea := Bs.nx (fun q => absurd (B6 _ q) (Nat.not_lt_of_le (Tq Bm (Nat.le_of_eq Bu)))) (Nat.lt_of_lt_of_le C5 (Tq Bj Bw));have Dq := Bs.wr.size;have Df := C9.lt;have Db := C9.ge;have hS := A3 B0.1 B1.1 hC0.1;refine ⟨_, rfl, hS, ?_⟩;refine wV 9 (iv (Bdd.ix D7 (Bdd.foldD false n (.leaf true) ((List.range nk).map fun i => Evs.goalT n l d (kidN g i) cnt)) : Int)) hR hS ?_;refine we hL hR hK ?_;refine zq (cK [6] (fun L => ?_));refine cw_ret (qw_block_ret (qw_then_ret (qw_ret [iv (Bdd.ix D7 (Bdd.foldD false n (.leaf true) ((List.range nk).map fun i => Evs.goalT n l d (kidN g i) cnt)) : Int)] rfl ⟨(by kernel_rfl), trivial⟩ ?_)))
   have hgt : Evs.goalT n l (d + 1) g cnt = Bdd.foldD false n (.leaf true) ((List.range nk).map fun i => Evs.goalT n l d (kidN g i) cnt) := by
    rw [Evs.goalT_succ];rw [if_neg (by omega), if_neg (by omega), if_pos hk, hkn]
   rw [hgt];exact ⟨_, _, rfl, Bl, C9, Cn, Cr, Ci⟩
  ·
   refine zp (pT (pw O7 0) ?_);refine pU (iv g.f.k) (xl (ld3 (B4.1))) ?_;refine zn (cw_block ?_);refine zc (zp (pU (.bool false) (eN (g.f.k : Int) (1 : Int) (by omega)) ?_));refine pT (.bool false) ?_;refine zn (zf ?_);refine zc (zp (pU (.bool false) (eN (g.f.k : Int) (2 : Int) (by omega)) ?_));refine pT (.bool false) ?_;refine zn (zf ?_);refine zc (zp (pU (.bool false) (eN (g.f.k : Int) (3 : Int) (by omega)) ?_));refine pT (.bool false) ?_;refine zn (cK [3,4,5,8,27] (fun L => ?_));refine zf ?_;refine zc (zp (pU (.bool false) (eN (g.f.k : Int) (4 : Int) (by omega)) ?_));refine pT (.bool false) ?_;refine zn (zf ?_);refine zc (zp (pU (.bool false) (eN (g.f.k : Int) (5 : Int) (by omega)) ?_));refine pT (.bool false) ?_;refine zn (zf ?_);refine cw_skip (qw_block (zq (cw_seq ?_)));have hqd := Evs.qd_all (d := d) (q := q) (k := nk) (by omega);obtain ⟨u, hu⟩ : ∃ u, u = nk * (Evs.qd d q + 65536) := ⟨_, rfl⟩;rw [← hu] at hqd;refine dE Tz69_3 (fun w' => w'.cell? ⟨O7, 11, none⟩ = some (.slice ak nk ck) ∧ w'.cell? ⟨O3, 0, none⟩ = some (pw C 0) ∧ w'.cell? ⟨C, 0, none⟩ = some (pw B 0)) (⟨B0.1, B1.1, hC0.1⟩) (fun ops Q Dj hb hL hR hK => ?_);refine mv7 hb e0 hB Bl hC0 hC1 B1 B0 fun e0 hB Bl hC0 hC1 B1 B0=>?_;replace B2 := B2.x hb;have Bx := hb.size;have hS := A3 B0.1 B1.1 hC0.1;refine wV 0 (pw O7 11) hR hS ?_;refine wM 1 (.slice ak nk ck) hR (fun w hS => ld53 (hS.1)) hS ?_;refine wM 2 (pw C 0) hR (fun w hS => ld93 (hS.2.1)) hS ?_;refine wW 3 (pw C 0) 4 (pw C 0) hR hS ?_;refine wM 5 (pw B 0) hR (fun w hS => ld84 (hS.2.2)) hS ?_;refine wW 6 (.func (.func 63) #[pw B 0] #[]) 7 (.func (.func 71) #[] #[pw O3 0, pw C3 0]) hR hS ?_;have hqs := Evs.qd_all (d := d) (q := q) (k := 1) (by omega);have Cf : GntOK w0 n0 B K n v Dj (Evs.qd d q) 71 #[] #[pw O3 0, pw C3 0] g (fun i => Evs.goalT n l d (kidN g i) cnt) := ⟨fun _ _ => by kernel_rfl, fun v' w' T' b9 hB9 hT9 e9 i hi9 ar9 nr9 cr9 ac9 nc9 cc9 ak9 nk9 ck9 hG9 => goal3_c (ce := ce) (g := kidN g i) w' hB9 H hv hnl e9 h0 (b9.wr.box (fun q => q.elim hCX id) hC0) (b9.wr.box (fun q => q.elim hCX id) hC1) (b9.nx hCX (by omega)) (b9.wr.box (fun q => q.elim (fun q => absurd (B6 _ q) (Nat.not_lt_of_le (Nat.le_of_eq Br))) id) B1) (b9.wr.box (fun q => q.elim (fun q => absurd (B6 _ q) (Nat.not_lt_of_le (Tq (Tq Bm Bp) (Nat.le_of_eq Bk)))) id) B2) (b9.nx (fun q => absurd (B6 _ q) (Nat.not_lt_of_le (Nat.le_of_eq Br))) (by omega)) (b9.nx (fun q => absurd (B6 _ q) (Nat.not_lt_of_le (Tq (Tq Bm Bp) (Nat.le_of_eq Bk)))) (Nat.lt_of_lt_of_le Bz Bx)) ((hCn.step Bl).step b9) (fun v'' w'' T'' b8 hB8 hT8 e8 c0 c1 cx hS8 => ih q (kidN g i) cnt fS xS yS ar9 nr9 cr9 ac9 nc9 cc9 ak9 nk9 ck9 v'' T'' w'' hB8 hG9 (hrk i hi9) e8 c0 c1 cx hS8 hT8) hT9⟩;refine wC 8 69 #[.slice ak nk ck, iv (-1 : Int), .func (.func 63) #[pw B 0] #[], .func (.func 71) #[] #[pw O3 0, pw C3 0]] hR (((foldG_c (q := Evs.qd d q) (t0 := .leaf false) (st := true) _ hB HG e0 h0 trivial (nxt_or Cc _ _) Cf (by rw [← hu]; omega)).mono fun r w' hq9 => hq9.weak (by rw [← hu]; exact hqd)).mono ?_);rintro e Es ⟨Em, D8, rfl, Bt, Ca, Co, Cs, Cj⟩;replace e0 := Bt.wr.ext e0 (fun k q => q.elim (fun q => Tq (Tq (Nat.le_refl _) h0) (C0 k q)) (fun q => q.elim));replace Bl := Bl.trans Bt;replace hC0 := Bt.wr.box (fun q => q.elim hCX id) hC0;replace hC1 := Bt.wr.box (fun q => q.elim hCX id) hC1;replace B1 := Bt.wr.box (fun q => q.elim (fun q => absurd (B6 _ q) (Nat.not_lt_of_le (Nat.le_of_eq Br))) id) B1;have q9 := fun ⦃j : Nat⦄ ⦃v : Value⦄ (h : BoxAt _ O7 j v) => Bt.wr.box (fun q => q.elim (fun q => absurd (B6 _ q) (Nat.not_lt_of_le (Tq Bm (Nat.le_of_eq Bu)))) id) h
   replace B0 := q9 B0;clear q9;replace B2 := Bt.wr.box (fun q => q.elim (fun q => absurd (B6 _ q) (Nat.not_lt_of_le (Tq (Tq Bm Bp) (Nat.le_of_eq Bk)))) id) B2;have Eb := Bt.nx hCX (by omega);have Ec := Bt.nx (fun q => absurd (B6 _ q) (Nat.not_lt_of_le (Tq (Tq Bm Bp) (Nat.le_of_eq Bk)))) (Nat.lt_of_lt_of_le Bz Bx);have Ed := Bt.nx (fun q => absurd (B6 _ q) (Nat.not_lt_of_le (Nat.le_of_eq Br))) (by omega);have Ee := Bt.nx (fun q => absurd (B6 _ q) (Nat.not_lt_of_le (Tq Bm (Nat.le_of_eq Bu)))) (Nat.lt_of_lt_of_le C5 (Tq Bj Bx));have Dr := Bt.wr.size;have Dg := Ca.lt;have Dc := Ca.ge;have hS := A3 B0.1 B1.1 hC0.1;refine ⟨_, rfl, hS, ?_⟩;refine wV 9 (iv (Bdd.ix D8 (Bdd.foldD true n (.leaf false) ((List.range nk).map fun i => Evs.goalT n l d (kidN g i) cnt)) : Int)) hR hS ?_;refine we hL hR hK ?_;refine zq (cK [6] (fun L => ?_));refine cw_ret (qw_ret [iv (Bdd.ix D8 (Bdd.foldD true n (.leaf false) ((List.range nk).map fun i => Evs.goalT n l d (kidN g i) cnt)) : Int)] rfl ⟨(by kernel_rfl), trivial⟩ ?_)
   have hgt : Evs.goalT n l (d + 1) g cnt = Bdd.foldD true n (.leaf false) ((List.range nk).map fun i => Evs.goalT n l d (kidN g i) cnt) := by
    rw [Evs.goalT_succ];rw [if_neg (by omega), if_neg (by omega), if_neg (by omega), hkn]
   rw [hgt];exact ⟨_, _, rfl, Bl, Ca, Co, Cs, Cj⟩
end Go.Proofs.YtpfajhcdfgpgmaaDoor

namespace Go.Proofs.YtpfajhcdfgpgmaaDoor
set_option maxRecDepth 1000000
set_option maxHeartbeats 4000000
set_option synthInstance.maxHeartbeats 0
set_option synthInstance.maxSize 9999
open Go.RowKit
def Tz70_0 : List Row := [(some 22, [6], []), (some 23, [22], [0]), (some 24, [23], [1]), (some 25, [24], [2]), (some 26, [6], []), (some 27, [2], []), (some 28, [6], []), (some 29, [28], [6]), (some 30, [29], [7]), (some 31, [30], [8]), (some 32, [31], [9]), (some 33, [26, 27, 32], [4, 5, 10]), (some 34, [25, 33], [3, 11, 11]), (some 35, [34], [12]), (some 36, [34], [12]), (none, [4, 35], [13, 12, 0, 1, 2, 3, 4, 5, 6, 7, 8, 9, 10, 11, 12, 13, 14]), (some 5, [36], [14, 15, 0, 1, 2, 3, 4, 5, 6, 7, 8, 9, 10, 11, 12, 13, 14, 15])]
namespace Evs
theorem qd_bd : qd 4 65536 ≤ 800000000000 := by decide
def compO (l : List Ev) (g : Goal) : Option (Int × Int × List Nod) := if Gol.validG g = true ∧ eventsB l = true then Bdd.machO l.length (goalT l.length l 4 g Bdd.lit) else none
end Evs
theorem Compile_c {w0 : World} {ae : Option Addr} {n ce : Nat} {l : List Ev} {g : Goal} {ar : Option Addr} {nr cr : Nat} {ac : Option Addr} {nc cc : Nat} {ak : Option Addr} {nk ck : Nat} (w : World) (hT : Tab w0) (H : EvsAt w0 ae n l) (HG : GOp w0 g ⟨ar, nr, cr, ac, nc, cc, ak, nk, ck⟩) (e0 : Ext w0 w) (hr : Gol.validG g = true → Evs.RG 4 g) : Calls Tryd.prog 23 #[.agg #[iv g.f.k, .slice ar nr cr, iv g.f.sf, iv g.f.st, iv g.f.lo, iv g.f.hi, .bool g.f.cl, iv g.f.dy, iv g.f.tm, iv g.f.wi, .slice ac nc cc, .slice ak nk ck], .slice ae n ce] w fun e w' => ∃ E' S' a' m' c' er, e = .returned (.tuple #[.agg #[iv E', iv S', .slice a' m' c'], iv er]) ∧ OptM w.heap.size w' (Evs.compO l g) E' S' a' m' c' er ∧ Ext w w' := by
 replace H := H.ext e0;replace HG := HG.ext e0;replace hT := hT.ext e0;clear e0;have hll : l.length = n := H.len;refine calls_cw 37 [(1, .slice ae n ce), (0, .agg #[iv g.f.k, .slice ar nr cr, iv g.f.sf, iv g.f.st, iv g.f.lo, iv g.f.hi, .bool g.f.cl, iv g.f.dy, iv g.f.tm, iv g.f.wi, .slice ac nc cc, .slice ak nk ck])] Tryd.func23 rfl Tryd.ntmps23 (by kernel_rfl) (by kernel_rfl) (fun L => ?_);have hE := Ext.refl w;refine zc (zp (pS (sw 55 #[iv g.f.k, .slice ar nr cr, iv g.f.sf, iv g.f.st, iv g.f.lo, iv g.f.hi, .bool g.f.cl, iv g.f.dy, iv g.f.tm, iv g.f.wi, .slice ac nc cc, .slice ak nk ck] ?_)));intro O1 X2 Dt Dq hb hbx;have ⟨B2, B3, B4, B5, B6, B7, B8, Ba, Bc, Be, B0, B1⟩ := bq12 hbx;replace hE := hE.trans hb;have Cq := hb.size;have Cs := B2.lt;refine pS (sw 26 #[iv 0, iv 0, .slice none 0 0] ?_);intro O5 X6 Ca Dr hb hbx;have ⟨Bf, Bg, Bh⟩ := bq3 hbx;refine mv12 hb hE B2 B3 B4 B5 B6 B7 B8 Ba Bc Be B0 fun hE B2 B3 B4 B5 B6 B7 B8 Ba Bc Be B0=>?_;replace B1 := B1.x hb;have Cr := hb.size;have Cx := Bf.lt;refine pT (iv 0) ?_;refine zn (zc (cw_seq ?_));obtain ⟨b0, Co⟩ : ∃ q, Gol.validG g = q := ⟨_, rfl⟩
 cases b0
 ·
  refine zp (pU (.agg #[iv g.f.k, .slice ar nr cr, iv g.f.sf, iv g.f.st, iv g.f.lo, iv g.f.hi, .bool g.f.cl, iv g.f.dy, iv g.f.tm, iv g.f.wi, .slice ac nc cc, .slice ak nk ck]) (xl (ld55 (B2.1) (B3.1) (B4.1) (B5.1) (B6.1) (B7.1) (B8.1) (Ba.1) (Bc.1) (Be.1) (B0.1) (B1.1))) ?_);refine pS (sc 46 #[.agg #[iv g.f.k, .slice ar nr cr, iv g.f.sf, iv g.f.st, iv g.f.lo, iv g.f.hi, .bool g.f.cl, iv g.f.dy, iv g.f.tm, iv g.f.wi, .slice ac nc cc, .slice ak nk ck]] ((ValidGoal_r (r := false) _ hT HG hE Co).mono ?_));rintro e w9 ⟨rfl, hb⟩;refine mv16 hb hE B2 B3 B4 B5 B6 B7 B8 Ba Bc Be B0 B1 Bf Bg Bh fun hE B2 B3 B4 B5 B6 B7 B8 Ba Bc Be B0 B1 Bf Bg Bh=>?_;have Dj := hb.size;refine ⟨_, rfl, pD (.bool true) (.bool true) ?_⟩;refine pK ?_;refine pK ?_;refine pK ?_;refine pT (.bool true) ?_;refine zn (zt ?_);refine zc (zp (pT (.agg #[iv 0, iv 0, .slice none 0 0]) ?_));refine pP (sn_setK3 (O := O5) (j := 0) (v0 := iv 0) (v1 := iv 0) (v2 := .slice none 0 0) (xt (pw O5 0) (.agg #[iv 0, iv 0, .slice none 0 0]) (st26 Bf.1 Bf.2 Bg.1 Bg.2 Bh.1 Bh.2)) Bf Bg Bh ?_);intro Df ho Bf Bg Bh hk;replace hE := ho.ext hE (Tq Cq (Nat.le_of_eq Ca));have q9 := ho.bx O1 (by omega);replace B2 := q9 B2;replace B3 := q9 B3;replace B4 := q9 B4;replace B5 := q9 B5;replace B6 := q9 B6;replace B7 := q9 B7;replace B8 := q9 B8;replace Ba := q9 Ba;replace Bc := q9 Bc;replace Be := q9 Be;replace B0 := q9 B0;replace B1 := q9 B1;clear q9;have Dk := Nat.le_of_eq ho.size.symm;clear ho hk;refine pT (iv 140) ?_;refine zn (cw_ret (qw_then_ret (qw_ret [.agg #[iv 0, iv 0, .slice none 0 0], iv 140] rfl ⟨⟨_, by kernel_rfl, res_ld (ld26 (Bf.1) (Bg.1) (Bh.1))⟩, (by kernel_rfl), trivial⟩ ?_)));exact ⟨_, _, _, _, _, _, rfl, .inr ⟨if_neg (fun q => by rw [Co] at q; cases q.1), rfl, rfl, rfl, rfl, rfl, rfl⟩, hE⟩
 ·
  obtain ⟨b1, Cp⟩ : ∃ q, Evs.eventsB l = q := ⟨_, rfl⟩
  cases b1
  ·
   refine zp (pU (.agg #[iv g.f.k, .slice ar nr cr, iv g.f.sf, iv g.f.st, iv g.f.lo, iv g.f.hi, .bool g.f.cl, iv g.f.dy, iv g.f.tm, iv g.f.wi, .slice ac nc cc, .slice ak nk ck]) (xl (ld55 (B2.1) (B3.1) (B4.1) (B5.1) (B6.1) (B7.1) (B8.1) (Ba.1) (Bc.1) (Be.1) (B0.1) (B1.1))) ?_);refine pS (sc 46 #[.agg #[iv g.f.k, .slice ar nr cr, iv g.f.sf, iv g.f.st, iv g.f.lo, iv g.f.hi, .bool g.f.cl, iv g.f.dy, iv g.f.tm, iv g.f.wi, .slice ac nc cc, .slice ak nk ck]] ((ValidGoal_r (r := true) _ hT HG hE Co).mono ?_));rintro e E4 ⟨rfl, hb⟩;refine mv16 hb hE B2 B3 B4 B5 B6 B7 B8 Ba Bc Be B0 B1 Bf Bg Bh fun hE B2 B3 B4 B5 B6 B7 B8 Ba Bc Be B0 B1 Bf Bg Bh=>?_;have Dl := hb.size;refine ⟨_, rfl, pD (.bool false) (.bool false) ?_⟩;refine pT (.slice ae n ce) ?_;refine pS (sc 24 #[.slice ae n ce] ((Events_r (r := false) _ _ H hE Cp).mono ?_));rintro e Dx ⟨rfl, hb⟩;refine mv16 hb hE B2 B3 B4 B5 B6 B7 B8 Ba Bc Be B0 B1 Bf Bg Bh fun hE B2 B3 B4 B5 B6 B7 B8 Ba Bc Be B0 B1 Bf Bg Bh=>?_;have Dm := hb.size;refine ⟨_, rfl, pD (.bool true) (.bool true) ?_⟩;refine zn (zt ?_);refine zc (zp (pT (.agg #[iv 0, iv 0, .slice none 0 0]) ?_));refine pP (sn_setK3 (O := O5) (j := 0) (v0 := iv 0) (v1 := iv 0) (v2 := .slice none 0 0) (xt (pw O5 0) (.agg #[iv 0, iv 0, .slice none 0 0]) (st26 Bf.1 Bf.2 Bg.1 Bg.2 Bh.1 Bh.2)) Bf Bg Bh ?_);intro Dg ho Bf Bg Bh hk;replace hE := ho.ext hE (Tq Cq (Nat.le_of_eq Ca));have q9 := ho.bx O1 (by omega);replace B2 := q9 B2;replace B3 := q9 B3;replace B4 := q9 B4;replace B5 := q9 B5;replace B6 := q9 B6;replace B7 := q9 B7;replace B8 := q9 B8;replace Ba := q9 Ba;replace Bc := q9 Bc;replace Be := q9 Be;replace B0 := q9 B0;replace B1 := q9 B1;clear q9;have Dn := Nat.le_of_eq ho.size.symm;clear ho hk;refine pT (iv 140) ?_;refine zn (cw_ret (qw_then_ret (qw_ret [.agg #[iv 0, iv 0, .slice none 0 0], iv 140] rfl ⟨⟨_, by kernel_rfl, res_ld (ld26 (Bf.1) (Bg.1) (Bh.1))⟩, (by kernel_rfl), trivial⟩ ?_)));exact ⟨_, _, _, _, _, _, rfl, .inr ⟨if_neg (fun q => by rw [Cp] at q; cases q.2), rfl, rfl, rfl, rfl, rfl, rfl⟩, hE⟩
  ·
   have Cv : n ≤ 16 := by have := Evs.eventsB_len Cp;omega
   have hrg := hr Co;refine zp (pU (.agg #[iv g.f.k, .slice ar nr cr, iv g.f.sf, iv g.f.st, iv g.f.lo, iv g.f.hi, .bool g.f.cl, iv g.f.dy, iv g.f.tm, iv g.f.wi, .slice ac nc cc, .slice ak nk ck]) (xl (ld55 (B2.1) (B3.1) (B4.1) (B5.1) (B6.1) (B7.1) (B8.1) (Ba.1) (Bc.1) (Be.1) (B0.1) (B1.1))) ?_);refine pS (sc 46 #[.agg #[iv g.f.k, .slice ar nr cr, iv g.f.sf, iv g.f.st, iv g.f.lo, iv g.f.hi, .bool g.f.cl, iv g.f.dy, iv g.f.tm, iv g.f.wi, .slice ac nc cc, .slice ak nk ck]] ((ValidGoal_r (r := true) _ hT HG hE Co).mono ?_));rintro e E5 ⟨rfl, hb⟩;refine mv16 hb hE B2 B3 B4 B5 B6 B7 B8 Ba Bc Be B0 B1 Bf Bg Bh fun hE B2 B3 B4 B5 B6 B7 B8 Ba Bc Be B0 B1 Bf Bg Bh=>?_;have C2 := hb.size;refine ⟨_, rfl, pD (.bool false) (.bool false) ?_⟩;refine pT (.slice ae n ce) ?_;refine pS (sc 24 #[.slice ae n ce] ((Events_r (r := true) _ _ H hE Cp).mono ?_));rintro e Dy ⟨rfl, hb⟩;refine mv16 hb hE B2 B3 B4 B5 B6 B7 B8 Ba Bc Be B0 B1 Bf Bg Bh fun hE B2 B3 B4 B5 B6 B7 B8 Ba Bc Be B0 B1 Bf Bg Bh=>?_;have C3 := hb.size;refine ⟨_, rfl, pD (.bool false) (.bool false) ?_⟩;refine zn (zf ?_);refine cw_skip (zq (zc (zp (pD (.slice ae n ce) (iv n) ?_))));refine pS (sc 37 #[iv n] ((begin_c n _).mono ?_));rintro e Dd ⟨B, K, rfl, C4, hb⟩;refine mv16 hb hE B2 B3 B4 B5 B6 B7 B8 Ba Bc Be B0 B1 Bf Bg Bh fun hE B2 B3 B4 B5 B6 B7 B8 Ba Bc Be B0 B1 Bf Bg Bh=>?_;have Ce := hb.size;obtain ⟨n0, Cn⟩ : ∃ q, q = Dy.heap.size := ⟨_, rfl⟩;rw [← Cn] at C4;obtain ⟨T0, D6⟩ : ∃ q, q = ([] : List Bdd.D) := ⟨_, rfl⟩;rw [← D6] at C4;have D3 : T0.length = 0 := by rw [D6];rfl
   have Cd := C4.lt;have C7 := C4.ge;have Ch : BS No B K (.slice none 0 0) Dd (.slice none 0 0) Dd := BS.refl _ _ _ _ _;refine ⟨_, rfl, pD (.slice ae n ce) (.agg #[pw B 0, .slice ae n ce]) ?_⟩;refine pS (sw 95 #[pw B 0, .slice ae n ce] ?_);intro Cb Dz C9 Dc hb hbx;have ⟨Bi, Bj⟩ := bq2 hbx;refine mv16 hb hE B2 B3 B4 B5 B6 B7 B8 Ba Bc Be B0 B1 Bf Bg Bh fun hE B2 B3 B4 B5 B6 B7 B8 Ba Bc Be B0 B1 Bf Bg Bh=>?_;replace C4 := C4.ext hb;have Cg := hb.size;have D4 := Bi.lt;refine pT (pw Cb 0) ?_;refine zn (cK [2,4,6] (fun L => ?_));refine zc (dE Tz70_0 (fun w' => w'.cell? ⟨Cb, 0, none⟩ = some (pw B 0) ∧ w'.cell? ⟨O1, 0, none⟩ = some (iv g.f.k) ∧ w'.cell? ⟨O1, 1, none⟩ = some (.slice ar nr cr) ∧ w'.cell? ⟨O1, 2, none⟩ = some (iv g.f.sf) ∧ w'.cell? ⟨O1, 3, none⟩ = some (iv g.f.st) ∧ w'.cell? ⟨O1, 4, none⟩ = some (iv g.f.lo) ∧ w'.cell? ⟨O1, 5, none⟩ = some (iv g.f.hi) ∧ w'.cell? ⟨O1, 6, none⟩ = some (.bool g.f.cl) ∧ w'.cell? ⟨O1, 7, none⟩ = some (iv g.f.dy) ∧ w'.cell? ⟨O1, 8, none⟩ = some (iv g.f.tm) ∧ w'.cell? ⟨O1, 9, none⟩ = some (iv g.f.wi) ∧ w'.cell? ⟨O1, 10, none⟩ = some (.slice ac nc cc) ∧ w'.cell? ⟨O1, 11, none⟩ = some (.slice ak nk ck)) (⟨Bi.1, B2.1, B3.1, B4.1, B5.1, B6.1, B7.1, B8.1, Ba.1, Bc.1, Be.1, B0.1, B1.1⟩) (fun ops Q E0 hb hL hR hK => ?_));refine mv16 hb hE B2 B3 B4 B5 B6 B7 B8 Ba Bc Be B0 B1 Bf Bg Bh fun hE B2 B3 B4 B5 B6 B7 B8 Ba Bc Be B0 B1 Bf Bg Bh=>?_;refine mv3 hb C4 Bi Bj fun C4 Bi Bj=>?_;have Cf := hb.size;have hS := A13 Bi.1 B2.1 B3.1 B4.1 B5.1 B6.1 B7.1 B8.1 Ba.1 Bc.1 Be.1 B0.1 B1.1;refine wW 0 (pw Cb 0) 1 (pw Cb 0) hR hS ?_;refine wV 2 (pw Cb 0) hR hS ?_;refine wM 3 (pw B 0) hR (fun w hS => ld84 (hS.1)) hS ?_;refine wV 4 (pw Cb 0) hR hS ?_;refine wM 5 (.agg #[iv g.f.k, .slice ar nr cr, iv g.f.sf, iv g.f.st, iv g.f.lo, iv g.f.hi, .bool g.f.cl, iv g.f.dy, iv g.f.tm, iv g.f.wi, .slice ac nc cc, .slice ak nk ck]) hR (fun w hS => ld55 (hS.2.1) (hS.2.2.1) (hS.2.2.2.1) (hS.2.2.2.2.1) (hS.2.2.2.2.2.1) (hS.2.2.2.2.2.2.1) (hS.2.2.2.2.2.2.2.1) (hS.2.2.2.2.2.2.2.2.1) (hS.2.2.2.2.2.2.2.2.2.1) (hS.2.2.2.2.2.2.2.2.2.2.1) (hS.2.2.2.2.2.2.2.2.2.2.2.1) (hS.2.2.2.2.2.2.2.2.2.2.2.2)) hS ?_;refine wW 6 (pw Cb 0) 7 (pw Cb 0) hR hS ?_;refine wV 8 (pw Cb 0) hR hS ?_;refine wM 9 (pw B 0) hR (fun w hS => ld84 (hS.1)) hS ?_;refine wV 10 (.func (.func 43) #[pw B 0] #[]) hR hS ?_;refine wC 11 47 #[pw Cb 0, .agg #[iv g.f.k, .slice ar nr cr, iv g.f.sf, iv g.f.st, iv g.f.lo, iv g.f.hi, .bool g.f.cl, iv g.f.dy, iv g.f.tm, iv g.f.wi, .slice ac nc cc, .slice ak nk ck], .func (.func 43) #[pw B 0] #[]] hR ((goal_c (ce := ce) H Cp rfl (Tq (Tq Cq (Tq Cr (Tq C2 C3))) (Nat.le_of_eq Cn.symm)) 4 65536 g Bdd.lit _ _ _ ar nr cr ac nc cc ak nk ck _ _ _ C4 HG hrg hE Bi Bj (fun q => absurd (Cd _ q) (Nat.not_lt_of_le (Nat.le_of_eq C9))) (cnt_single Cv _ _) (by rw [D3]; have := Evs.qd_bd; omega)).mono ?_);rintro e E6 ⟨E3, De, rfl, C5, Cc, Cu, Db, D9⟩;replace hE := C5.wr.ext hE (fun k q => q.elim (fun q => Tq (Tq (Tq Cq (Tq Cr (Tq C2 C3))) (Nat.le_of_eq Cn.symm)) (C7 k q)) (fun q => q.elim));have q9 := fun ⦃j : Nat⦄ ⦃v : Value⦄ (h : BoxAt _ O1 j v) => C5.wr.box (fun q => q.elim (fun q => absurd (C7 _ q) (Nat.not_le_of_lt (Nat.lt_of_lt_of_le (Nat.lt_of_lt_of_le Cs (Tq Cr (Tq C2 C3))) (Nat.le_of_eq Cn.symm)))) id) h
   replace B2 := q9 B2;replace B3 := q9 B3;replace B4 := q9 B4;replace B5 := q9 B5;replace B6 := q9 B6;replace B7 := q9 B7;replace B8 := q9 B8;replace Ba := q9 Ba;replace Bc := q9 Bc;replace Be := q9 Be;replace B0 := q9 B0;replace B1 := q9 B1;clear q9;have q9 := fun ⦃j : Nat⦄ ⦃v : Value⦄ (h : BoxAt _ O5 j v) => C5.wr.box (fun q => q.elim (fun q => absurd (C7 _ q) (Nat.not_le_of_lt (Nat.lt_of_lt_of_le (Nat.lt_of_lt_of_le Cx (Tq C2 C3)) (Nat.le_of_eq Cn.symm)))) id) h
   replace Bf := q9 Bf;replace Bg := q9 Bg;replace Bh := q9 Bh;clear q9;have q9 := fun ⦃j : Nat⦄ ⦃v : Value⦄ (h : BoxAt _ Cb j v) => C5.wr.box (fun q => q.elim (fun q => absurd (Cd _ q) (Nat.not_lt_of_le (Nat.le_of_eq C9))) id) h
   replace Bi := q9 Bi;replace Bj := q9 Bj;clear q9;have Du := C5.nx (fun q => absurd (C7 _ q) (Nat.not_le_of_lt (Nat.lt_of_lt_of_le (Nat.lt_of_lt_of_le Cs (Tq Cr (Tq C2 C3))) (Nat.le_of_eq Cn.symm)))) (by omega);have Dv := C5.nx (fun q => absurd (Cd _ q) (Nat.not_lt_of_le (Nat.le_of_eq C9))) (Nat.lt_of_lt_of_le D4 Cf);have Dw := C5.nx (fun q => absurd (C7 _ q) (Nat.not_le_of_lt (Nat.lt_of_lt_of_le (Nat.lt_of_lt_of_le Cx (Tq C2 C3)) (Nat.le_of_eq Cn.symm)))) (by omega);have Cw := C5.wr.size;have D8 := Cc.lt;have D7 := Cc.ge;refine ⟨_, rfl, ⟨Bi.1, B2.1, B3.1, B4.1, B5.1, B6.1, B7.1, B8.1, Ba.1, Bc.1, Be.1, B0.1, B1.1⟩, ?_⟩;refine wC 12 42 #[pw B 0, iv (Bdd.ix De (Evs.goalT n l 4 g Bdd.lit) : Int)] hR ((done_c _ Cc Cu (by have := Evs.qd_bd; omega) Cv).mono ?_);rintro e D5 ⟨Cy, Cz, D0, D2, D1, Cm, rfl, Ct, hb⟩;refine mv16 hb hE B2 B3 B4 B5 B6 B7 B8 Ba Bc Be B0 B1 Bf Bg Bh fun hE B2 B3 B4 B5 B6 B7 B8 Ba Bc Be B0 B1 Bf Bg Bh=>?_;refine mv2 hb Bi Bj fun Bi Bj=>?_;have Do := hb.size;have Di := Ext.refl D5;have hS := A13 Bi.1 B2.1 B3.1 B4.1 B5.1 B6.1 B7.1 B8.1 Ba.1 Bc.1 Be.1 B0.1 B1.1;refine ⟨_, rfl, hS, ?_⟩;refine wW 13 (.agg #[iv Cy, iv Cz, .slice D0 D2 D1]) 14 (iv Cm) hR hS ?_;have Bp := B2;have Bq := B3;have Br := B4;have Bs := B5;have Bt := B6;have Bu := B7;have Bv := B8;have Bw := Ba;have Bx := Bc;have Bz := Be;have C0 := B0;have C1 := B1;have Bk := Bf;have Bl := Bg;have Bm := Bh;have Bo := Bi;have C6 := Bj;have C8 := Ct;refine wS 15 hR (sn_setK3 (O := O5) (j := 0) (v0 := iv Cy) (v1 := iv Cz) (v2 := .slice D0 D2 D1) (ex_store (p := pw O5 0) (v := .agg #[iv Cy, iv Cz, .slice D0 D2 D1]) rfl (by kernel_rfl) (by kernel_rfl) (st26 Bk.1 Bk.2 Bl.1 Bl.2 Bm.1 Bm.2)) Bk Bl Bm ?_);intro Dh ho Bk Bl Bm hk;replace hE := ho.ext hE (Tq Cq (Nat.le_of_eq Ca));have q9 := ho.bx O1 (by omega);replace Bp := q9 Bp;replace Bq := q9 Bq;replace Br := q9 Br;replace Bs := q9 Bs;replace Bt := q9 Bt;replace Bu := q9 Bu;replace Bv := q9 Bv;replace Bw := q9 Bw;replace Bx := q9 Bx;replace Bz := q9 Bz;replace C0 := q9 C0;replace C1 := q9 C1;clear q9;have q9 := ho.bx Cb (by omega);replace Bo := q9 Bo;clear q9;replace C8 := C8.turn ho (by omega);have Dp := Nat.le_of_eq ho.size.symm;clear ho hk;refine ⟨⟨Bo.1, Bp.1, Bq.1, Br.1, Bs.1, Bt.1, Bu.1, Bv.1, Bw.1, Bx.1, Bz.1, C0.1, C1.1⟩, ?_⟩;refine wV 16 (iv Cm) hR (⟨Bo.1, Bp.1, Bq.1, Br.1, Bs.1, Bt.1, Bu.1, Bv.1, Bw.1, Bx.1, Bz.1, C0.1, C1.1⟩) ?_;refine we hL hR hK ?_;refine zq (cK [4,5] (fun L => ?_));refine cw_ret (qw_ret [.agg #[iv Cy, iv Cz, .slice D0 D2 D1], iv Cm] rfl ⟨⟨_, by kernel_rfl, res_ld (ld26 (Bk.1) (Bl.1) (Bm.1))⟩, (by kernel_rfl), trivial⟩ ?_);have Da := C8;rw [show Bdd.machO n (Evs.goalT n l 4 g Bdd.lit) = Evs.compO l g by unfold Evs.compO; rw [if_pos ⟨Co, Cp⟩, hll]] at Da;exact ⟨_, _, _, _, _, _, rfl, Da.mono (by omega), hE⟩
end Go.Proofs.YtpfajhcdfgpgmaaDoor

namespace Go.Proofs.YtpfajhcdfgpgmaaDoor
open Go.RowKit
namespace Ex
def rws : List Int := [0, 0, 0, 1, 0, 0, 0, 0, 0, 0, 0, 0, 0, 0, 0, 0, 0, 0, 0, 0, 0, 0, 0, 0]
def seeG : Goal := .mk ⟨1, rws, 0, 100, 0, 90, false, 0, 0, 0, []⟩ []
def delG (wi : Int) : Goal := .mk ⟨4, [], 0, 0, 0, 0, false, 0, 0, wi, []⟩ [seeG]
def allG : Goal := .mk ⟨5, [], 0, 0, 0, 0, false, 0, 0, 0, []⟩ [seeG, delG 20]
def zeroG : Goal := .mk ⟨0, [], 0, 0, 0, 0, false, 0, 0, 0, []⟩ []
def evs : List Ev := [⟨1, 10, 1, rws, 5, 0, false⟩, ⟨1, 20, 2, rws, 5, 0, false⟩, ⟨2, 30, 1, [], 0, 0, false⟩]
open Bdd
def tA : D := .nd 0 (.nd 1 (.leaf false) (.leaf true)) (.leaf true)
def tB : D := .nd 0 (.leaf false) (.nd 2 (.leaf false) (.leaf true))
def NA : List (Int × Int × Int) := [(1, -1, -2), (0, 0, -2)]
def NB : List (Int × Int × Int) := [(2, -1, -2), (0, -1, 0)]
theorem okA : OK 0 3 tA := by simp [tA, OK]
theorem okB : OK 0 3 tB := by simp [tB, OK]
theorem evs_ok : Evs.eventsB evs = true := by kernel_rfl
theorem one_no : Evs.eventsB [default] = false := by kernel_rfl
theorem see_ok : Gol.validG seeG = true := by kernel_rfl
theorem del_ok : Gol.validG (delG 20) = true := by kernel_rfl
theorem late_ok : Gol.validG (delG 19) = true := by kernel_rfl
theorem all_ok : Gol.validG allG = true := by kernel_rfl
theorem zero_no : Gol.validG zeroG = false := by kernel_rfl
theorem see_t : Evs.goalT 3 evs 4 seeG lit = tA := by kernel_rfl
theorem del_t : Evs.goalT 3 evs 4 (delG 20) lit = tB := by kernel_rfl
theorem late_t : Evs.goalT 3 evs 4 (delG 19) lit = .leaf false := by kernel_rfl
theorem all_t : Evs.goalT 3 evs 4 allG lit = tB := by kernel_rfl
theorem machA : machO 3 tA = some (3, 1, NA) := by kernel_rfl
theorem machB : machO 3 tB = some (3, 1, NB) := by kernel_rfl
theorem machC : machO 3 (.leaf false) = some (3, -1, []) := by kernel_rfl
theorem cA : Evs.compO evs seeG = some (3, 1, NA) := by unfold Evs.compO; rw [if_pos ⟨see_ok, evs_ok⟩, ← machA, ← see_t]; rfl
theorem cB : Evs.compO evs (delG 20) = some (3, 1, NB) := by unfold Evs.compO; rw [if_pos ⟨del_ok, evs_ok⟩, ← machB, ← del_t]; rfl
theorem cC : Evs.compO evs (delG 19) = some (3, -1, []) := by unfold Evs.compO; rw [if_pos ⟨late_ok, evs_ok⟩, ← machC, ← late_t]; rfl
theorem cD : Evs.compO evs allG = some (3, 1, NB) := by unfold Evs.compO; rw [if_pos ⟨all_ok, evs_ok⟩, ← machB, ← all_t]; rfl
theorem cZ : Evs.compO evs zeroG = none := by unfold Evs.compO; rw [if_neg (fun q => by have := q.1; rw [zero_no] at this; cases this)]
theorem vA : validB 3 1 NA = true := mach_valid okA (by decide) (by decide)
theorem vB : validB 3 1 NB = true := mach_valid okB (by decide) (by decide)
theorem v0 : validB 0 1 [] = false := by
 cases q : validB 0 1 [] with
 | false => rfl
 | true => have := (valid_iff.1 q).1.s.2; simp at this
theorem trA : tree 1 NA = tA := mach_tree okA
theorem trB : tree 1 NB = tB := mach_tree okB
theorem cntA : cntM 3 1 NA = 6 := by unfold cntM; rw [if_pos vA, trA]; rfl
theorem needA : needM 3 1 NA = 0 := by unfold needM; rw [if_pos vA, trA]; rfl
theorem needB : needM 3 1 NB = 5 := by unfold needM; rw [if_pos vB, trB]; rfl
theorem errA : errV 3 1 NA = 0 := if_pos vA
theorem errB : errV 3 1 NB = 0 := if_pos vB
theorem chpA : chpM 3 1 NA [7, 4, 1] = some (true, 4, 2) := by unfold chpM; rw [if_pos ⟨vA, rfl, by kernel_rfl⟩, trA]; rfl
theorem aftB : aft 3 1 NB 1 0 = some (.leaf false) := by unfold aft; rw [if_pos ⟨vB, by decide, by decide⟩, trB]; rfl
theorem accA2 : accB 3 1 NA 2 = true := by rw [show (2 : Int) = ((2 : Nat) : Int) from rfl, acc_is vA (by decide), trA]; rfl
theorem accA4 : accB 3 1 NA 4 = false := by rw [show (4 : Int) = ((4 : Nat) : Int) from rfl, acc_is vA (by decide), trA]; rfl
end Ex
end Go.Proofs.YtpfajhcdfgpgmaaDoor

namespace Go.Proofs.YtpfajhcdfgpgmaaDoor
open Go.RowKit
section
variable {P : Program} {ops : Array Oper} {Q : Exit → Act → World → Prop} {md : Region.Mode} {S : World → Prop}
end
end Go.Proofs.YtpfajhcdfgpgmaaDoor

namespace Go.Proofs.YtpfajhcdfgpgmaaDoor
open Go.RowKit
theorem rEmpty_c (w : World) : Calls Tryd.prog 45 #[] w (RetA w Globe.zeroL) := by
 have hmk := make24
 go_enter Tryd.func45, Tryd.ntmps45
 go_wp2
 refine bodyPost_ret (v := .agg #[.slice (some ⟨w.heap.size + 1, 0, none⟩) 24 24]) (by simp [results, Tryd.results45, go_sem]) rfl ⟨w.heap.size + 1, rfl, by omega, ?_, by (repeat' (first | (with_reducible assumption) | (with_reducible exact Ext.refl _) | (with_reducible refine Ext.alloc ?_ _) | (with_reducible refine Ext.drew ?_) | (with_reducible refine Ext.drewN ?_ _) | (with_reducible refine Ext.setCell ?_ ?_ _) | (with_reducible refine Ext.trans ?_ (by assumption)) | go_size))⟩
 have := RowsAt.new (w.alloc (.cells #[.slice (some ⟨w.heap.size + 1, 0, none⟩) 24 24] 50)) Globe.zeroL 3 rfl
 rwa [World.size_alloc] at this
end Go.Proofs.YtpfajhcdfgpgmaaDoor

namespace Go.Proofs.YtpfajhcdfgpgmaaDoor
set_option maxRecDepth 1000000
set_option maxHeartbeats 4000000
set_option synthInstance.maxHeartbeats 0
set_option synthInstance.maxSize 9999
open Go.RowKit
def Tz74_0 : List Row := [(some 26, [6], []), (some 27, [7], []), (some 28, [8], []), (none, [2, 26], [0, 0]), (none, [3, 27], [1, 3, 0, 1, 3]), (some 4, [28], [2, 4, 0, 1, 2, 3, 4])]
theorem evs3_at {w : World} {b : Nat} {x0 x1 x2 : EC} {e0 e1 e2 : Ev} (h0 : ECs w b 0 e0 x0) (h1 : ECs w b 7 e1 x1) (h2 : ECs w b 14 e2 x2) : EvsAt w (some ⟨b, 0, none⟩) 3 [e0, e1, e2] :=
 ⟨rfl, by decide, .inr ⟨b, 0, rfl, fun i e he => by
  match i, he with
  | 0, he => cases he; exact ⟨x0, h0⟩
  | 1, he => cases he; exact ⟨x1, h1⟩
  | 2, he => cases he; exact ⟨x2, h2⟩
  | i + 3, he => simp at he⟩⟩
theorem evs1_at {w : World} {b : Nat} {x0 : EC} {e0 : Ev} (h0 : ECs w b 0 e0 x0) : EvsAt w (some ⟨b, 0, none⟩) 1 [e0] :=
 ⟨rfl, by decide, .inr ⟨b, 0, rfl, fun i e he => by
  match i, he with
  | 0, he => cases he; exact ⟨x0, h0⟩
  | i + 1, he => simp at he⟩⟩
theorem aa_none (w : World) : AA w none [] 0 (Globe.validL []) := ⟨.inl rfl, rfl, by decide, rfl⟩
theorem gop_ks {w : World} {f : GF} {ks : List Goal} {b k : Nat} (h1 : f.rows = []) (h2 : f.cents = []) (hk : ks.length = k) (hm : k ≤ 4) (h : KsAt w ks b 0) : GOp w (.mk f ks) ⟨none, 0, 0, none, 0, 0, some ⟨b, 0, none⟩, k, k⟩ := by
  refine ⟨?_, .inl ?_, ?_, by show 0 ≤ _; omega, hk, by show k ≤ _; omega, .inr ⟨b, 0, rfl, h⟩⟩
  · show AA w none f.rows 0 (Globe.validL f.rows)
    rw [h1]; exact aa_none w
  · exact h2
  · show f.cents.length = 0
    rw [h2]; rfl
theorem ks_one {w : World} {b o : Nat} {g : Goal} {x : GC} (h : GCs w b o g.f x) (k : GOp w g x) {gs : List Goal} (r : KsAt w gs b (o + 12)) : KsAt w (g :: gs) b o := by
 unfold KsAt; exact ⟨⟨x, h, k.at⟩, r⟩
theorem ks_nil (w : World) (b o : Nat) : KsAt w [] b o := by unfold KsAt; trivial
theorem gop_see {w : World} {A k : Nat} (h : VA w A 0 Ex.rws) : GOp w Ex.seeG ⟨some ⟨A, 0, none⟩, 24, k, none, 0, 0, none, 0, 0⟩ := ⟨h.aa, .inl rfl, rfl, Nat.zero_le _, rfl, Nat.zero_le _, .inl rfl⟩
theorem gop_zero (w : World) : GOp w Ex.zeroG ⟨none, 0, 0, none, 0, 0, none, 0, 0⟩ := ⟨aa_none w, .inl rfl, rfl, Nat.zero_le _, rfl, Nat.zero_le _, .inl rfl⟩
theorem example_c (wi : Int) (w : World) : Calls Tryd.prog 22 #[iv wi] w fun e w' => ∃ A K b, e = .returned (.tuple #[.agg #[iv 1, sv A 0 24 24, iv 0, iv 100, iv 0, iv 90, .bool false, iv 0, iv 0, iv 0, .slice none 0 0, .slice none 0 0], .agg #[iv 4, .slice none 0 0, iv 0, iv 0, iv 0, iv 0, .bool false, iv 0, iv 0, iv wi, .slice none 0 0, sv K 0 1 1], sv b 0 3 3]) ∧ GOp w' Ex.seeG ⟨some ⟨A, 0, none⟩, 24, 24, none, 0, 0, none, 0, 0⟩ ∧ GOp w' (Ex.delG wi) ⟨none, 0, 0, none, 0, 0, some ⟨K, 0, none⟩, 1, 1⟩ ∧ EvsAt w' (some ⟨b, 0, none⟩) 3 Ex.evs ∧ Ext w w' := by
 refine calls_cw 29 [(0, iv wi)] Tryd.func22 rfl Tryd.ntmps22 (by kernel_rfl) (by kernel_rfl) (fun L => ?_);have hE := Ext.refl w;refine zc (zp (pS (sw 55 #[iv 0, .slice none 0 0, iv 0, iv 0, iv 0, iv 0, .bool false, iv 0, iv 0, iv 0, .slice none 0 0, .slice none 0 0] ?_)));intro O1 X2 H9 Hz hb hbx;have ⟨E3, E4, E5, E6, E7, E8, E9, Ea, Eb, Ec, Bv, Bw⟩ := bq12 hbx;replace hE := hE.trans hb;have H3 := hb.size;have G9 := E3.lt;refine pS (sw 55 #[iv 0, .slice none 0 0, iv 0, iv 0, iv 0, iv 0, .bool false, iv 0, iv 0, iv 0, .slice none 0 0, .slice none 0 0] ?_);intro O5 X6 H0 I0 hb hbx;have ⟨Es, F6, F7, F8, F9, Fa, Fb, Fc, Fd, Fe, Dz, E0⟩ := bq12 hbx;refine mv12 hb hE E3 E4 E5 E6 E7 E8 E9 Ea Eb Ec Bv fun hE E3 E4 E5 E6 E7 E8 E9 Ea Eb Ec Bv=>?_;replace Bw := Bw.x hb;have Fy := hb.size;have Fp := Es.lt;refine pT (.slice none 0 0) ?_;refine zn (zc (zp (pS (sc 45 #[] ((rEmpty_c _).mono ?_)))));rintro e I5 ⟨B9, rfl, Er, Ff, hb⟩;refine mv16 hb hE E3 E4 E5 E6 E7 E8 E9 Ea Eb Ec Bv Bw Es F6 F7 fun hE E3 E4 E5 E6 E7 E8 E9 Ea Eb Ec Bv Bw Es F6 F7=>?_;refine mv9 hb F8 F9 Fa Fb Fc Fd Fe Dz E0 fun F8 F9 Fa Fb Fc Fd Fe Dz E0=>?_;have F4 := hb.size;have H6 := Ff.lt;refine ⟨_, rfl, pS (sw 50 #[.slice none 0 0] ?_)⟩;intro H7 Ho Fi Hi hb hbx;have Bh := bq1 hbx;refine mv16 hb hE E3 E4 E5 E6 E7 E8 E9 Ea Eb Ec Bv Bw Es F6 F7 fun hE E3 E4 E5 E6 E7 E8 E9 Ea Eb Ec Bv Bw Es F6 F7=>?_;refine mv9 hb F8 F9 Fa Fb Fc Fd Fe Dz E0 fun F8 F9 Fa Fb Fc Fd Fe Dz E0=>?_;replace Ff := Ff.ext hb;have Fj := hb.size;have I1 := Bh.lt;refine pP (zF H7 0 (sv B9 0 24 24) (st50 Bh.1 Bh.2) Bh ?_);intro Hc ho Bh hk;replace hE := ho.ext hE (by omega);have q9 := ho.bx O1 (by omega);replace E3 := q9 E3;replace E4 := q9 E4;replace E5 := q9 E5;replace E6 := q9 E6;replace E7 := q9 E7;replace E8 := q9 E8;replace E9 := q9 E9;replace Ea := q9 Ea;replace Eb := q9 Eb;replace Ec := q9 Ec;replace Bv := q9 Bv;replace Bw := q9 Bw;clear q9;have q9 := ho.bx O5 (by omega);replace Es := q9 Es;replace F6 := q9 F6;replace F7 := q9 F7;replace F8 := q9 F8;replace F9 := q9 F9;replace Fa := q9 Fa;replace Fb := q9 Fb;replace Fc := q9 Fc;replace Fd := q9 Fd;replace Fe := q9 Fe;replace Dz := q9 Dz;replace E0 := q9 E0;clear q9;replace Ff := ho.rows (by omega) Ff;have Fk := Nat.le_of_eq ho.size.symm;clear ho hk;refine zn (zc (zp (pT (pw H7 0) ?_)));refine pU (sv B9 0 24 24) (xl (ld35 (Bh.1))) ?_;refine pU (pw B9 3) (xi (sv B9 0 24 24) (iv ((3 : Nat) : Int)) (ix35z (k := 3) (by omega))) ?_;refine pP (sn_row (g := B9) (y := 3) (v := 1) (xt (pw B9 3) (iv 1) (st3 (Ff.cell (by omega)) (Ff.free (by omega)))) Ff (by omega) ?_);intro H8 ho Ff;replace hE := ho.ext hE (Tq (Tq H3 Fy) Er);have q9 := ho.bx O1 (by omega);replace E3 := q9 E3;replace E4 := q9 E4;replace E5 := q9 E5;replace E6 := q9 E6;replace E7 := q9 E7;replace E8 := q9 E8;replace E9 := q9 E9;replace Ea := q9 Ea;replace Eb := q9 Eb;replace Ec := q9 Ec;replace Bv := q9 Bv;replace Bw := q9 Bw;clear q9;replace Es := ho.box (by omega) Es;replace F6 := ho.box (by omega) F6;replace F7 := ho.box (by omega) F7;replace F8 := ho.box (by omega) F8;replace F9 := ho.box (by omega) F9;replace Fa := ho.box (by omega) Fa;replace Fb := ho.box (by omega) Fb;replace Fc := ho.box (by omega) Fc;replace Fd := ho.box (by omega) Fd;replace Fe := ho.box (by omega) Fe;replace Dz := ho.box (by omega) Dz;replace E0 := ho.box (by omega) E0;replace Bh := ho.box (by omega) Bh;have Fl := Nat.le_of_eq ho.size.symm;clear ho;refine pl_nil (qw_then ?_);refine cw_seq ?_;have B3 := Ext.refl H8;refine zp (pU (.agg #[sv B9 0 24 24]) (xl (ld50 (Bh.1))) ?_);refine pD (.agg #[iv 0, iv 100]) (.agg #[iv 1, sv B9 0 24 24, iv 0, iv 100, iv 0, iv 90, .bool false, iv 0, iv 0, iv 0, .slice none 0 0, .slice none 0 0]) ?_;refine pS (sw 55 #[iv 0, .slice none 0 0, iv 0, iv 0, iv 0, iv 0, .bool false, iv 0, iv 0, iv 0, .slice none 0 0, .slice none 0 0] ?_);intro Fq Hq Fw Hj hb hbx;have ⟨B4, B5, B6, B7, B8, Ba, Bc, Be, Bf, Bg, B1, B2⟩ := bq12 hbx;refine mv2 hb hE B3 fun hE B3=>?_;have Fs := hb.size;have Ha := B4.lt;refine pP (sn_setK12 (O := Fq) (j := 0) (v0 := iv 1) (v1 := sv B9 0 24 24) (v2 := iv 0) (v3 := iv 100) (v4 := iv 0) (v5 := iv 90) (v6 := .bool false) (v7 := iv 0) (v8 := iv 0) (v9 := iv 0) (v10 := .slice none 0 0) (v11 := .slice none 0 0) (xt (pw Fq 0) (.agg #[iv 1, sv B9 0 24 24, iv 0, iv 100, iv 0, iv 90, .bool false, iv 0, iv 0, iv 0, .slice none 0 0, .slice none 0 0]) (st55 B4.1 B4.2 B5.1 B5.2 B6.1 B6.2 B7.1 B7.2 B8.1 B8.2 Ba.1 Ba.2 Bc.1 Bc.2 Be.1 Be.2 Bf.1 Bf.2 Bg.1 Bg.2 B1.1 B1.2 B2.1 B2.2)) B4 B5 B6 B7 B8 Ba Bc Be Bf Bg B1 B2 ?_)
 intro Hs ho B4 B5 B6 B7 B8 Ba Bc Be Bf Bg B1 B2 hk;replace hE := ho.ext hE (by omega);replace B3 := ho.ext B3 (Nat.le_of_eq Fw);have Fo := Nat.le_of_eq ho.size.symm;clear ho hk;refine zn (zc (zp (pT (iv wi) ?_)));refine pU (.agg #[iv 1, sv B9 0 24 24, iv 0, iv 100, iv 0, iv 90, .bool false, iv 0, iv 0, iv 0, .slice none 0 0, .slice none 0 0]) (xl (ld55 (B4.1) (B5.1) (B6.1) (B7.1) (B8.1) (Ba.1) (Bc.1) (Be.1) (Bf.1) (Bg.1) (B1.1) (B2.1))) ?_;refine pS (sn_newS (us := #[iv 1, sv B9 0 24 24, iv 0, iv 100, iv 0, iv 90, .bool false, iv 0, iv 0, iv 0, .slice none 0 0, .slice none 0 0]) (t := 55) (k := 1) (c := 1) (by kernel_rfl) ?_);intro Fx I4 Gm Hk hb hbx;have ⟨Ed, Et, Eu, Ew, Ey, Ez, F0, F1, F2, F3, Dx, Dy⟩ := bq12 hbx;refine mv12 hb hE B3 B4 B5 B6 B7 B8 Ba Bc Be Bf Bg fun hE B3 B4 B5 B6 B7 B8 Ba Bc Be Bf Bg=>?_;refine mv2 hb B1 B2 fun B1 B2=>?_;have Fv := hb.size;have Hb := Ed.lt;refine pT (.agg #[iv 4, .slice none 0 0, iv 0, iv 0, iv 0, iv 0, .bool false, iv 0, iv 0, iv wi, .slice none 0 0, sv Fx 0 1 1]) ?_;refine pS (sw 55 #[iv 0, .slice none 0 0, iv 0, iv 0, iv 0, iv 0, .bool false, iv 0, iv 0, iv 0, .slice none 0 0, .slice none 0 0] ?_);intro Fu Ht Fm Hm hb hbx;have ⟨Ca, D2, D3, D4, D5, D6, D7, D8, D9, Da, Bt, Bu⟩ := bq12 hbx;refine mv16 hb hE B3 B4 B5 B6 B7 B8 Ba Bc Be Bf Bg B1 B2 Ed Et fun hE B3 B4 B5 B6 B7 B8 Ba Bc Be Bf Bg B1 B2 Ed Et=>?_;refine mv9 hb Eu Ew Ey Ez F0 F1 F2 F3 Dx fun Eu Ew Ey Ez F0 F1 F2 F3 Dx=>?_;replace Dy := Dy.x hb;have H4 := hb.size;have I2 := Ca.lt;refine pP (sn_setK12 (O := Fu) (j := 0) (v0 := iv 4) (v1 := .slice none 0 0) (v2 := iv 0) (v3 := iv 0) (v4 := iv 0) (v5 := iv 0) (v6 := .bool false) (v7 := iv 0) (v8 := iv 0) (v9 := iv wi) (v10 := .slice none 0 0) (v11 := sv Fx 0 1 1) (xt (pw Fu 0) (.agg #[iv 4, .slice none 0 0, iv 0, iv 0, iv 0, iv 0, .bool false, iv 0, iv 0, iv wi, .slice none 0 0, sv Fx 0 1 1]) (st55 Ca.1 Ca.2 D2.1 D2.2 D3.1 D3.2 D4.1 D4.2 D5.1 D5.2 D6.1 D6.2 D7.1 D7.2 D8.1 D8.2 D9.1 D9.2 Da.1 Da.2 Bt.1 Bt.2 Bu.1 Bu.2)) Ca D2 D3 D4 D5 D6 D7 D8 D9 Da Bt Bu ?_);intro Hu ho Ca D2 D3 D4 D5 D6 D7 D8 D9 Da Bt Bu hk;replace hE := ho.ext hE (by omega);replace B3 := ho.ext B3 (by omega);have q9 := ho.bx Fq (by omega);replace B4 := q9 B4;replace B5 := q9 B5;replace B6 := q9 B6;replace B7 := q9 B7;replace B8 := q9 B8;replace Ba := q9 Ba;replace Bc := q9 Bc;replace Be := q9 Be;replace Bf := q9 Bf;replace Bg := q9 Bg;replace B1 := q9 B1;replace B2 := q9 B2;clear q9;have q9 := ho.bx Fx (by omega);replace Ed := q9 Ed;replace Et := q9 Et;replace Eu := q9 Eu;replace Ew := q9 Ew;replace Ey := q9 Ey;replace Ez := q9 Ez;replace F0 := q9 F0;replace F1 := q9 F1;replace F2 := q9 F2;replace F3 := q9 F3;replace Dx := q9 Dx;replace Dy := q9 Dy;clear q9;have H5 := Nat.le_of_eq ho.size.symm;clear ho hk;refine zn (cK [2,3,5,6,7] (fun L => ?_));refine zc (zp (pU (.agg #[sv B9 0 24 24]) (xl (ld50 (Bh.c B3))) ?_));refine pT (.agg #[iv 1, iv 10, iv 1, sv B9 0 24 24, iv 5, iv 0, .bool false]) ?_;refine pU (.agg #[sv B9 0 24 24]) (xl (ld50 (Bh.c B3))) ?_;refine pD (.agg #[iv 1, iv 20, iv 2, sv B9 0 24 24, iv 5, iv 0, .bool false]) (.agg #[iv 2, iv 30, iv 1, .slice none 0 0, iv 0, iv 0, .bool false]) ?_;refine pS (sn_newS (us := #[iv 1, iv 10, iv 1, sv B9 0 24 24, iv 5, iv 0, .bool false, iv 1, iv 20, iv 2, sv B9 0 24 24, iv 5, iv 0, .bool false, iv 2, iv 30, iv 1, .slice none 0 0, iv 0, iv 0, .bool false]) (t := 64) (k := 3) (c := 3) (by kernel_rfl) ?_);intro Gp He Gn Hn hb hbx;have ⟨Fz, Gr, Gs, Gt, Gu, Gv, Gw, Gx, Gy, Gz, Ga, Gc, Gd, Ge, Gf, Gg, Gh, Gi, Gj, Gk, Gl⟩ := bq21 hbx;refine mv16 hb hE B3 B4 B5 B6 B7 B8 Ba Bc Be Bf Bg B1 B2 Ed Et fun hE B3 B4 B5 B6 B7 B8 Ba Bc Be Bf Bg B1 B2 Ed Et=>?_;refine mv16 hb Eu Ew Ey Ez F0 F1 F2 F3 Dx Dy Ca D2 D3 D4 D5 D6 fun Eu Ew Ey Ez F0 F1 F2 F3 Dx Dy Ca D2 D3 D4 D5 D6=>?_;refine mv6 hb D7 D8 D9 Da Bt Bu fun D7 D8 D9 Da Bt Bu=>?_;have Hx := hb.size;have I3 := Fz.lt;refine pT (sv Gp 0 3 3) ?_;refine pl_nil (qw_then ?_);refine cw_seq ?_;have B0 := Ext.refl He
 refine dE Tz74_0 (fun w' => w'.cell? ⟨Fq, 0, none⟩ = some (iv 1) ∧ w'.cell? ⟨Fq, 1, none⟩ = some (sv B9 0 24 24) ∧ w'.cell? ⟨Fq, 2, none⟩ = some (iv 0) ∧ w'.cell? ⟨Fq, 3, none⟩ = some (iv 100) ∧ w'.cell? ⟨Fq, 4, none⟩ = some (iv 0) ∧ w'.cell? ⟨Fq, 5, none⟩ = some (iv 90) ∧ w'.cell? ⟨Fq, 6, none⟩ = some (.bool false) ∧ w'.cell? ⟨Fq, 7, none⟩ = some (iv 0) ∧ w'.cell? ⟨Fq, 8, none⟩ = some (iv 0) ∧ w'.cell? ⟨Fq, 9, none⟩ = some (iv 0) ∧ w'.cell? ⟨Fq, 10, none⟩ = some (.slice none 0 0) ∧ w'.cell? ⟨Fq, 11, none⟩ = some (.slice none 0 0) ∧ w'.cell? ⟨Fu, 0, none⟩ = some (iv 4) ∧ w'.cell? ⟨Fu, 1, none⟩ = some (.slice none 0 0) ∧ w'.cell? ⟨Fu, 2, none⟩ = some (iv 0) ∧ w'.cell? ⟨Fu, 3, none⟩ = some (iv 0) ∧ w'.cell? ⟨Fu, 4, none⟩ = some (iv 0) ∧ w'.cell? ⟨Fu, 5, none⟩ = some (iv 0) ∧ w'.cell? ⟨Fu, 6, none⟩ = some (.bool false) ∧ w'.cell? ⟨Fu, 7, none⟩ = some (iv 0) ∧ w'.cell? ⟨Fu, 8, none⟩ = some (iv 0) ∧ w'.cell? ⟨Fu, 9, none⟩ = some (iv wi) ∧ w'.cell? ⟨Fu, 10, none⟩ = some (.slice none 0 0) ∧ w'.cell? ⟨Fu, 11, none⟩ = some (sv Fx 0 1 1)) (⟨B4.1, B5.1, B6.1, B7.1, B8.1, Ba.1, Bc.1, Be.1, Bf.1, Bg.1, B1.1, B2.1, Ca.1, D2.1, D3.1, D4.1, D5.1, D6.1, D7.1, D8.1, D9.1, Da.1, Bt.1, Bu.1⟩) (fun ops Q Hw hb hL hR hK => ?_);refine mv3 hb hE B3 B0 fun hE B3 B0=>?_;have Hy := hb.size;have hS := A24 (B4.c B0) (B5.c B0) (B6.c B0) (B7.c B0) (B8.c B0) (Ba.c B0) (Bc.c B0) (Be.c B0) (Bf.c B0) (Bg.c B0) (B1.c B0) (B2.c B0) (Ca.c B0) (D2.c B0) (D3.c B0) (D4.c B0) (D5.c B0) (D6.c B0) (D7.c B0) (D8.c B0) (D9.c B0) (Da.c B0) (Bt.c B0) (Bu.c B0);refine wM 0 (.agg #[iv 1, sv B9 0 24 24, iv 0, iv 100, iv 0, iv 90, .bool false, iv 0, iv 0, iv 0, .slice none 0 0, .slice none 0 0]) hR (fun w hS => ld55 (hS.1) (hS.2.1) (hS.2.2.1) (hS.2.2.2.1) (hS.2.2.2.2.1) (hS.2.2.2.2.2.1) (hS.2.2.2.2.2.2.1) (hS.2.2.2.2.2.2.2.1) (hS.2.2.2.2.2.2.2.2.1) (hS.2.2.2.2.2.2.2.2.2.1) (hS.2.2.2.2.2.2.2.2.2.2.1) (hS.2.2.2.2.2.2.2.2.2.2.2.1)) hS ?_;refine wM 1 (.agg #[iv 4, .slice none 0 0, iv 0, iv 0, iv 0, iv 0, .bool false, iv 0, iv 0, iv wi, .slice none 0 0, sv Fx 0 1 1]) hR (fun w hS => ld55 (hS.2.2.2.2.2.2.2.2.2.2.2.2.1) (hS.2.2.2.2.2.2.2.2.2.2.2.2.2.1) (hS.2.2.2.2.2.2.2.2.2.2.2.2.2.2.1) (hS.2.2.2.2.2.2.2.2.2.2.2.2.2.2.2.1) (hS.2.2.2.2.2.2.2.2.2.2.2.2.2.2.2.2.1) (hS.2.2.2.2.2.2.2.2.2.2.2.2.2.2.2.2.2.1) (hS.2.2.2.2.2.2.2.2.2.2.2.2.2.2.2.2.2.2.1) (hS.2.2.2.2.2.2.2.2.2.2.2.2.2.2.2.2.2.2.2.1) (hS.2.2.2.2.2.2.2.2.2.2.2.2.2.2.2.2.2.2.2.2.1) (hS.2.2.2.2.2.2.2.2.2.2.2.2.2.2.2.2.2.2.2.2.2.1) (hS.2.2.2.2.2.2.2.2.2.2.2.2.2.2.2.2.2.2.2.2.2.2.1) (hS.2.2.2.2.2.2.2.2.2.2.2.2.2.2.2.2.2.2.2.2.2.2.2)) hS ?_;refine wV 2 (sv Gp 0 3 3) hR hS ?_;have Cd := (E3.x B3);have Ce := (E4.x B3);have Cf := (E5.x B3);have Cg := (E6.x B3);have Ch := (E7.x B3);have Ci := (E8.x B3);have Cj := (E9.x B3);have Ck := (Ea.x B3);have Cm := (Eb.x B3);have Cn := (Ec.x B3);have Co := (Bv.x B3);have Cp := (Bw.x B3);have Cq := (Es.x B3);have Cr := (F6.x B3);have Cs := (F7.x B3);have Ct := (F8.x B3);have Cu := (F9.x B3);have Cv := (Fa.x B3);have Cw := (Fb.x B3);have Cx := (Fc.x B3);have Cy := (Fd.x B3);have Cz := (Fe.x B3);have D0 := (Dz.x B3);have D1 := (E0.x B3);have F5 := (Bh.x B3);have Fr := (Ff.ext B3);have Bx := (B4.x B0);have Bz := (B5.x B0);have C0 := (B6.x B0);have C1 := (B7.x B0);have C2 := (B8.x B0);have C3 := (Ba.x B0);have C4 := (Bc.x B0);have C5 := (Be.x B0);have C6 := (Bf.x B0);have C7 := (Bg.x B0);have C8 := (B1.x B0);have C9 := (B2.x B0);have Ee := (Ed.x B0);have Ef := (Et.x B0);have Eg := (Eu.x B0);have Eh := (Ew.x B0);have Ei := (Ey.x B0);have Ej := (Ez.x B0);have Ek := (F0.x B0);have El := (F1.x B0);have Em := (F2.x B0);have En := (F3.x B0);have Eo := (Dx.x B0);have Ep := (Dy.x B0);have Cb := (Ca.x B0);have Cc := (D2.x B0);have Bi := (D3.x B0);have Bj := (D4.x B0);have Bk := (D5.x B0);have Bl := (D6.x B0);have Bm := (D7.x B0);have Bo := (D8.x B0);have Bp := (D9.x B0);have Bq := (Da.x B0);have Br := (Bt.x B0);have Bs := (Bu.x B0);have Db := (Fz.x B0);have Dc := (Gr.x B0);have Dd := (Gs.x B0);have De := (Gt.x B0);have Df := (Gu.x B0);have Dg := (Gv.x B0);have Dh := (Gw.x B0);have Di := (Gx.x B0);have Dj := (Gy.x B0);have Dk := (Gz.x B0);have Dl := (Ga.x B0);have Dm := (Gc.x B0);have Dn := (Gd.x B0);have Do := (Ge.x B0);have Dp := (Gf.x B0);have Dq := (Gg.x B0);have Dr := (Gh.x B0);have Dt := (Gi.x B0);have Du := (Gj.x B0);have Dv := (Gk.x B0);have Dw := (Gl.x B0);refine wS 3 hR (sn_setK12 (O := O1) (j := 0) (v0 := iv 1) (v1 := sv B9 0 24 24) (v2 := iv 0) (v3 := iv 100) (v4 := iv 0) (v5 := iv 90) (v6 := .bool false) (v7 := iv 0) (v8 := iv 0) (v9 := iv 0) (v10 := .slice none 0 0) (v11 := .slice none 0 0) (ex_store (p := pw O1 0) (v := .agg #[iv 1, sv B9 0 24 24, iv 0, iv 100, iv 0, iv 90, .bool false, iv 0, iv 0, iv 0, .slice none 0 0, .slice none 0 0]) rfl (by kernel_rfl) (by kernel_rfl) (st55 Cd.1 Cd.2 Ce.1 Ce.2 Cf.1 Cf.2 Cg.1 Cg.2 Ch.1 Ch.2 Ci.1 Ci.2 Cj.1 Cj.2 Ck.1 Ck.2 Cm.1 Cm.2 Cn.1 Cn.2 Co.1 Co.2 Cp.1 Cp.2)) Cd Ce Cf Cg Ch Ci Cj Ck Cm Cn Co Cp ?_);intro Hf ho Ft G0 G1 G2 G3 G4 G5 G6 G7 G8 Fg Fh hk;replace hE := ho.ext hE (Nat.le_of_eq H9);have q9 := ho.bx O5 (by omega);replace Cq := q9 Cq;replace Cr := q9 Cr;replace Cs := q9 Cs;replace Ct := q9 Ct;replace Cu := q9 Cu;replace Cv := q9 Cv;replace Cw := q9 Cw;replace Cx := q9 Cx;replace Cy := q9 Cy;replace Cz := q9 Cz;replace D0 := q9 D0;replace D1 := q9 D1;clear q9;replace Fr := ho.rows (by omega) Fr;have q9 := ho.bx Fq (by omega);replace Bx := q9 Bx;replace Bz := q9 Bz;replace C0 := q9 C0;replace C1 := q9 C1;replace C2 := q9 C2;replace C3 := q9 C3;replace C4 := q9 C4;replace C5 := q9 C5;replace C6 := q9 C6;replace C7 := q9 C7;replace C8 := q9 C8;replace C9 := q9 C9;clear q9;have q9 := ho.bx Fx (by omega);replace Ee := q9 Ee;replace Ef := q9 Ef;replace Eg := q9 Eg;replace Eh := q9 Eh;replace Ei := q9 Ei;replace Ej := q9 Ej;replace Ek := q9 Ek;replace El := q9 El;replace Em := q9 Em;replace En := q9 En;replace Eo := q9 Eo;replace Ep := q9 Ep;clear q9
 have q9 := ho.bx Fu (by omega);replace Cb := q9 Cb;replace Cc := q9 Cc;replace Bi := q9 Bi;replace Bj := q9 Bj;replace Bk := q9 Bk;replace Bl := q9 Bl;replace Bm := q9 Bm;replace Bo := q9 Bo;replace Bp := q9 Bp;replace Bq := q9 Bq;replace Br := q9 Br;replace Bs := q9 Bs;clear q9;have q9 := ho.bx Gp (by omega);replace Db := q9 Db;replace Dc := q9 Dc;replace Dd := q9 Dd;replace De := q9 De;replace Df := q9 Df;replace Dg := q9 Dg;replace Dh := q9 Dh;replace Di := q9 Di;replace Dj := q9 Dj;replace Dk := q9 Dk;replace Dl := q9 Dl;replace Dm := q9 Dm;replace Dn := q9 Dn;replace Do := q9 Do;replace Dp := q9 Dp;replace Dq := q9 Dq;replace Dr := q9 Dr;replace Dt := q9 Dt;replace Du := q9 Du;replace Dv := q9 Dv;replace Dw := q9 Dw;clear q9;have Hg := Nat.le_of_eq ho.size.symm;clear ho hk Cd Ce Cf Cg Ch Ci Cj Ck Cm Cn Co Cp;have Cd := Ft;clear Ft;have Ce := G0;clear G0;have Cf := G1;clear G1;have Cg := G2;clear G2;have Ch := G3;clear G3;have Ci := G4;clear G4;have Cj := G5;clear G5;have Ck := G6;clear G6;have Cm := G7;clear G7;have Cn := G8;clear G8;have Co := Fg;clear Fg;have Cp := Fh;clear Fh;refine ⟨⟨Bx.1, Bz.1, C0.1, C1.1, C2.1, C3.1, C4.1, C5.1, C6.1, C7.1, C8.1, C9.1, Cb.1, Cc.1, Bi.1, Bj.1, Bk.1, Bl.1, Bm.1, Bo.1, Bp.1, Bq.1, Br.1, Bs.1⟩, ?_⟩;refine wS 4 hR (sn_setK12 (O := O5) (j := 0) (v0 := iv 4) (v1 := .slice none 0 0) (v2 := iv 0) (v3 := iv 0) (v4 := iv 0) (v5 := iv 0) (v6 := .bool false) (v7 := iv 0) (v8 := iv 0) (v9 := iv wi) (v10 := .slice none 0 0) (v11 := sv Fx 0 1 1) (ex_store (p := pw O5 0) (v := .agg #[iv 4, .slice none 0 0, iv 0, iv 0, iv 0, iv 0, .bool false, iv 0, iv 0, iv wi, .slice none 0 0, sv Fx 0 1 1]) rfl (by kernel_rfl) (by kernel_rfl) (st55 Cq.1 Cq.2 Cr.1 Cr.2 Cs.1 Cs.2 Ct.1 Ct.2 Cu.1 Cu.2 Cv.1 Cv.2 Cw.1 Cw.2 Cx.1 Cx.2 Cy.1 Cy.2 Cz.1 Cz.2 D0.1 D0.2 D1.1 D1.2)) Cq Cr Cs Ct Cu Cv Cw Cx Cy Cz D0 D1 ?_);intro Gq ho Cq Cr Cs Ct Cu Cv Cw Cx Cy Cz D0 D1 hk;replace hE := ho.ext hE (Tq H3 (Nat.le_of_eq H0));replace Fr := ho.rows (by omega) Fr;have q9 := ho.bx Fq (by omega);replace Bx := q9 Bx;replace Bz := q9 Bz;replace C0 := q9 C0;replace C1 := q9 C1;replace C2 := q9 C2;replace C3 := q9 C3;replace C4 := q9 C4;replace C5 := q9 C5;replace C6 := q9 C6;replace C7 := q9 C7;replace C8 := q9 C8;replace C9 := q9 C9;clear q9;have q9 := ho.bx Fx (by omega);replace Ee := q9 Ee;replace Ef := q9 Ef;replace Eg := q9 Eg;replace Eh := q9 Eh;replace Ei := q9 Ei;replace Ej := q9 Ej;replace Ek := q9 Ek;replace El := q9 El;replace Em := q9 Em;replace En := q9 En;replace Eo := q9 Eo;replace Ep := q9 Ep;clear q9;have q9 := ho.bx Fu (by omega);replace Cb := q9 Cb;replace Cc := q9 Cc;replace Bi := q9 Bi;replace Bj := q9 Bj;replace Bk := q9 Bk;replace Bl := q9 Bl;replace Bm := q9 Bm;replace Bo := q9 Bo;replace Bp := q9 Bp;replace Bq := q9 Bq;replace Br := q9 Br;replace Bs := q9 Bs;clear q9;have q9 := ho.bx Gp (by omega);replace Db := q9 Db;replace Dc := q9 Dc;replace Dd := q9 Dd;replace De := q9 De;replace Df := q9 Df;replace Dg := q9 Dg;replace Dh := q9 Dh;replace Di := q9 Di;replace Dj := q9 Dj;replace Dk := q9 Dk;replace Dl := q9 Dl;replace Dm := q9 Dm;replace Dn := q9 Dn;replace Do := q9 Do;replace Dp := q9 Dp;replace Dq := q9 Dq;replace Dr := q9 Dr;replace Dt := q9 Dt;replace Du := q9 Du;replace Dv := q9 Dv;replace Dw := q9 Dw;clear q9;have q9 := ho.bx O1 (by omega);replace Cd := q9 Cd;replace Ce := q9 Ce;replace Cf := q9 Cf;replace Cg := q9 Cg;replace Ch := q9 Ch;replace Ci := q9 Ci;replace Cj := q9 Cj;replace Ck := q9 Ck;replace Cm := q9 Cm;replace Cn := q9 Cn;replace Co := q9 Co;replace Cp := q9 Cp;clear q9;have Hh := Nat.le_of_eq ho.size.symm;clear ho hk;refine ⟨⟨Bx.1, Bz.1, C0.1, C1.1, C2.1, C3.1, C4.1, C5.1, C6.1, C7.1, C8.1, C9.1, Cb.1, Cc.1, Bi.1, Bj.1, Bk.1, Bl.1, Bm.1, Bo.1, Bp.1, Bq.1, Br.1, Bs.1⟩, ?_⟩;refine wV 5 (sv Gp 0 3 3) hR (⟨Bx.1, Bz.1, C0.1, C1.1, C2.1, C3.1, C4.1, C5.1, C6.1, C7.1, C8.1, C9.1, Cb.1, Cc.1, Bi.1, Bj.1, Bk.1, Bl.1, Bm.1, Bo.1, Bp.1, Bq.1, Br.1, Bs.1⟩) ?_;refine we hL hR hK ?_;refine zq (cK [2,3,4] (fun L => ?_));refine cw_ret (qw_ret [.agg #[iv 1, sv B9 0 24 24, iv 0, iv 100, iv 0, iv 90, .bool false, iv 0, iv 0, iv 0, .slice none 0 0, .slice none 0 0], .agg #[iv 4, .slice none 0 0, iv 0, iv 0, iv 0, iv 0, .bool false, iv 0, iv 0, iv wi, .slice none 0 0, sv Fx 0 1 1], sv Gp 0 3 3] rfl ⟨⟨_, by kernel_rfl, res_ld (ld55 (Cd.1) (Ce.1) (Cf.1) (Cg.1) (Ch.1) (Ci.1) (Cj.1) (Ck.1) (Cm.1) (Cn.1) (Co.1) (Cp.1))⟩, ⟨_, by kernel_rfl, res_ld (ld55 (Cq.1) (Cr.1) (Cs.1) (Ct.1) (Cu.1) (Cv.1) (Cw.1) (Cx.1) (Cy.1) (Cz.1) (D0.1) (D1.1))⟩, (by kernel_rfl), trivial⟩ ?_);have hva : VA Gq B9 0 Ex.rws := RowsAt.va (L := Ex.rws) Fr (by kernel_rfl);have hks := ks_one (g := Ex.seeG) (x := ⟨some ⟨B9, 0, none⟩, 24, 24, none, 0, 0, none, 0, 0⟩) (⟨(Ee).1, (Ef).1, (Eg).1, (Eh).1, (Ei).1, (Ej).1, (Ek).1, (El).1, (Em).1, (En).1, (Eo).1, (Ep).1⟩ : GCs Gq Fx 0 Ex.seeG.f _) (gop_see hva) (ks_nil _ _ _);exact ⟨B9, Fx, Gp, rfl, gop_see hva, gop_ks rfl rfl rfl (by decide) hks, evs3_at (x0 := ⟨some ⟨B9, 0, none⟩, 24, 24⟩) (e0 := ⟨1, 10, 1, Ex.rws, 5, 0, false⟩) (⟨(Db).1, (Dc).1, (Dd).1, (De).1, (Df).1, (Dg).1, (Dh).1, hva.aa⟩) (x1 := ⟨some ⟨B9, 0, none⟩, 24, 24⟩) (e1 := ⟨1, 20, 2, Ex.rws, 5, 0, false⟩) (⟨(Di).1, (Dj).1, (Dk).1, (Dl).1, (Dm).1, (Dn).1, (Do).1, hva.aa⟩) (x2 := ⟨none, 0, 0⟩) (e2 := ⟨2, 30, 1, [], 0, 0, false⟩) (⟨(Dp).1, (Dq).1, (Dr).1, (Dt).1, (Du).1, (Dv).1, (Dw).1, aa_none _⟩), hE⟩
end Go.Proofs.YtpfajhcdfgpgmaaDoor

namespace Go.Proofs.YtpfajhcdfgpgmaaDoor
set_option maxRecDepth 1000000
set_option maxHeartbeats 4000000
set_option synthInstance.maxHeartbeats 0
set_option synthInstance.maxSize 9999
open Go.RowKit
theorem opt_some {lo : Nat} {w w' : World} {o : Option (Int × Int × List Nod)} {e : Ending} {E S : Int} {N : List Nod} {k : Nat} (h : ∃ E' S' a' m' c' er, e = .returned (.tuple #[.agg #[.int .i64 E', .int .i64 S', .slice a' m' c'], .int .i64 er]) ∧ OptM lo w' o E' S' a' m' c' er ∧ Ext w w') (ho : o = some (E, S, N)) (hk : N.length = k) : ∃ a c, e = .returned (.tuple #[.agg #[.int .i64 E, .int .i64 S, .slice a k c], .int .i64 0]) ∧ NdsAt w' a k N ∧ Ext w w' := by
  obtain ⟨E', S', a', m', c', er, h1, h2, h3⟩ := h
  rcases h2 with ⟨N', q1, rfl, q3, _⟩ | ⟨q1, _⟩
  · rw [ho] at q1
    cases q1
    obtain rfl : k = m' := by rw [← hk, q3.len]
    exact ⟨a', c', h1, q3, h3⟩
  · rw [ho] at q1; cases q1
theorem opt_none {lo : Nat} {w w' : World} {o : Option (Int × Int × List Nod)} {e : Ending} (h : ∃ E' S' a' m' c' er, e = .returned (.tuple #[.agg #[.int .i64 E', .int .i64 S', .slice a' m' c'], .int .i64 er]) ∧ OptM lo w' o E' S' a' m' c' er ∧ Ext w w') (ho : o = none) : e = .returned (.tuple #[.agg #[.int .i64 0, .int .i64 0, .slice none 0 0], .int .i64 140]) ∧ Ext w w' := by
 obtain ⟨E', S', a', m', c', er, h1, h2, h3⟩ := h
 rcases h2 with ⟨N', q1, _⟩ | ⟨_, rfl, rfl, rfl, rfl, rfl, rfl⟩
 · rw [ho] at q1; cases q1
 · exact ⟨h1, h3⟩
section
variable {w1 w2 : World} {a1 a2 : Option Addr} {m1 m2 : Nat} {N1 N2 : List Nod} {E1 S1 E2 S2 : Int}
theorem rmSame_t (c1 c2 : Nat) (w : World) (H1 : NdsAt w1 a1 m1 N1) (e1 : Ext w1 w) (H2 : NdsAt w2 a2 m2 N2) (e2 : Ext w2 w) (h : E1 = E2 ∧ S1 = S2 ∧ N1 = N2) : Calls Tryd.prog 16 #[.agg #[.int .i64 E1, .int .i64 S1, .slice a1 m1 c1], .agg #[.int .i64 E2, .int .i64 S2, .slice a2 m2 c2]] w fun e w' => e = .returned (.bool true) ∧ Ext w w' :=
 (rmSame_c c1 c2 w H1 e1 H2 e2).mono fun r w' hq => by rw [decide_eq_true h] at hq; exact hq
theorem mSame_t (c1 c2 : Nat) (w : World) (H1 : NdsAt w1 a1 m1 N1) (e1 : Ext w1 w) (H2 : NdsAt w2 a2 m2 N2) (e2 : Ext w2 w) (h : E1 = E2 ∧ S1 = S2 ∧ N1 = N2) : Calls Tryd.prog 21 #[.agg #[.int .i64 E1, .int .i64 S1, .slice a1 m1 c1], .agg #[.int .i64 E2, .int .i64 S2, .slice a2 m2 c2]] w fun e w' => e = .returned (.bool true) ∧ Ext w w' :=
 (Same_c c1 c2 w H1 e1 H2 e2).mono fun r w' hq => by rw [decide_eq_true h] at hq; exact hq
theorem mSame_f (c1 c2 : Nat) (w : World) (H1 : NdsAt w1 a1 m1 N1) (e1 : Ext w1 w) (H2 : NdsAt w2 a2 m2 N2) (e2 : Ext w2 w) (h : ¬ (E1 = E2 ∧ S1 = S2 ∧ N1 = N2)) : Calls Tryd.prog 21 #[.agg #[.int .i64 E1, .int .i64 S1, .slice a1 m1 c1], .agg #[.int .i64 E2, .int .i64 S2, .slice a2 m2 c2]] w fun e w' => e = .returned (.bool false) ∧ Ext w w' :=
 (Same_c c1 c2 w H1 e1 H2 e2).mono fun r w' hq => by rw [decide_eq_false h] at hq; exact hq
end
theorem nds2_at {w : World} {b : Nat} {x0 x1 x2 y0 y1 y2 : Int} (h0 : w.cell? ⟨b, 0, none⟩ = some (.int .i64 x0)) (h1 : w.cell? ⟨b, 1, none⟩ = some (.int .i64 x1)) (h2 : w.cell? ⟨b, 2, none⟩ = some (.int .i64 x2)) (h3 : w.cell? ⟨b, 3, none⟩ = some (.int .i64 y0)) (h4 : w.cell? ⟨b, 4, none⟩ = some (.int .i64 y1)) (h5 : w.cell? ⟨b, 5, none⟩ = some (.int .i64 y2)) : NdsAt w (some ⟨b, 0, none⟩) 2 [(x0, x1, x2), (y0, y1, y2)] :=
 ⟨rfl, by decide, .inr ⟨b, 0, rfl, ⟨fun i x hx => by
  match i, hx with
  | 0, hx => cases hx; exact ⟨h0, h1, h2⟩
  | 1, hx => cases hx; exact ⟨h3, h4, h5⟩
  | i + 2, hx => simp at hx⟩⟩⟩
theorem rg_see : Evs.RG 4 Ex.seeG := .inl rfl
theorem rg_del (wi : Int) : Evs.RG 4 (Ex.delG wi) := .inr (.inl ⟨rfl, Nat.one_pos, .inl rfl⟩)
theorem rg_all : Evs.RG 4 Ex.allG := .inr (.inr ⟨.inl rfl, by show 2 ≤ 4; decide, fun i hi => by
 match i, hi with
 | 0, _ => exact .inl rfl
 | 1, _ => exact .inr (.inl ⟨rfl, Nat.one_pos, .inl rfl⟩)
 | i + 2, hi => exact absurd (show i + 2 < 2 from hi) (by omega)⟩)
theorem ints3_at {w : World} {b : Nat} {x y z : Int} (h0 : w.cell? ⟨b, 0, none⟩ = some (.int .i64 x)) (h1 : w.cell? ⟨b, 1, none⟩ = some (.int .i64 y)) (h2 : w.cell? ⟨b, 2, none⟩ = some (.int .i64 z)) : IntsAt w (some ⟨b, 0, none⟩) [x, y, z] :=
 .inr ⟨b, 0, rfl, fun i hi => by
  match i, hi with
  | 0, _ => exact h0
  | 1, _ => exact h1
  | 2, _ => exact h2
  | i + 3, hi => exact absurd (show i + 3 < 3 from hi) (by omega)⟩
theorem chp_is {w w' : World} {e : Ending} {o9 : Option Bdd.Off} {o : Bdd.Off} (h : ∃ (x y : Int) (b : Bool) (z : Int), e = .returned (.tuple #[.int .i64 x, .int .i64 y, .bool b, .int .i64 z]) ∧ ((∃ o, o9 = some o ∧ x = ((o.2.2 : Nat) : Int) ∧ y = ((o.2.1 : Nat) : Int) ∧ b = o.1 ∧ z = 0) ∨ (o9 = none ∧ x = 0 ∧ y = 0 ∧ b = false ∧ z = 140)) ∧ Ext w w') (ho : o9 = some o) : e = .returned (.tuple #[.int .i64 ((o.2.2 : Nat) : Int), .int .i64 ((o.2.1 : Nat) : Int), .bool o.1, .int .i64 0]) ∧ Ext w w' := by
 obtain ⟨x, y, b, z, h1, h2, h3⟩ := h
 rcases h2 with ⟨o', q1, rfl, rfl, rfl, rfl⟩ | ⟨q1, _⟩
 · rw [ho] at q1; cases q1; exact ⟨h1, h3⟩
 · rw [ho] at q1; cases q1
section
variable {w0 : World} {a : Option Addr} {ml : Nat} {N : List Nod} {E S : Int}
theorem Count_r {x y : Int} (c : Nat) (w : World) (H : NdsAt w0 a ml N) (e0 : Ext w0 w) (h1 : Bdd.cntM E S N = x) (h2 : Bdd.errV E S N = y) : Calls Tryd.prog 18 #[.agg #[.int .i64 E, .int .i64 S, .slice a ml c]] w fun e w' => e = .returned (.tuple #[.int .i64 x, .int .i64 y]) ∧ Ext w w' := by
 subst h1; subst h2; exact Count_c c w H e0
theorem Needed_r {x y : Int} (c : Nat) (w : World) (H : NdsAt w0 a ml N) (e0 : Ext w0 w) (h1 : Bdd.needM E S N = x) (h2 : Bdd.errV E S N = y) : Calls Tryd.prog 13 #[.agg #[.int .i64 E, .int .i64 S, .slice a ml c]] w fun e w' => e = .returned (.tuple #[.int .i64 x, .int .i64 y]) ∧ Ext w w' := by
 subst h1; subst h2; exact Needed_c c w H e0
theorem After_r {b1 b2 : Bool} {z : Int} (K V : Int) (c : Nat) (w : World) (H : NdsAt w0 a ml N) (e0 : Ext w0 w) (h1 : Bdd.surO (Bdd.aft E S N K V) = b1) (h2 : Bdd.canO (Bdd.aft E S N K V) = b2) (h3 : Bdd.errO (Bdd.aft E S N K V) = z) : Calls Tryd.prog 10 #[.agg #[.int .i64 E, .int .i64 S, .slice a ml c], .int .i64 K, .int .i64 V] w fun e w' => e = .returned (.tuple #[.bool b1, .bool b2, .int .i64 z]) ∧ Ext w w' := by
 subst h1; subst h2; subst h3; exact After_c K V c w H e0
theorem Accepts_r {b : Bool} (V : Int) (c : Nat) (w : World) (H : NdsAt w0 a ml N) (e0 : Ext w0 w) (h : Bdd.accB E S N V = b) : Calls Tryd.prog 11 #[.agg #[.int .i64 E, .int .i64 S, .slice a ml c], .int .i64 V] w fun e w' => e = .returned (.bool b) ∧ Ext w w' := by
 subst h; exact Accepts_c V c w H e0
theorem Cheapest_r {o : Bdd.Off} {al : Option Addr} {kl : Nat} {l : List Int} (c cl : Nat) (w : World) (H : NdsAt w0 a ml N) (HL : IntsAt w0 al l) (hlc : l.length = kl) (hk9 : kl ≤ 1000000000) (e0 : Ext w0 w) (ho : Bdd.chpM E S N l = some o) : Calls Tryd.prog 12 #[.agg #[.int .i64 E, .int .i64 S, .slice a ml c], .slice al kl cl] w fun e w' => e = .returned (.tuple #[.int .i64 ((o.2.2 : Nat) : Int), .int .i64 ((o.2.1 : Nat) : Int), .bool o.1, .int .i64 0]) ∧ Ext w w' :=
 (Cheapest_c c cl w H HL hlc hk9 e0).mono fun _r _w' hq => chp_is hq ho
end
theorem sane_c (w : World) (hT : Tab w) : Calls Tryd.prog 7 #[] w fun e w' => e = .returned (.bool true) ∧ Ext w w' := by
 refine calls_cw 242 [] Tryd.func7 rfl Tryd.ntmps7 (by kernel_rfl) (by kernel_rfl) (fun L => ?_);have hE := Ext.refl w;refine zc (zp (pT (.bool false) ?_));refine zn (zc (zp (pS (sc 22 #[iv 20] ((example_c 20 _).mono ?_)))));rintro e w7 ⟨A1, K2, b3, rfl, J8, J6, He, hb⟩;replace hE := hE.trans hb;have Gt := hb.size;have Bv := Ext.refl w7;refine ⟨_, rfl, pD (.tuple #[.agg #[iv 1, sv A1 0 24 24, iv 0, iv 100, iv 0, iv 90, .bool false, iv 0, iv 0, iv 0, .slice none 0 0, .slice none 0 0], .agg #[iv 4, .slice none 0 0, iv 0, iv 0, iv 0, iv 0, .bool false, iv 0, iv 0, iv 20, .slice none 0 0, sv K2 0 1 1], sv b3 0 3 3]) (.agg #[iv 1, sv A1 0 24 24, iv 0, iv 100, iv 0, iv 90, .bool false, iv 0, iv 0, iv 0, .slice none 0 0, .slice none 0 0]) ?_⟩;refine pD (.agg #[iv 4, .slice none 0 0, iv 0, iv 0, iv 0, iv 0, .bool false, iv 0, iv 0, iv 20, .slice none 0 0, sv K2 0 1 1]) (sv b3 0 3 3) ?_;refine pS (sw 55 #[iv 0, .slice none 0 0, iv 0, iv 0, iv 0, iv 0, .bool false, iv 0, iv 0, iv 0, .slice none 0 0, .slice none 0 0] ?_);intro Hz L8 H4 Jo hb hbx;have ⟨Cu, D0, D1, D2, D3, D4, D5, D6, D7, D8, Ch, Ci⟩ := bq12 hbx;refine mv2 hb hE Bv fun hE Bv=>?_;have Dj := hb.size;have Hj := Cu.lt;refine pS (sw 55 #[iv 0, .slice none 0 0, iv 0, iv 0, iv 0, iv 0, .bool false, iv 0, iv 0, iv 0, .slice none 0 0, .slice none 0 0] ?_);intro I1 Kd Gp Jp hb hbx;have ⟨Dg, Du, Dv, Dw, Dx, Dy, Dz, E0, E3, E4, Cw, Cx⟩ := bq12 hbx;refine mv12 hb hE Bv Cu D0 D1 D2 D3 D4 D5 D6 D7 D8 fun hE Bv Cu D0 D1 D2 D3 D4 D5 D6 D7 D8=>?_;refine mv2 hb Ch Ci fun Ch Ci=>?_;have Ey := hb.size;have Km := Dg.lt;refine pP (sn_setK12 (O := Hz) (j := 0) (v0 := iv 1) (v1 := sv A1 0 24 24) (v2 := iv 0) (v3 := iv 100) (v4 := iv 0) (v5 := iv 90) (v6 := .bool false) (v7 := iv 0) (v8 := iv 0) (v9 := iv 0) (v10 := .slice none 0 0) (v11 := .slice none 0 0) (xt (pw Hz 0) (.agg #[iv 1, sv A1 0 24 24, iv 0, iv 100, iv 0, iv 90, .bool false, iv 0, iv 0, iv 0, .slice none 0 0, .slice none 0 0]) (st55 Cu.1 Cu.2 D0.1 D0.2 D1.1 D1.2 D2.1 D2.2 D3.1 D3.2 D4.1 D4.2 D5.1 D5.2 D6.1 D6.2 D7.1 D7.2 D8.1 D8.2 Ch.1 Ch.2 Ci.1 Ci.2)) Cu D0 D1 D2 D3 D4 D5 D6 D7 D8 Ch Ci ?_);intro J3 ho Cu D0 D1 D2 D3 D4 D5 D6 D7 D8 Ch Ci hk;replace hE := ho.ext hE (Tq Gt (Nat.le_of_eq H4));replace Bv := ho.ext Bv (Nat.le_of_eq H4);have q9 := ho.bx I1 (by omega);replace Dg := q9 Dg;replace Du := q9 Du;replace Dv := q9 Dv;replace Dw := q9 Dw;replace Dx := q9 Dx;replace Dy := q9 Dy;replace Dz := q9 Dz;replace E0 := q9 E0;replace E3 := q9 E3;replace E4 := q9 E4;replace Cw := q9 Cw;replace Cx := q9 Cx;clear q9;have Ez := Nat.le_of_eq ho.size.symm;clear ho hk;refine pP (sn_setK12 (O := I1) (j := 0) (v0 := iv 4) (v1 := .slice none 0 0) (v2 := iv 0) (v3 := iv 0) (v4 := iv 0) (v5 := iv 0) (v6 := .bool false) (v7 := iv 0) (v8 := iv 0) (v9 := iv 20) (v10 := .slice none 0 0) (v11 := sv K2 0 1 1) (xt (pw I1 0) (.agg #[iv 4, .slice none 0 0, iv 0, iv 0, iv 0, iv 0, .bool false, iv 0, iv 0, iv 20, .slice none 0 0, sv K2 0 1 1]) (st55 Dg.1 Dg.2 Du.1 Du.2 Dv.1 Dv.2 Dw.1 Dw.2 Dx.1 Dx.2 Dy.1 Dy.2 Dz.1 Dz.2 E0.1 E0.2 E3.1 E3.2 E4.1 E4.2 Cw.1 Cw.2 Cx.1 Cx.2)) Dg Du Dv Dw Dx Dy Dz E0 E3 E4 Cw Cx ?_);intro I8 ho Dg Du Dv Dw Dx Dy Dz E0 E3 E4 Cw Cx hk;replace hE := ho.ext hE (Tq (Tq Gt Dj) (Nat.le_of_eq Gp));replace Bv := ho.ext Bv (Tq Dj (Nat.le_of_eq Gp));have q9 := ho.bx Hz (by omega);replace Cu := q9 Cu;replace D0 := q9 D0;replace D1 := q9 D1;replace D2 := q9 D2;replace D3 := q9 D3;replace D4 := q9 D4;replace D5 := q9 D5;replace D6 := q9 D6;replace D7 := q9 D7;replace D8 := q9 D8;replace Ch := q9 Ch;replace Ci := q9 Ci;clear q9;have F0 := Nat.le_of_eq ho.size.symm;clear ho hk;refine pT (sv b3 0 3 3) ?_;refine pl_nil (qw_then ?_);refine cw_seq ?_;have B0 := Ext.refl I8;refine zp (pS (sc 22 #[iv 19] ((example_c 19 _).mono ?_)));rintro e K5 ⟨Hy, H8, Ig, rfl, Kl, Ij, Kk, hb⟩;refine mv3 hb hE Bv B0 fun hE Bv B0=>?_;have Ct := hb.size;have B3 := Ext.refl K5;refine ⟨_, rfl, pD (.tuple #[.agg #[iv 1, sv Hy 0 24 24, iv 0, iv 100, iv 0, iv 90, .bool false, iv 0, iv 0, iv 0, .slice none 0 0, .slice none 0 0], .agg #[iv 4, .slice none 0 0, iv 0, iv 0, iv 0, iv 0, .bool false, iv 0, iv 0, iv 19, .slice none 0 0, sv H8 0 1 1], sv Ig 0 3 3]) (.agg #[iv 1, sv Hy 0 24 24, iv 0, iv 100, iv 0, iv 90, .bool false, iv 0, iv 0, iv 0, .slice none 0 0, .slice none 0 0]) ?_⟩;refine pD (.agg #[iv 4, .slice none 0 0, iv 0, iv 0, iv 0, iv 0, .bool false, iv 0, iv 0, iv 19, .slice none 0 0, sv H8 0 1 1]) (sv Ig 0 3 3) ?_;refine pS (sw 55 #[iv 0, .slice none 0 0, iv 0, iv 0, iv 0, iv 0, .bool false, iv 0, iv 0, iv 0, .slice none 0 0, .slice none 0 0] ?_);intro I3 La Gq Jq hb hbx;have ⟨Dh, E5, E6, E7, E8, E9, Ea, Eb, Ec, Ed, Cy, Cz⟩ := bq12 hbx;refine mv4 hb hE Bv B0 B3 fun hE Bv B0 B3=>?_;have Cf := hb.size;have Hn := Dh.lt;refine pS (sw 55 #[iv 0, .slice none 0 0, iv 0, iv 0, iv 0, iv 0, .bool false, iv 0, iv 0, iv 0, .slice none 0 0, .slice none 0 0] ?_);intro I4 Kf Gc Jr hb hbx;have ⟨Ee, F1, F2, F3, F4, F5, F6, F7, F8, F9, Dd, De⟩ := bq12 hbx
 refine mv16 hb hE Bv B0 B3 Dh E5 E6 E7 E8 E9 Ea Eb Ec Ed Cy Cz fun hE Bv B0 B3 Dh E5 E6 E7 E8 E9 Ea Eb Ec Ed Cy Cz=>?_;have Cn := hb.size;have Kn := Ee.lt;refine pP (sn_setK12 (O := I3) (j := 0) (v0 := iv 1) (v1 := sv Hy 0 24 24) (v2 := iv 0) (v3 := iv 100) (v4 := iv 0) (v5 := iv 90) (v6 := .bool false) (v7 := iv 0) (v8 := iv 0) (v9 := iv 0) (v10 := .slice none 0 0) (v11 := .slice none 0 0) (xt (pw I3 0) (.agg #[iv 1, sv Hy 0 24 24, iv 0, iv 100, iv 0, iv 90, .bool false, iv 0, iv 0, iv 0, .slice none 0 0, .slice none 0 0]) (st55 Dh.1 Dh.2 E5.1 E5.2 E6.1 E6.2 E7.1 E7.2 E8.1 E8.2 E9.1 E9.2 Ea.1 Ea.2 Eb.1 Eb.2 Ec.1 Ec.2 Ed.1 Ed.2 Cy.1 Cy.2 Cz.1 Cz.2)) Dh E5 E6 E7 E8 E9 Ea Eb Ec Ed Cy Cz ?_);intro J4 ho Dh E5 E6 E7 E8 E9 Ea Eb Ec Ed Cy Cz hk;replace hE := ho.ext hE (by omega);replace Bv := ho.ext Bv (by omega);replace B0 := ho.ext B0 (Tq Ct (Nat.le_of_eq Gq));replace B3 := ho.ext B3 (Nat.le_of_eq Gq);have q9 := ho.bx I4 (by omega);replace Ee := q9 Ee;replace F1 := q9 F1;replace F2 := q9 F2;replace F3 := q9 F3;replace F4 := q9 F4;replace F5 := q9 F5;replace F6 := q9 F6;replace F7 := q9 F7;replace F8 := q9 F8;replace F9 := q9 F9;replace Dd := q9 Dd;replace De := q9 De;clear q9;have Co := Nat.le_of_eq ho.size.symm;clear ho hk;refine pP (sn_setK12 (O := I4) (j := 0) (v0 := iv 4) (v1 := .slice none 0 0) (v2 := iv 0) (v3 := iv 0) (v4 := iv 0) (v5 := iv 0) (v6 := .bool false) (v7 := iv 0) (v8 := iv 0) (v9 := iv 19) (v10 := .slice none 0 0) (v11 := sv H8 0 1 1) (xt (pw I4 0) (.agg #[iv 4, .slice none 0 0, iv 0, iv 0, iv 0, iv 0, .bool false, iv 0, iv 0, iv 19, .slice none 0 0, sv H8 0 1 1]) (st55 Ee.1 Ee.2 F1.1 F1.2 F2.1 F2.2 F3.1 F3.2 F4.1 F4.2 F5.1 F5.2 F6.1 F6.2 F7.1 F7.2 F8.1 F8.2 F9.1 F9.2 Dd.1 Dd.2 De.1 De.2)) Ee F1 F2 F3 F4 F5 F6 F7 F8 F9 Dd De ?_);intro I9 ho Ee F1 F2 F3 F4 F5 F6 F7 F8 F9 Dd De hk;replace hE := ho.ext hE (by omega);replace Bv := ho.ext Bv (by omega);replace B0 := ho.ext B0 (Tq (Tq Ct Cf) (Nat.le_of_eq Gc));replace B3 := ho.ext B3 (Tq Cf (Nat.le_of_eq Gc));have q9 := ho.bx I3 (by omega);clear q9;have Cp := Nat.le_of_eq ho.size.symm;clear ho hk;refine pT (sv Ig 0 3 3) ?_;refine zn (cK [1,2,3,5] (fun L => ?_));refine cw_seq ?_;have B2 := Ext.refl I9;refine zp (pU (.agg #[iv 1, sv A1 0 24 24, iv 0, iv 100, iv 0, iv 90, .bool false, iv 0, iv 0, iv 0, .slice none 0 0, .slice none 0 0]) (xl (ld55 (Cu.c B0) (D0.c B0) (D1.c B0) (D2.c B0) (D3.c B0) (D4.c B0) (D5.c B0) (D6.c B0) (D7.c B0) (D8.c B0) (Ch.c B0) (Ci.c B0))) ?_);refine pT (sv b3 0 3 3) ?_;refine pS (sc 23 #[.agg #[iv 1, sv A1 0 24 24, iv 0, iv 100, iv 0, iv 90, .bool false, iv 0, iv 0, iv 0, .slice none 0 0, .slice none 0 0], sv b3 0 3 3] (((Compile_c (g := Ex.seeG) (l := Ex.evs) _ ((hT.ext hE)) ((He.ext Bv)) ((J8.ext Bv)) (Ext.refl _) (fun _ => rg_see)).mono fun e w' h => opt_some (k := 2) h Ex.cA rfl).mono ?_));rintro e K6 ⟨G9, Ga, rfl, Gn, hb⟩;refine mv5 hb hE Bv B0 B3 B2 fun hE Bv B0 B3 B2=>?_;have Ce := hb.size;have B6 := Ext.refl K6;refine ⟨_, rfl, pD (.tuple #[.agg #[iv 3, iv 1, .slice G9 2 Ga], iv 0]) (.agg #[iv 3, iv 1, .slice G9 2 Ga]) ?_⟩;refine pT (iv 0) ?_;refine pS (sw 26 #[iv 0, iv 0, .slice none 0 0] ?_);intro Iz Kg Gd Js hb hbx;have ⟨Cj, Cr, Cs⟩ := bq3 hbx;refine mv6 hb hE Bv B0 B3 B2 B6 fun hE Bv B0 B3 B2 B6=>?_;have Ca := hb.size;have Ko := Cj.lt;refine pP (sn_setK3 (O := Iz) (j := 0) (v0 := iv 3) (v1 := iv 1) (v2 := .slice G9 2 Ga) (xt (pw Iz 0) (.agg #[iv 3, iv 1, .slice G9 2 Ga]) (st26 Cj.1 Cj.2 Cr.1 Cr.2 Cs.1 Cs.2)) Cj Cr Cs ?_);intro Ia ho Cj Cr Cs hk;replace hE := ho.ext hE (by omega);replace Bv := ho.ext Bv (by omega);replace B0 := ho.ext B0 (by omega);replace B3 := ho.ext B3 (by omega);replace B2 := ho.ext B2 (Tq Ce (Nat.le_of_eq Gd));replace B6 := ho.ext B6 (Nat.le_of_eq Gd);have Cb := Nat.le_of_eq ho.size.symm;clear ho hk;refine pT (iv 0) ?_;refine pl_nil (qw_then ?_);refine cw_seq ?_;have B1 := Ext.refl Ia;refine zp (pU (.agg #[iv 4, .slice none 0 0, iv 0, iv 0, iv 0, iv 0, .bool false, iv 0, iv 0, iv 20, .slice none 0 0, sv K2 0 1 1]) (xl (ld55 (Dg.c B0) (Du.c B0) (Dv.c B0) (Dw.c B0) (Dx.c B0) (Dy.c B0) (Dz.c B0) (E0.c B0) (E3.c B0) (E4.c B0) (Cw.c B0) (Cx.c B0))) ?_);refine pT (sv b3 0 3 3) ?_;refine pS (sc 23 #[.agg #[iv 4, .slice none 0 0, iv 0, iv 0, iv 0, iv 0, .bool false, iv 0, iv 0, iv 20, .slice none 0 0, sv K2 0 1 1], sv b3 0 3 3] (((Compile_c (g := Ex.delG 20) (l := Ex.evs) _ ((hT.ext hE)) ((He.ext Bv)) ((J6.ext Bv)) (Ext.refl _) (fun _ => rg_del _)).mono fun e w' h => opt_some (k := 2) h Ex.cB rfl).mono ?_))
 rintro e K7 ⟨Gr, Gs, rfl, H3, hb⟩;refine mv7 hb hE Bv B0 B3 B2 B6 B1 fun hE Bv B0 B3 B2 B6 B1=>?_;have C3 := hb.size;have Be := Ext.refl K7;refine ⟨_, rfl, pD (.tuple #[.agg #[iv 3, iv 1, .slice Gr 2 Gs], iv 0]) (.agg #[iv 3, iv 1, .slice Gr 2 Gs]) ?_⟩;refine pT (iv 0) ?_;refine pS (sw 26 #[iv 0, iv 0, .slice none 0 0] ?_);intro J0 Kh G3 Jt hb hbx;have ⟨Di, Ef, Eg⟩ := bq3 hbx;refine mv7 hb hE Bv B0 B3 B2 B6 B1 fun hE Bv B0 B3 B2 B6 B1=>?_;replace Be := Be.trans hb;have C5 := hb.size;have Kq := Di.lt;refine pP (sn_setK3 (O := J0) (j := 0) (v0 := iv 3) (v1 := iv 1) (v2 := .slice Gr 2 Gs) (xt (pw J0 0) (.agg #[iv 3, iv 1, .slice Gr 2 Gs]) (st26 Di.1 Di.2 Ef.1 Ef.2 Eg.1 Eg.2)) Di Ef Eg ?_);intro Ib ho Di Ef Eg hk;replace hE := ho.ext hE (by omega);replace Bv := ho.ext Bv (by omega);replace B0 := ho.ext B0 (by omega);replace B3 := ho.ext B3 (by omega);replace B2 := ho.ext B2 (by omega);replace B6 := ho.ext B6 (by omega);replace B1 := ho.ext B1 (Tq C3 (Nat.le_of_eq G3));replace Be := ho.ext Be (Nat.le_of_eq G3);have C6 := Nat.le_of_eq ho.size.symm;clear ho hk;refine pT (iv 0) ?_;refine zn (cK [1,2,3,5,7,8,9,10] (fun L => ?_));refine cw_seq ?_;have B7 := Ext.refl Ib;refine zp (pU (.agg #[iv 4, .slice none 0 0, iv 0, iv 0, iv 0, iv 0, .bool false, iv 0, iv 0, iv 19, .slice none 0 0, sv H8 0 1 1]) (xl (ld55 (Ee.c B2) (F1.c B2) (F2.c B2) (F3.c B2) (F4.c B2) (F5.c B2) (F6.c B2) (F7.c B2) (F8.c B2) (F9.c B2) (Dd.c B2) (De.c B2))) ?_);refine pT (sv b3 0 3 3) ?_;refine pS (sc 23 #[.agg #[iv 4, .slice none 0 0, iv 0, iv 0, iv 0, iv 0, .bool false, iv 0, iv 0, iv 19, .slice none 0 0, sv H8 0 1 1], sv b3 0 3 3] (((Compile_c (g := Ex.delG 19) (l := Ex.evs) _ ((hT.ext hE)) ((He.ext Bv)) ((Ij.ext B3)) (Ext.refl _) (fun _ => rg_del _)).mono fun e w' h => opt_some (k := 0) h Ex.cC rfl).mono ?_));rintro e K8 ⟨H9, Hb, rfl, Ih, hb⟩;refine mv7 hb hE Bv B0 B6 B1 Be B7 fun hE Bv B0 B6 B1 Be B7=>?_;have Bz := hb.size;have Bk := Ext.refl K8;refine ⟨_, rfl, pD (.tuple #[.agg #[iv 3, iv (-1 : Int), .slice H9 0 Hb], iv 0]) (.agg #[iv 3, iv (-1 : Int), .slice H9 0 Hb]) ?_⟩;refine pT (iv 0) ?_;refine pS (sw 26 #[iv 0, iv 0, .slice none 0 0] ?_);intro J1 Ki Fk Ju hb hbx;have ⟨Fl, Fz, G0⟩ := bq3 hbx;refine mv7 hb hE Bv B0 B6 B1 Be B7 fun hE Bv B0 B6 B1 Be B7=>?_;replace Bk := Bk.trans hb;have C7 := hb.size;have Kr := Fl.lt;refine pP (sn_setK3 (O := J1) (j := 0) (v0 := iv 3) (v1 := iv (-1 : Int)) (v2 := .slice H9 0 Hb) (xt (pw J1 0) (.agg #[iv 3, iv (-1 : Int), .slice H9 0 Hb]) (st26 Fl.1 Fl.2 Fz.1 Fz.2 G0.1 G0.2)) Fl Fz G0 ?_);intro Ic ho Fl Fz G0 hk;replace hE := ho.ext hE (by omega);replace Bv := ho.ext Bv (by omega);replace B0 := ho.ext B0 (by omega);replace B6 := ho.ext B6 (by omega);replace B1 := ho.ext B1 (by omega);replace Be := ho.ext Be (by omega);replace B7 := ho.ext B7 (Tq Bz (Nat.le_of_eq Fk));replace Bk := ho.ext Bk (Nat.le_of_eq Fk);have C8 := Nat.le_of_eq ho.size.symm;clear ho hk;refine pT (iv 0) ?_;refine zn (cK [1,2,3,7,8,9,10,11,12] (fun L => ?_));refine cw_seq ?_;have Bm := Ext.refl Ic;refine zp (pU (.agg #[iv 1, sv A1 0 24 24, iv 0, iv 100, iv 0, iv 90, .bool false, iv 0, iv 0, iv 0, .slice none 0 0, .slice none 0 0]) (xl (ld55 (Cu.c B0) (D0.c B0) (D1.c B0) (D2.c B0) (D3.c B0) (D4.c B0) (D5.c B0) (D6.c B0) (D7.c B0) (D8.c B0) (Ch.c B0) (Ci.c B0))) ?_);refine pU (.agg #[iv 4, .slice none 0 0, iv 0, iv 0, iv 0, iv 0, .bool false, iv 0, iv 0, iv 20, .slice none 0 0, sv K2 0 1 1]) (xl (ld55 (Dg.c B0) (Du.c B0) (Dv.c B0) (Dw.c B0) (Dx.c B0) (Dy.c B0) (Dz.c B0) (E0.c B0) (E3.c B0) (E4.c B0) (Cw.c B0) (Cx.c B0))) ?_;refine pS (sn_newS (us := #[iv 1, sv A1 0 24 24, iv 0, iv 100, iv 0, iv 90, .bool false, iv 0, iv 0, iv 0, .slice none 0 0, .slice none 0 0, iv 4, .slice none 0 0, iv 0, iv 0, iv 0, iv 0, .bool false, iv 0, iv 0, iv 20, .slice none 0 0, sv K2 0 1 1]) (t := 55) (k := 2) (c := 2) (by kernel_rfl) ?_);intro Hi J5 Jy Jv hb hbx;have ⟨Fa, Fm, Fo, Fp, Fq, Fr, Fs, Ft, Fu, Fv, Eh, Ei, Ej, Ek, El, Em, En, Eo, Ep, Er, Es, Et, Eu, Ew⟩ := bq24 hbx;refine mv7 hb hE Bv B6 B1 Be B7 Bk fun hE Bv B6 B1 Be B7 Bk=>?_;replace Bm := Bm.trans hb;have C1 := hb.size;have Iy := Fa.lt;refine pD (.agg #[iv 5, .slice none 0 0, iv 0, iv 0, iv 0, iv 0, .bool false, iv 0, iv 0, iv 0, .slice none 0 0, sv Hi 0 2 2]) (sv b3 0 3 3) ?_
 refine pS (sc 23 #[.agg #[iv 5, .slice none 0 0, iv 0, iv 0, iv 0, iv 0, .bool false, iv 0, iv 0, iv 0, .slice none 0 0, sv Hi 0 2 2], sv b3 0 3 3] (((Compile_c (g := Ex.allG) (l := Ex.evs) _ ((hT.ext hE)) ((He.ext Bv)) ((gop_ks (f := ⟨5, [], 0, 0, 0, 0, false, 0, 0, 0, []⟩) rfl rfl rfl (by decide) (ks_one (g := Ex.seeG) (⟨(Fa).1, (Fm).1, (Fo).1, (Fp).1, (Fq).1, (Fr).1, (Fs).1, (Ft).1, (Fu).1, (Fv).1, (Eh).1, (Ei).1⟩ : GCs J5 Hi 0 Ex.seeG.f ⟨some ⟨A1, 0, none⟩, 24, 24, none, 0, 0, none, 0, 0⟩) ((J8.ext Bv)) (ks_one (g := Ex.delG 20) (⟨(Ej).1, (Ek).1, (El).1, (Em).1, (En).1, (Eo).1, (Ep).1, (Er).1, (Es).1, (Et).1, (Eu).1, (Ew).1⟩ : GCs J5 Hi 12 (Ex.delG 20).f ⟨none, 0, 0, none, 0, 0, some ⟨K2, 0, none⟩, 1, 1⟩) ((J6.ext Bv)) (ks_nil _ _ _))))) (Ext.refl _) (fun _ => rg_all)).mono fun e w' h => opt_some (k := 2) h Ex.cD rfl).mono ?_));rintro e K9 ⟨Ha, Hc, rfl, Ii, hb⟩;refine mv7 hb hE Bv B6 B1 Be B7 Bk fun hE Bv B6 B1 Be B7 Bk=>?_;replace Bm := Bm.trans hb;have C0 := hb.size;have Br := Ext.refl K9;refine ⟨_, rfl, pD (.tuple #[.agg #[iv 3, iv 1, .slice Ha 2 Hc], iv 0]) (.agg #[iv 3, iv 1, .slice Ha 2 Hc]) ?_⟩;refine pT (iv 0) ?_;refine pS (sw 26 #[iv 0, iv 0, .slice none 0 0] ?_);intro J2 Kj Dk Jw hb hbx;have ⟨Fw, G1, G2⟩ := bq3 hbx;refine mv9 hb hE Bv B6 B1 Be B7 Bk Bm Br fun hE Bv B6 B1 Be B7 Bk Bm Br=>?_;have Cc := hb.size;have Ks := Fw.lt;refine pP (sn_setK3 (O := J2) (j := 0) (v0 := iv 3) (v1 := iv 1) (v2 := .slice Ha 2 Hc) (xt (pw J2 0) (.agg #[iv 3, iv 1, .slice Ha 2 Hc]) (st26 Fw.1 Fw.2 G1.1 G1.2 G2.1 G2.2)) Fw G1 G2 ?_);intro Ie ho Fw G1 G2 hk;replace hE := ho.ext hE (by omega);replace Bv := ho.ext Bv (by omega);replace B6 := ho.ext B6 (by omega);replace B1 := ho.ext B1 (by omega);replace Be := ho.ext Be (by omega);replace B7 := ho.ext B7 (by omega);replace Bk := ho.ext Bk (by omega);replace Bm := ho.ext Bm (Tq (Tq C1 C0) (Nat.le_of_eq Dk));replace Br := ho.ext Br (Nat.le_of_eq Dk);have q9 := ho.bx Hi (by omega);clear q9;have Cd := Nat.le_of_eq ho.size.symm;clear ho hk;refine pT (iv 0) ?_;refine zn (cK [3,7,8,9,10,11,12,13,14] (fun L => ?_));refine cw_seq ?_;have B4 := Ext.refl Ie;refine zp (pU (.agg #[iv 3, iv 1, .slice G9 2 Ga]) (xl (ld26 (Cj.c B1) (Cr.c B1) (Cs.c B1))) ?_);refine pS (sc 18 #[.agg #[iv 3, iv 1, .slice G9 2 Ga]] ((Count_r _ _ ((Gn.ext B6)) (Ext.refl _) Ex.cntA Ex.errA).mono ?_));rintro e Ho ⟨rfl, hb⟩;refine mv9 hb hE Bv B6 B1 Be B7 Bk Bm Br fun hE Bv B6 B1 Be B7 Bk Bm Br=>?_;replace B4 := B4.trans hb;have Bs := hb.size;refine ⟨_, rfl, pD (.tuple #[iv 6, iv 0]) (iv 6) ?_⟩;refine pD (iv 0) (iv 6) ?_;refine pT (iv 0) ?_;refine zn (cK [3,7,8,9,10,11,12,13,14,15,16] (fun L => ?_));refine cw_seq ?_;have B8 := Ext.refl Ho;refine zp (pU (.agg #[iv 3, iv 1, .slice G9 2 Ga]) (xl (ld26 (Cj.c B1) (Cr.c B1) (Cs.c B1))) ?_);refine pS (sc 13 #[.agg #[iv 3, iv 1, .slice G9 2 Ga]] ((Needed_r _ _ ((Gn.ext B6)) (Ext.refl _) Ex.needA Ex.errA).mono ?_));rintro e Hq ⟨rfl, hb⟩;refine mv9 hb hE Bv B6 B1 Be B7 Bk Bm Br fun hE Bv B6 B1 Be B7 Bk Bm Br=>?_;replace B4 := B4.trans hb;have Bq := hb.size;refine ⟨_, rfl, pD (.tuple #[iv 0, iv 0]) (iv 0) ?_⟩;refine pD (iv 0) (iv 0) ?_;refine pT (iv 0) ?_;refine zn (cK [3,7,8,9,10,11,12,13,14,15,16,17,18] (fun L => ?_));refine cw_seq ?_;have Bc := Ext.refl Hq;refine zp (pU (.agg #[iv 3, iv 1, .slice Gr 2 Gs]) (xl (ld26 (Di.c B7) (Ef.c B7) (Eg.c B7))) ?_);refine pS (sc 13 #[.agg #[iv 3, iv 1, .slice Gr 2 Gs]] ((Needed_r _ _ ((H3.ext Be)) (Ext.refl _) Ex.needB Ex.errB).mono ?_));rintro e Hs ⟨rfl, hb⟩;refine mv9 hb hE Bv B6 B1 Be B7 Bk Bm Br fun hE Bv B6 B1 Be B7 Bk Bm Br=>?_;replace B4 := B4.trans hb;have Bl := hb.size;refine ⟨_, rfl, pD (.tuple #[iv 5, iv 0]) (iv 5) ?_⟩;refine pD (iv 0) (iv 5) ?_;refine pT (iv 0) ?_;refine zn (cK [3,7,8,9,10,11,12,13,14,15,16,17,18,19,20] (fun L => ?_));refine cw_seq ?_;have Bg := Ext.refl Hs;refine zp (pU (.agg #[iv 3, iv 1, .slice G9 2 Ga]) (xl (ld26 (Cj.c B1) (Cr.c B1) (Cs.c B1))) ?_);refine pS (sn_newS (us := #[iv 7, iv 4, iv 1]) (t := 3) (k := 3) (c := 3) (by kernel_rfl) ?_);intro I0 Ka It Ik hb hbx;have ⟨G4, Ge, Gf⟩ := bq3 hbx;refine mv9 hb hE Bv B6 B1 Be B7 Bk Bm Br fun hE Bv B6 B1 Be B7 Bk Bm Br=>?_;replace B4 := B4.trans hb;have Bh := hb.size;have Jz := G4.lt;refine pS (sc 12 #[.agg #[iv 3, iv 1, .slice G9 2 Ga], sv I0 0 3 3] ((Cheapest_r (l := [7, 4, 1]) (o := (true, 4, 2)) _ _ _ ((Gn.ext B6)) (ints3_at (G4).1 (Ge).1 (Gf).1) rfl (by decide) (Ext.refl _) Ex.chpA).mono ?_))
 rintro e Ht ⟨rfl, hb⟩;refine mv9 hb hE Bv B6 B1 Be B7 Bk Bm Br fun hE Bv B6 B1 Be B7 Bk Bm Br=>?_;replace B4 := B4.trans hb;have Bi := hb.size;refine ⟨_, rfl, pD (.tuple #[iv 2, iv 4, .bool true, iv 0]) (iv 2) ?_⟩;refine pD (iv 4) (.bool true) ?_;refine pD (iv 0) (iv 2) ?_;refine pD (iv 4) (.bool true) ?_;refine pT (iv 0) ?_;refine zn (cK [3,7,8,9,10,11,12,13,14,15,16,17,18,19,20,21,22,23,24] (fun L => ?_));refine cw_seq ?_;have Bj := Ext.refl Ht;refine zp (pU (.agg #[iv 3, iv 1, .slice Gr 2 Gs]) (xl (ld26 (Di.c B7) (Ef.c B7) (Eg.c B7))) ?_);refine pS (sc 10 #[.agg #[iv 3, iv 1, .slice Gr 2 Gs], iv 1, iv 0] ((After_r (b1 := false) (b2 := false) (z := 0) 1 0 _ _ ((H3.ext Be)) (Ext.refl _) (by rw [Ex.aftB]; rfl) (by rw [Ex.aftB]; rfl) (by rw [Ex.aftB]; rfl)).mono ?_));rintro e Hu ⟨rfl, hb⟩;refine mv9 hb hE Bv B6 B1 Be B7 Bk Bm Br fun hE Bv B6 B1 Be B7 Bk Bm Br=>?_;replace B4 := B4.trans hb;have Bf := hb.size;refine ⟨_, rfl, pD (.tuple #[.bool false, .bool false, iv 0]) (.bool false) ?_⟩;refine pD (.bool false) (iv 0) ?_;refine pD (.bool false) (.bool false) ?_;refine pT (iv 0) ?_;refine zn (cK [3,7,8,9,10,11,12,13,14,15,16,17,18,19,20,21,22,23,24,25,26,27] (fun L => ?_));refine cw_seq ?_;have Bo := Ext.refl Hu;refine zp (pD (.agg #[iv 0, .slice none 0 0, iv 0, iv 0, iv 0, iv 0, .bool false, iv 0, iv 0, iv 0, .slice none 0 0, .slice none 0 0]) (sv b3 0 3 3) ?_);refine pS (sc 23 #[.agg #[iv 0, .slice none 0 0, iv 0, iv 0, iv 0, iv 0, .bool false, iv 0, iv 0, iv 0, .slice none 0 0, .slice none 0 0], sv b3 0 3 3] (((Compile_c (g := Ex.zeroG) (l := Ex.evs) _ ((hT.ext hE)) ((He.ext Bv)) (gop_zero _) (Ext.refl _) (fun h => by rw [Ex.zero_no] at h; cases h)).mono fun e w' h => opt_none h Ex.cZ).mono ?_));rintro e Kt ⟨rfl, hb⟩;refine mv9 hb hE Bv B6 B1 Be B7 Bk Bm Br fun hE Bv B6 B1 Be B7 Bk Bm Br=>?_;replace B4 := B4.trans hb;have Ba := hb.size;refine ⟨_, rfl, pD (.tuple #[.agg #[iv 0, iv 0, .slice none 0 0], iv 140]) (.agg #[iv 0, iv 0, .slice none 0 0]) ?_⟩;refine pT (iv 140) ?_;refine pS (sw 26 #[iv 0, iv 0, .slice none 0 0] ?_);intro Hf I5 C9 Il hb hbx;have ⟨Fb, Fx, Fy⟩ := bq3 hbx;refine mv9 hb hE Bv B6 B1 Be B7 Bk Bm Br fun hE Bv B6 B1 Be B7 Bk Bm Br=>?_;replace B4 := B4.trans hb;have Bw := hb.size;have K0 := Fb.lt;refine pP (sn_setK3 (O := Hf) (j := 0) (v0 := iv 0) (v1 := iv 0) (v2 := .slice none 0 0) (xt (pw Hf 0) (.agg #[iv 0, iv 0, .slice none 0 0]) (st26 Fb.1 Fb.2 Fx.1 Fx.2 Fy.1 Fy.2)) Fb Fx Fy ?_);intro H5 ho Fb Fx Fy hk;replace hE := ho.ext hE (by omega);replace Bv := ho.ext Bv (by omega);replace B6 := ho.ext B6 (by omega);replace B1 := ho.ext B1 (by omega);replace Be := ho.ext Be (by omega);replace B7 := ho.ext B7 (by omega);replace Bk := ho.ext Bk (by omega);replace Bm := ho.ext Bm (by omega);replace Br := ho.ext Br (by omega);replace B4 := ho.ext B4 (by omega);have Bx := Nat.le_of_eq ho.size.symm;clear ho hk;refine pT (iv 140) ?_;refine zn (cK [3,7,8,9,10,11,12,13,14,15,16,17,18,19,20,21,22,23,24,25,26,27,29] (fun L => ?_));refine cw_seq ?_;refine cw_seq ?_;have Bt := Ext.refl H5;refine zp (pD (iv 0) (.bool false) ?_);refine pD (.bool false) (iv 0) ?_;refine pD (.bool false) (.bool false) ?_;refine pD (.bool false) (iv 0) ?_;refine pD (.bool false) (.bool false) ?_;refine pD (.bool false) (iv 0) ?_;refine pD (.bool false) (.bool false) ?_;refine pD (.bool false) (iv 0) ?_;refine pD (.bool false) (.bool false) ?_;refine pD (.bool false) (iv 0) ?_;refine pD (.bool false) (.bool false) ?_;refine pD (.bool false) (iv 0) ?_;refine pD (.bool false) (.bool false) ?_;refine pD (.bool false) (iv 0) ?_;refine pD (.bool false) (.bool false) ?_;refine pD (.bool false) (iv 0) ?_;refine pD (.bool false) (.bool false) ?_;refine pD (.bool false) (iv 140) ?_;refine pD (.bool false) (.bool false) ?_;refine zn (cK [3,7,9,11,13,15,17,19,21,22,23,25,26,143] (fun L => ?_));refine zf ?_;refine cw_skip (zq (zc (zp (pD (.agg #[iv 1, iv (-1 : Int), iv (-2 : Int)]) (.agg #[iv 0, iv 0, iv (-2 : Int)]) ?_))))
 refine pS (sn_newS (us := #[iv 1, iv (-1 : Int), iv (-2 : Int), iv 0, iv 0, iv (-2 : Int)]) (t := 61) (k := 2) (c := 2) (by kernel_rfl) ?_);intro G8 Kb Iu Im hb hbx;have ⟨D9, Dl, Dm, Dn, Do, Dp⟩ := bq6 hbx;refine mv9 hb hE Bv B6 B1 Be B7 Bk Bm Br fun hE Bv B6 B1 Be B7 Bk Bm Br=>?_;replace B4 := B4.trans hb;have Bu := hb.size;have Hk := D9.lt;refine pT (.agg #[iv 3, iv 1, sv G8 0 2 2]) ?_;refine pS (sw 26 #[iv 0, iv 0, .slice none 0 0] ?_);intro Hg I6 C4 Io hb hbx;have ⟨Cv, Da, Db⟩ := bq3 hbx;refine mv16 hb hE Bv B6 B1 Be B7 Bk Bm Br B4 D9 Dl Dm Dn Do Dp fun hE Bv B6 B1 Be B7 Bk Bm Br B4 D9 Dl Dm Dn Do Dp=>?_;have Ck := hb.size;have K1 := Cv.lt;refine pP (sn_setK3 (O := Hg) (j := 0) (v0 := iv 3) (v1 := iv 1) (v2 := sv G8 0 2 2) (xt (pw Hg 0) (.agg #[iv 3, iv 1, sv G8 0 2 2]) (st26 Cv.1 Cv.2 Da.1 Da.2 Db.1 Db.2)) Cv Da Db ?_);intro H6 ho Cv Da Db hk;replace hE := ho.ext hE (by omega);replace Bv := ho.ext Bv (by omega);replace B6 := ho.ext B6 (by omega);replace B1 := ho.ext B1 (by omega);replace Be := ho.ext Be (by omega);replace B7 := ho.ext B7 (by omega);replace Bk := ho.ext Bk (by omega);replace Bm := ho.ext Bm (by omega);replace Br := ho.ext Br (by omega);replace B4 := ho.ext B4 (by omega);have q9 := ho.bx G8 (by omega);replace D9 := q9 D9;replace Dl := q9 Dl;replace Dm := q9 Dm;replace Dn := q9 Dn;replace Do := q9 Do;replace Dp := q9 Dp;clear q9;have Cm := Nat.le_of_eq ho.size.symm;clear ho hk;refine zn (cK [3,7,9,11,13,15,17,19,21,22,23,25,26,30] (fun L => ?_));refine cw_seq ?_;have B5 := Ext.refl H6;refine zp (pD (.agg #[iv 2, iv (-1 : Int), iv (-2 : Int)]) (.agg #[iv 0, iv (-1 : Int), iv 0]) ?_);refine pS (sn_newS (us := #[iv 2, iv (-1 : Int), iv (-2 : Int), iv 0, iv (-1 : Int), iv 0]) (t := 61) (k := 2) (c := 2) (by kernel_rfl) ?_);intro Gm Kc Iv Ip hb hbx;have ⟨Dq, Fc, Fd, Fe, Ff, Fg⟩ := bq6 hbx;refine mv9 hb hE Bv B6 B1 Be B7 Bk Bm Br fun hE Bv B6 B1 Be B7 Bk Bm Br=>?_;refine mv2 hb B4 B5 fun B4 B5=>?_;have Cg := hb.size;have Hm := Dq.lt;refine pT (.agg #[iv 3, iv 1, sv Gm 0 2 2]) ?_;refine pS (sw 26 #[iv 0, iv 0, .slice none 0 0] ?_);intro Hh I7 C2 Iq hb hbx;have ⟨Dc, Dr, Dt⟩ := bq3 hbx;refine mv16 hb hE Bv B6 B1 Be B7 Bk Bm Br B4 B5 Dq Fc Fd Fe Ff fun hE Bv B6 B1 Be B7 Bk Bm Br B4 B5 Dq Fc Fd Fe Ff=>?_;replace Fg := Fg.x hb;have J9 := hb.size;have K3 := Dc.lt;refine pP (sn_setK3 (O := Hh) (j := 0) (v0 := iv 3) (v1 := iv 1) (v2 := sv Gm 0 2 2) (xt (pw Hh 0) (.agg #[iv 3, iv 1, sv Gm 0 2 2]) (st26 Dc.1 Dc.2 Dr.1 Dr.2 Dt.1 Dt.2)) Dc Dr Dt ?_);intro H7 ho Fh Fi Fj hk;replace hE := ho.ext hE (by omega);replace Bv := ho.ext Bv (by omega);replace B6 := ho.ext B6 (by omega);replace B1 := ho.ext B1 (by omega);replace Be := ho.ext Be (by omega);replace B7 := ho.ext B7 (by omega);replace Bk := ho.ext Bk (by omega);replace Bm := ho.ext Bm (by omega);replace Br := ho.ext Br (by omega);replace B4 := ho.ext B4 (by omega)
 replace B5 := ho.ext B5 (Tq Cg (Nat.le_of_eq C2));have q9 := ho.bx Gm (by omega);replace Dq := q9 Dq;replace Fc := q9 Fc;replace Fd := q9 Fd;replace Fe := q9 Fe;replace Ff := q9 Ff;replace Fg := q9 Fg;clear q9;have Ja := Nat.le_of_eq ho.size.symm;clear ho hk Dc Dr Dt;have Dc := Fh;clear Fh;have Dr := Fi;clear Fi;have Dt := Fj;clear Fj;refine zn (cK [3,7,9,11,13,15,17,19,21,22,23,25,26,30,31] (fun L => ?_));refine cw_seq ?_;have Bp := Ext.refl H7;refine zp (pU (.agg #[iv 3, iv 1, .slice G9 2 Ga]) (xl (ld26 (Cj.c B1) (Cr.c B1) (Cs.c B1))) ?_);refine pU (.agg #[iv 3, iv 1, sv G8 0 2 2]) (xl (ld26 (Cv.c B5) (Da.c B5) (Db.c B5))) ?_;refine pS (sc 16 #[.agg #[iv 3, iv 1, .slice G9 2 Ga], .agg #[iv 3, iv 1, sv G8 0 2 2]] ((rmSame_t (N1 := Ex.NA) (N2 := [(1, -1, -2), (0, 0, -2)]) _ _ _ ((Gn.ext B6)) (Ext.refl _) (nds2_at ((D9.x B5)).1 ((Dl.x B5)).1 ((Dm.x B5)).1 ((Dn.x B5)).1 ((Do.x B5)).1 ((Dp.x B5)).1) (Ext.refl _) ⟨rfl, rfl, rfl⟩).mono ?_));rintro e Ku ⟨rfl, hb⟩;refine mv12 hb hE Bv B6 B1 Be B7 Bk Bm Br B4 B5 Bp fun hE Bv B6 B1 Be B7 Bk Bm Br B4 B5 Bp=>?_;have Jb := hb.size;refine ⟨_, rfl, pT (.bool true) ?_⟩;refine pU (.agg #[iv 3, iv 1, .slice Gr 2 Gs]) (xl (ld26 (Di.c B7) (Ef.c B7) (Eg.c B7))) ?_;refine pU (.agg #[iv 3, iv 1, sv Gm 0 2 2]) (xl (ld26 (Dc.c Bp) (Dr.c Bp) (Dt.c Bp))) ?_;refine pS (sc 16 #[.agg #[iv 3, iv 1, .slice Gr 2 Gs], .agg #[iv 3, iv 1, sv Gm 0 2 2]] ((rmSame_t (N1 := Ex.NB) (N2 := [(2, -1, -2), (0, -1, 0)]) _ _ _ ((H3.ext Be)) (Ext.refl _) (nds2_at ((Dq.x Bp)).1 ((Fc.x Bp)).1 ((Fd.x Bp)).1 ((Fe.x Bp)).1 ((Ff.x Bp)).1 ((Fg.x Bp)).1) (Ext.refl _) ⟨rfl, rfl, rfl⟩).mono ?_));rintro e Kv ⟨rfl, hb⟩;refine mv12 hb hE Bv B6 B1 Be B7 Bk Bm Br B4 B5 Bp fun hE Bv B6 B1 Be B7 Bk Bm Br B4 B5 Bp=>?_;have Jc := hb.size;refine ⟨_, rfl, pD (.bool true) (.bool true) ?_⟩;refine pU (.agg #[iv 3, iv (-1 : Int), .slice H9 0 Hb]) (xl (ld26 (Fl.c Bm) (Fz.c Bm) (G0.c Bm))) ?_;refine pT (.agg #[iv 3, iv (-1 : Int), .slice none 0 0]) ?_;refine pS (sc 16 #[.agg #[iv 3, iv (-1 : Int), .slice H9 0 Hb], .agg #[iv 3, iv (-1 : Int), .slice none 0 0]] ((rmSame_t (N1 := []) (N2 := []) _ _ _ ((Ih.ext Bk)) (Ext.refl _) (NdsAt.nil _) (Ext.refl _) ⟨rfl, rfl, rfl⟩).mono ?_));rintro e Kw ⟨rfl, hb⟩;refine mv9 hb hE Bv B6 B1 Be B7 Br B4 B5 fun hE Bv B6 B1 Be B7 Br B4 B5=>?_;replace Bp := Bp.trans hb;have Jd := hb.size;refine ⟨_, rfl, pD (.bool true) (.bool true) ?_⟩;refine pU (.agg #[iv 3, iv 1, .slice Ha 2 Hc]) (xl (ld26 (Fw.c B4) (G1.c B4) (G2.c B4))) ?_;refine pU (.agg #[iv 3, iv 1, sv Gm 0 2 2]) (xl (ld26 (Dc.c Bp) (Dr.c Bp) (Dt.c Bp))) ?_;refine pS (sc 16 #[.agg #[iv 3, iv 1, .slice Ha 2 Hc], .agg #[iv 3, iv 1, sv Gm 0 2 2]] ((rmSame_t (N1 := Ex.NB) (N2 := [(2, -1, -2), (0, -1, 0)]) _ _ _ ((Ii.ext Br)) (Ext.refl _) (nds2_at ((Dq.x Bp)).1 ((Fc.x Bp)).1 ((Fd.x Bp)).1 ((Fe.x Bp)).1 ((Ff.x Bp)).1 ((Fg.x Bp)).1) (Ext.refl _) ⟨rfl, rfl, rfl⟩).mono ?_));rintro e Hw ⟨rfl, hb⟩;refine mv7 hb hE Bv B6 B1 Be B7 B5 fun hE Bv B6 B1 Be B7 B5=>?_;have Je := hb.size;refine ⟨_, rfl, pD (.bool true) (.bool true) ?_⟩;refine zn (cK [3,7,9,15,17,19,21,22,23,25,26,30,32] (fun L => ?_));refine cw_seq ?_;have Cq := Ext.refl Hw;refine zp (pD (iv 6) (.bool true) ?_);refine pD (.bool true) (iv 0) ?_;refine pD (.bool true) (.bool true) ?_;refine pD (.bool true) (iv 5) ?_;refine pD (.bool true) (.bool true) ?_;refine pD (.bool true) (iv 2) ?_;refine pD (.bool true) (.bool true) ?_;refine pD (.bool true) (iv 4) ?_;refine pD (.bool true) (.bool true) ?_;refine pD (.bool true) (.bool true) ?_;refine pD (.bool true) (.bool true) ?_;refine pD (.bool false) (.bool true) ?_;refine pD (.bool true) (.bool true) ?_;refine pD (.bool false) (.bool true) ?_;refine pD (.bool true) (.bool true) ?_;refine pU (.agg #[iv 3, iv 1, .slice G9 2 Ga]) (xl (ld26 (Cj.c B1) (Cr.c B1) (Cs.c B1))) ?_;refine pS (sc 11 #[.agg #[iv 3, iv 1, .slice G9 2 Ga], iv 2] ((Accepts_r 2 _ _ ((Gn.ext B6)) (Ext.refl _) Ex.accA2).mono ?_));rintro e Kx ⟨rfl, hb⟩;refine mv7 hb hE Bv B6 B1 Be B7 B5 fun hE Bv B6 B1 Be B7 B5=>?_;have Jf := hb.size;refine ⟨_, rfl, pD (.bool true) (.bool true) ?_⟩;refine pU (.agg #[iv 3, iv 1, .slice G9 2 Ga]) (xl (ld26 (Cj.c B1) (Cr.c B1) (Cs.c B1))) ?_;refine pS (sc 11 #[.agg #[iv 3, iv 1, .slice G9 2 Ga], iv 4] ((Accepts_r 4 _ _ ((Gn.ext B6)) (Ext.refl _) Ex.accA4).mono ?_));rintro e Hx ⟨rfl, hb⟩;refine mv7 hb hE Bv B6 B1 Be B7 B5 fun hE Bv B6 B1 Be B7 B5=>?_;have Jg := hb.size;refine ⟨_, rfl, pD (.bool true) (.bool true) ?_⟩;refine pT (.bool true) ?_;refine zn (cK [3,7,9,30,32,33] (fun L => ?_));refine cw_seq ?_;have Df := Ext.refl Hx;refine zp (pD (.bool true) (.bool true) ?_);refine pD (.bool true) (.bool true) ?_;refine pT (.bool true) ?_;refine pU (.agg #[iv 3, iv 1, sv G8 0 2 2]) (xl (ld26 (Cv.c B5) (Da.c B5) (Db.c B5))) ?_;refine pS (sc 17 #[.agg #[iv 3, iv 1, sv G8 0 2 2]] ((Valid_r (N := Ex.NA) (r := true) _ _ (nds2_at ((D9.x B5)).1 ((Dl.x B5)).1 ((Dm.x B5)).1 ((Dn.x B5)).1 ((Do.x B5)).1 ((Dp.x B5)).1) (Ext.refl _) Ex.vA).mono ?_))
 rintro e Ky ⟨rfl, hb⟩;refine mv7 hb hE Bv B6 B1 Be B7 B5 fun hE Bv B6 B1 Be B7 B5=>?_;have Jh := hb.size;refine ⟨_, rfl, pD (.bool true) (.bool true) ?_⟩;refine pT (.agg #[iv 0, iv 1, .slice none 0 0]) ?_;refine pS (sc 17 #[.agg #[iv 0, iv 1, .slice none 0 0]] ((Valid_r (N := []) (r := false) _ _ (NdsAt.nil _) (Ext.refl _) Ex.v0).mono ?_));rintro e Kz ⟨rfl, hb⟩;refine mv7 hb hE Bv B6 B1 Be B7 B5 fun hE Bv B6 B1 Be B7 B5=>?_;have Ji := hb.size;refine ⟨_, rfl, pD (.bool true) (.bool true) ?_⟩;refine pT (.bool true) ?_;refine pU (.agg #[iv 3, iv 1, .slice G9 2 Ga]) (xl (ld26 (Cj.c B1) (Cr.c B1) (Cs.c B1))) ?_;refine pU (.agg #[iv 3, iv 1, sv G8 0 2 2]) (xl (ld26 (Cv.c B5) (Da.c B5) (Db.c B5))) ?_;refine pS (sc 21 #[.agg #[iv 3, iv 1, .slice G9 2 Ga], .agg #[iv 3, iv 1, sv G8 0 2 2]] ((mSame_t (N1 := Ex.NA) (N2 := [(1, -1, -2), (0, 0, -2)]) _ _ _ ((Gn.ext B6)) (Ext.refl _) (nds2_at ((D9.x B5)).1 ((Dl.x B5)).1 ((Dm.x B5)).1 ((Dn.x B5)).1 ((Do.x B5)).1 ((Dp.x B5)).1) (Ext.refl _) ⟨rfl, rfl, rfl⟩).mono ?_));rintro e L1 ⟨rfl, hb⟩;refine mv6 hb hE Bv B6 B1 Be B7 fun hE Bv B6 B1 Be B7=>?_;have Jj := hb.size;refine ⟨_, rfl, pD (.bool true) (.bool true) ?_⟩;refine pU (.agg #[iv 3, iv 1, .slice G9 2 Ga]) (xl (ld26 (Cj.c B1) (Cr.c B1) (Cs.c B1))) ?_;refine pU (.agg #[iv 3, iv 1, .slice Gr 2 Gs]) (xl (ld26 (Di.c B7) (Ef.c B7) (Eg.c B7))) ?_;refine pS (sc 21 #[.agg #[iv 3, iv 1, .slice G9 2 Ga], .agg #[iv 3, iv 1, .slice Gr 2 Gs]] ((mSame_f (N1 := Ex.NA) (N2 := Ex.NB) _ _ _ ((Gn.ext B6)) (Ext.refl _) ((H3.ext Be)) (Ext.refl _) (by decide)).mono ?_));rintro e L4 ⟨rfl, hb⟩;refine mv2 hb hE Bv fun hE Bv=>?_;have Jk := hb.size;refine ⟨_, rfl, pD (.bool true) (.bool true) ?_⟩;refine pD (.bool true) (sv b3 0 3 3) ?_;refine pS (sc 24 #[sv b3 0 3 3] ((Events_r (r := true) _ _ ((He.ext Bv)) (Ext.refl _) Ex.evs_ok).mono ?_));rintro e L5 ⟨rfl, hb⟩;replace hE := hE.trans hb;have Jl := hb.size;refine ⟨_, rfl, pD (.bool true) (.bool true) ?_⟩;refine pT (.agg #[iv 0, iv 0, iv 0, .slice none 0 0, iv 0, iv 0, .bool false]) ?_;refine pS (sn_newS (us := #[iv 0, iv 0, iv 0, .slice none 0 0, iv 0, iv 0, .bool false]) (t := 64) (k := 1) (c := 1) (by kernel_rfl) ?_);intro I2 Ke Iw Ir hb hbx;have ⟨G5, Gg, Gh, Gi, Gj, Gk, Gl⟩ := bq7 hbx;replace hE := hE.trans hb;have Jm := hb.size;have K4 := G5.lt;refine pS (sc 24 #[sv I2 0 1 1] ((Events_r (r := false) _ _ (evs1_at (x0 := ⟨none, 0, 0⟩) (e0 := default) ⟨(G5).1, (Gg).1, (Gh).1, (Gi).1, (Gj).1, (Gk).1, (Gl).1, aa_none _⟩) (Ext.refl _) Ex.one_no).mono ?_));rintro e L7 ⟨rfl, hb⟩;replace hE := hE.trans hb;have Jn := hb.size;refine ⟨_, rfl, pD (.bool true) (.bool true) ?_⟩;refine pT (.bool true) ?_;refine zn (cK [0] (fun L => ?_));refine cw_ret (qw_ret [.bool true] rfl ⟨(by kernel_rfl), trivial⟩ ?_);exact ⟨rfl, hE⟩
end Go.Proofs.YtpfajhcdfgpgmaaDoor

namespace Go.Proofs.YtpfajhcdfgpgmaaDoor
open Go.ChangeShapes Go.WideShapes Go.ChangeAt Go.RowKit
theorem own : ownKnob Tryd.prog.godebug = none := by kernel_rfl
theorem laidOut : laidOutB Tryd.prog = true := by kernel_rfl
def laidTabs : List (String × DataW Unit) := [("math/bits.deBruijn32tab", Rows.laid_math_bits_deBruijn32tab), ("math/bits.deBruijn64tab", Rows.laid_math_bits_deBruijn64tab)]
theorem gTab : Tryd.prog.globalNamed "math/bits.deBruijn64tab" = some 1 := by kernel_rfl
theorem tTab : (Tryd.prog.globals[1]?).map (·.type) = some 143 := by kernel_rfl
theorem door_met (os : Os) (args : Array Value) : laidMetH Tryd.prog laidTabs ((World.doorLaid Tryd.prog 19 os).forCall (fun _ _ => 0) ⟨#[], args, []⟩).memory :=
 laidMetH_of_parts3 (fuel := 8) (laidMet_of_run' 8 (by kernel_rfl) (by kernel_rfl)) (by kernel_rfl) (by kernel_rfl)
theorem tab_of_laid {W : World} (h : laidMetH Tryd.prog laidTabs W) : Tab W := by
 rw [MakeChecks.laidMetH_plain _ _ _ (by kernel_rfl)] at h
 have h2 : laidMet Tryd.prog [("math/bits.deBruijn64tab", Lib.tabData .u8 (Lib.deBruijn64tab.map Int.ofNat))] W := laidMet.tail h
 have ht := Lib.tabIs_of_head gTab tTab Tryd.underlying143 Tryd.underlying5 (by kernel_rfl) (by kernel_rfl) h2
 have hc : ∀ j, j < 64 → W.cell? ⟨1, j, none⟩ = some (.int .u8 (Lib.deBruijn64tab.getD j 0)) := fun j hj => by
  have := Lib.TabIs.cell ht gTab j (by rw [List.length_map]; exact hj)
  rw [this]
  simp [List.getD_eq_getElem?_getD, List.getElem?_map]
  rw [List.getElem?_eq_getElem (show j < Lib.deBruijn64tab.length from hj)]
  rfl
 exact ⟨World.block_lt_of_cell? W _ (hc 0 (by decide)), hc⟩
theorem isI_of_wf {n : Int} (h : (Lit.int .i64 n).wf = true) : IsI n := by
 simp [Lit.wf, IntKind.min, IntKind.max, IntKind.signed, IntKind.bits] at h
 exact ⟨by omega, by omega⟩
end Go.Proofs.YtpfajhcdfgpgmaaDoor

namespace Go.Proofs.YtpfajhcdfgpgmaaDoor
open Go.ChangeShapes Go.WideShapes Go.ChangeAt Go.RowKit Go.Deep
theorem choose_lt11 {α : Type} [Inhabited α] {n : Nat} {p : Nat → α → Prop} (h : ∀ i, i < n → ∃ x, p i x) : ∃ f : Nat → α, ∀ i, i < n → p i (f i) := by
 have h2 : ∀ i, ∃ x, i < n → p i x := fun i => by
  by_cases hi : i < n
  · obtain ⟨x, hx⟩ := h i hi; exact ⟨x, fun _ => hx⟩
  · exact ⟨default, fun h => absurd h hi⟩
 obtain ⟨f, hf⟩ := Classical.axiomOfChoice h2
 exact ⟨f, hf⟩
def Three (v : Value) : Prop := ∃ x0 x1 x2 : Int, v = .agg #[.int .i64 x0, .int .i64 x1, .int .i64 x2] ∧ IsI x0 ∧ IsI x1 ∧ IsI x2
section
variable {H : Type} {enc : TypeId × Value → H} {W : World}
theorem ints_of_array {spare : Nat → Bool} {held : Bool} {t : TypeId} {k fuel : Nat} {cs : List Value} {x : DataW H × List MemPlace} (ht : Tryd.prog.underlying t = some (.array k 3)) (h : DataW.trod enc Tryd.prog W 0 spare held fuel t cs = some x) (hc : cs.length = k) :
  ∃ q : Nat → Int, ∀ j, j < k → cs[j]? = some (.int .i64 (q j)) ∧ IsI (q j) := by
 obtain ⟨xs, m, rfl, hx, hlen, hxl, hg⟩ := DataW.trod_array ht h
 have hone : Tryd.prog.cellsOf 3 = 1 := by kernel_rfl
 have each : ∀ j, j < k → ∃ n : Int, cs[j]? = some (.int .i64 n) ∧ IsI n := fun j hj => by
  have h1 := hg j hj
  rw [hone, Nat.mul_one] at h1
  have hx : xs[j]? = some (xs[j]'(by omega)) := List.getElem?_eq_getElem (by omega)
  rw [hx] at h1
  obtain ⟨n, hn, _, hw⟩ := DataW.trod_int Tryd.underlying3 h1
  have hcj : cs[j]? = some (.int .i64 n) := by
   have e : ((cs.drop j).take 1)[0]? = some (.int .i64 n) := by rw [hn]; rfl
   rw [List.getElem?_take_of_lt (by omega), List.getElem?_drop, Nat.add_zero] at e
   exact e
  exact ⟨n, hcj, isI_of_wf hw⟩
 obtain ⟨q, hq⟩ := choose_lt11 each
 exact ⟨q, hq⟩
set_option maxRecDepth 100000 in
theorem open_three {b0 : Nat} {v : Value} {d : DataW H} {p : List MemPlace} (hval : Value.okWide Tryd.prog W .any b0 22 v) (h : DataW.Trod enc Tryd.prog W 0 (fun _ => true) true 22 v d p) : Three v := by
 have hu := Tryd.underlying22
 simp only [Value.okWide, hu] at hval
 obtain ⟨cs, rfl, hsz, _⟩ := hval
 have h2 : Tryd.prog.cellsOf 22 = 3 := by kernel_rfl
 obtain ⟨fuel, hf⟩ := h
 have hl : cs.toList.length = 3 := by rw [Array.length_toList, hsz, h2]
 obtain ⟨q, hq⟩ := ints_of_array hu hf (by simpa [Value.cells] using hl)
 obtain ⟨l⟩ := cs
 match l, hl with
 | [x0, x1, x2], _ =>
  have e0 := hq 0 (by omega)
  have e1 := hq 1 (by omega)
  have e2 := hq 2 (by omega)
  simp [Value.cells] at e0 e1 e2
  exact ⟨q 0, q 1, q 2, by rw [e0.1, e1.1, e2.1], e0.2, e1.2, e2.2⟩
def Eight (v : Value) : Prop := ∃ q : Nat → Int, v = .agg #[.int .i64 (q 0), .int .i64 (q 1), .int .i64 (q 2), .int .i64 (q 3), .int .i64 (q 4), .int .i64 (q 5), .int .i64 (q 6), .int .i64 (q 7)] ∧ ∀ i, i < 8 → IsI (q i)
set_option maxRecDepth 100000 in
theorem open_eight {b0 : Nat} {v : Value} {d : DataW H} {p : List MemPlace} (hval : Value.okWide Tryd.prog W .any b0 34 v) (h : DataW.Trod enc Tryd.prog W 0 (fun _ => true) true 34 v d p) : Eight v := by
 have hu := Tryd.underlying34
 simp only [Value.okWide, hu] at hval
 obtain ⟨cs, rfl, hsz, _⟩ := hval
 have h2 : Tryd.prog.cellsOf 34 = 8 := by kernel_rfl
 obtain ⟨fuel, hf⟩ := h
 have hl : cs.toList.length = 8 := by rw [Array.length_toList, hsz, h2]
 obtain ⟨q, hq⟩ := ints_of_array hu hf (by simpa [Value.cells] using hl)
 obtain ⟨l⟩ := cs
 match l, hl with
 | [x0, x1, x2, x3, x4, x5, x6, x7], _ =>
  have e0 := (hq 0 (by omega)).1
  have e1 := (hq 1 (by omega)).1
  have e2 := (hq 2 (by omega)).1
  have e3 := (hq 3 (by omega)).1
  have e4 := (hq 4 (by omega)).1
  have e5 := (hq 5 (by omega)).1
  have e6 := (hq 6 (by omega)).1
  have e7 := (hq 7 (by omega)).1
  simp [Value.cells] at e0 e1 e2 e3 e4 e5 e6 e7
  exact ⟨q, by rw [e0, e1, e2, e3, e4, e5, e6, e7], fun i hi => (hq i hi).2⟩
end
end Go.Proofs.YtpfajhcdfgpgmaaDoor

namespace Go.Proofs.YtpfajhcdfgpgmaaDoor
set_option maxRecDepth 1000000
set_option maxHeartbeats 4000000
set_option synthInstance.maxHeartbeats 0
set_option synthInstance.maxSize 9999
open Go.RowKit
theorem lbd {n : Nat} {t : Bdd.D} (h : Bdd.OK 0 n t) (hn : n ≤ 8) : (Bdd.nodes t).length ≤ 255 := by
 have h1 := Bdd.nodes_len h
 have h2 : 2 ^ n ≤ 2 ^ 8 := Nat.pow_le_pow_right (by decide) hn
 omega
theorem validT {n : Nat} {t : Bdd.D} (h : Bdd.OK 0 n t) (hn : n ≤ 8) : Bdd.validB ((n : Nat) : Int) (Bdd.start t) (Bdd.nodes t) = true := Bdd.mach_valid h (by omega) (by have := lbd h hn; omega)
theorem Made_n {n : Nat} {v x0 x1 x2 : Int} (w : World) (hn : n = Bdd.pk v 9) (hv : IsI v) (hx0 : IsI x0) (hx1 : IsI x1) (hx2 : IsI x2) : Calls Tryd.prog 8 #[.int .i64 v, .agg #[.int .i64 x0, .int .i64 x1, .int .i64 x2]] w fun e w' => ∃ t a c, e = .returned (.agg #[.int .i64 ((n : Nat) : Int), .int .i64 (Bdd.start t), .slice a (Bdd.nodes t).length c]) ∧ Bdd.OK 0 n t ∧ NdsAt w' a (Bdd.nodes t).length (Bdd.nodes t) ∧ Ext w w' := by
 subst hn
 exact (Made_c w hv hx0 hx1 hx2).mono fun e w' h => by
  obtain ⟨t, a, c, h1, h2, h3, _, _, h6⟩ := h
  exact ⟨t, a, c, h1, h2, h3, h6⟩
section
variable {w1 w2 : World} {a1 a2 : Option Addr} {n : Nat} {t1 t2 : Bdd.D}
theorem Accepts_t {b : Bool} {V : Nat} (c : Nat) (w : World) (hn : n ≤ 8) (o1 : Bdd.OK 0 n t1) (H : NdsAt w1 a1 (Bdd.nodes t1).length (Bdd.nodes t1)) (e0 : Ext w1 w) (hV : V < 2 ^ n) (h : Bdd.sem t1 (Bdd.bits V) = b) : Calls Tryd.prog 11 #[.agg #[.int .i64 ((n : Nat) : Int), .int .i64 (Bdd.start t1), .slice a1 (Bdd.nodes t1).length c], .int .i64 ((V : Nat) : Int)] w fun e w' => e = .returned (.bool b) ∧ Ext w w' :=
 Accepts_r _ c w H e0 (by rw [Bdd.acc_is (validT o1 hn) (by rw [Int.toNat_natCast]; exact hV), Bdd.mach_tree o1]; exact h)
end
namespace Bdd
end Bdd
end Go.Proofs.YtpfajhcdfgpgmaaDoor

namespace Go.Proofs.YtpfajhcdfgpgmaaDoor
namespace Bdd
theorem num_of (f : Nat → Bool) : ∀ m, ∃ r, r < 2 ^ m ∧ ∀ i, i < m → bits r i = f i
  | 0 => ⟨0, by simp, fun i h => absurd h (Nat.not_lt_zero i)⟩
  | m + 1 => by
    obtain ⟨r, h1, h2⟩ := num_of f m
    refine ⟨2 ^ m * (if f m then 1 else 0) + r, ?_, fun i hi => ?_⟩
    · rw [Nat.pow_succ]; split <;> omega
    · unfold bits at h2 ⊢
      rw [Nat.testBit_two_pow_mul_add _ h1]
      split
      · rename_i q; exact h2 i q
      · obtain rfl : i = m := by omega
        rw [Nat.sub_self]
        cases f i <;> simp
end Bdd
end Go.Proofs.YtpfajhcdfgpgmaaDoor

namespace Go.Proofs.YtpfajhcdfgpgmaaDoor
set_option maxRecDepth 1000000
set_option maxHeartbeats 4000000
set_option synthInstance.maxHeartbeats 0
set_option synthInstance.maxSize 9999
open Go.RowKit
end Go.Proofs.YtpfajhcdfgpgmaaDoor

namespace Go.Proofs.YtpfajhcdfgpgmaaDoor
namespace Bdd
def b1 (b : Bool) : Nat := if b then 1 else 0
def sumB (c : Nat → Nat) (s : Nat → Bool) : Nat → Nat
 | 0 => 0
 | i + 1 => sumB c s i + c i * b1 (s i)
theorem b1_is (V i : Nat) : V / 2 ^ i % 2 = b1 (bits V i) := by
 unfold b1 bits
 rw [Nat.testBit_eq_decide_div_mod_eq]
 rcases Nat.mod_two_eq_zero_or_one (V / 2 ^ i) with h | h <;> rw [h] <;> simp
theorem sumB_congr {c : Nat → Nat} {s s' : Nat → Bool} : ∀ {n : Nat}, (∀ i, i < n → s i = s' i) → sumB c s n = sumB c s' n
 | 0, _ => rfl
 | n + 1, h => by
  show sumB c s n + _ = sumB c s' n + _
  rw [sumB_congr fun i hi => h i (by omega), h n (by omega)]
theorem sumB_upd {c : Nat → Nat} {s s' : Nat → Bool} {e : Nat} (h1 : s e = false) (h2 : s' e = true) (h3 : ∀ i, i ≠ e → s' i = s i) : ∀ {n : Nat}, e < n → sumB c s' n = sumB c s n + c e
  | 0, h => absurd h (Nat.not_lt_zero e)
  | n + 1, h => by
    show sumB c s' n + c n * b1 (s' n) = sumB c s n + c n * b1 (s n) + c e
    rcases Nat.lt_or_ge e n with q | q
    · rw [sumB_upd h1 h2 h3 q, h3 n (by omega)]; omega
    · obtain rfl : e = n := by omega
      rw [sumB_congr (s := s') (s' := s) fun i hi => h3 i (by omega), h1, h2]
      simp [b1]
theorem sumB_le {c : Nat → Nat} {s : Nat → Bool} {n : Nat} (hc : ∀ i, i < n → c i ≤ 50) : sumB c s n ≤ n * 50 := by
 induction n with
 | zero => exact Nat.zero_le _
 | succ n ih =>
  have h1 := ih fun i hi => hc i (by omega)
  have h2 := hc n (by omega)
  show sumB c s n + c n * b1 (s n) ≤ _
  have h3 : c n * b1 (s n) ≤ c n := by unfold b1; split <;> omega
  rw [Nat.add_mul]; omega
theorem bit_off {V e : Nat} (h : bits V e = true) : ∃ U, V = U + 2 ^ e ∧ bits U e = false ∧ ∀ i, i ≠ e → bits U i = bits V i := by
  have h1 : V / 2 ^ e % 2 = 1 := by rw [b1_is, h]; rfl
  have hp := Nat.two_pow_pos e
  obtain ⟨q, hq⟩ : ∃ q, V / 2 ^ e = 2 * q + 1 := ⟨V / 2 ^ e / 2, by omega⟩
  have hr := Nat.mod_lt V hp
  have hV : V = 2 ^ e * (2 * q + 1) + V % 2 ^ e := by rw [← hq]; exact (Nat.div_add_mod V (2 ^ e)).symm
  refine ⟨2 ^ e * (2 * q) + V % 2 ^ e, by rw [Nat.mul_add] at hV; omega, ?_, fun i hi => ?_⟩
  · unfold bits
    rw [Nat.testBit_two_pow_mul_add _ hr, if_neg (by omega), Nat.sub_self]
    simp
  · have hV2 : bits V i = bits (2 ^ e * (2 * q + 1) + V % 2 ^ e) i := congrArg (fun x => bits x i) hV
    rw [hV2]
    unfold bits
    rw [Nat.testBit_two_pow_mul_add _ hr, Nat.testBit_two_pow_mul_add _ hr]
    split
    · rfl
    · obtain ⟨m, hm⟩ : ∃ m, i - e = m + 1 := ⟨i - e - 1, by omega⟩
      rw [hm, Nat.testBit_succ, Nat.testBit_succ]
      congr 1; omega
theorem bit_on {V e : Nat} (h : V % 2 ^ (e + 1) = 0) : V ||| 2 ^ e = V + 2 ^ e ∧ bits V e = false ∧ bits (V ||| 2 ^ e) e = true ∧ ∀ i, i ≠ e → bits (V ||| 2 ^ e) i = bits V i := by
  have hV : V = 2 ^ (e + 1) * (V / 2 ^ (e + 1)) := by have := Nat.div_add_mod V (2 ^ (e + 1)); omega
  have hl : 2 ^ e < 2 ^ (e + 1) := Nat.pow_lt_pow_right (by decide) (Nat.lt_succ_self e)
  have h1 := Nat.two_pow_add_eq_or_of_lt hl (V / 2 ^ (e + 1))
  rw [← hV] at h1
  refine ⟨h1.symm, ?_, ?_, fun i hi => ?_⟩
  · unfold bits
    rw [hV, Nat.testBit_two_pow_mul]
    simp; omega
  · unfold bits
    rw [Nat.testBit_or, Nat.testBit_two_pow_self, Bool.or_true]
  · unfold bits
    rw [Nat.testBit_or, Nat.testBit_two_pow_of_ne (Ne.symm hi), Bool.or_false]
structure OffIs (c : Nat → Nat) (k n : Nat) (t : D) (o : Off) : Prop where
 no : o.1 = false → o = (false, 0, 0) ∧ ∀ s, sem t s = false
 lt : o.2.2 < 2 ^ n
 md : o.2.2 % 2 ^ k = 0
 yes : o.1 = true → sem t (bits o.2.2) = true ∧ o.2.1 = sumB c (bits o.2.2) n
 le : o.1 = true → ∀ V, sem t (bits V) = true → o.2.1 < sumB c (bits V) n ∨ o.2.1 = sumB c (bits V) n ∧ o.2.2 ≤ V
theorem mod_mono {V j k : Nat} (h : V % 2 ^ k = 0) (hj : j ≤ k) : V % 2 ^ j = 0 := Nat.mod_eq_zero_of_dvd (Nat.dvd_trans (Nat.pow_dvd_pow 2 hj) (Nat.dvd_of_mod_eq_zero h))
theorem or2_neg {x y : Int} : or2 x y < 0 ↔ x < 0 ∨ x = 0 ∧ y < 0 := by unfold or2; split <;> omega
theorem cmpI_neg {a b : Int} : cmpI a b < 0 ↔ a < b := by unfold cmpI; split <;> (try split) <;> omega
theorem cmpI_zero {a b : Int} : cmpI a b = 0 ↔ a = b := by unfold cmpI; split <;> (try split) <;> omega
theorem off_is {c : Nat → Nat} {n : Nat} : ∀ {t : D} {k : Nat}, OK k n t → OffIs c k n t (off c t)
  | .leaf b, k, _ => by
    have hz : sumB c (bits 0) n = 0 := by
      have : ∀ m, sumB c (bits 0) m = 0 := fun m => by
        induction m with
        | zero => rfl
        | succ m ih => show sumB c (bits 0) m + c m * b1 (bits 0 m) = 0; rw [ih]; simp [b1, bits]
      exact this n
    refine ⟨fun h => ?_, Nat.two_pow_pos n, Nat.zero_mod _, fun h => ?_, fun h V _ => ?_⟩
    · have : b = false := h
      subst this
      exact ⟨rfl, fun _ => rfl⟩
    · exact ⟨h, hz.symm⟩
    · show 0 < _ ∨ 0 = _ ∧ 0 ≤ V
      omega
  | .nd e a b, k, ho => by
    obtain ⟨h1, h2, h3, h4, h5⟩ := ho
    have ia := off_is (c := c) h4
    have ib := off_is (c := c) h5
    have hsa : ∀ V, bits V e = false → sem (.nd e a b) (bits V) = sem a (bits V) := fun V hV => by simp [sem, hV]
    have hsb : ∀ V, bits V e = true → sem (.nd e a b) (bits V) = sem b (bits V) := fun V hV => by simp [sem, hV]
    have hae : bits (off c a).2.2 e = false := (bit_on ia.md).2.1
    have hbe := bit_on ib.md
    have hce : sumB c (bits ((off c b).2.2 ||| 2 ^ e)) n = sumB c (bits (off c b).2.2) n + c e := sumB_upd hbe.2.1 hbe.2.2.1 hbe.2.2.2 h2
    have hbs : sem b (bits ((off c b).2.2 ||| 2 ^ e)) = sem b (bits (off c b).2.2) := h5.congr fun i hi _ => hbe.2.2.2 i (by omega)
    have hbl : (off c b).2.2 ||| 2 ^ e < 2 ^ n := Nat.or_lt_two_pow ib.lt (Nat.pow_lt_pow_right (by decide) h2)
    have hbm : ((off c b).2.2 ||| 2 ^ e) % 2 ^ k = 0 := by
      rw [hbe.1, Nat.add_mod, mod_mono ib.md (show k ≤ e + 1 by omega), mod_mono (Nat.mod_self (2 ^ e)) h1]
      simp
    -- what goes on with the event
    have goB : ∀ V, bits V e = true → sem b (bits V) = true → (off c b).1 = true → (off c b).2.1 + c e < sumB c (bits V) n ∨ (off c b).2.1 + c e = sumB c (bits V) n ∧ (off c b).2.2 ||| 2 ^ e ≤ V := fun V hV hs hi => by
      obtain ⟨U, rfl, B1, B0⟩ := bit_off hV
      have hsU : sem b (bits U) = true := by rw [← hs]; exact h5.congr fun i hi _ => B0 i (by omega)
      have B2 : sumB c (bits (U + 2 ^ e)) n = sumB c (bits U) n + c e := sumB_upd B1 hV (fun i hi => (B0 i hi).symm) h2
      have := ib.le hi U hsU
      rw [B2, hbe.1]
      omega
    show OffIs c k n (.nd e a b) (best (off c a) (upO c e (off c b)))
    cases hpa : (off c a).1 with
    | false =>
      obtain ⟨ea, na⟩ := ia.no hpa
      cases hpb : (off c b).1 with
      | false =>
        obtain ⟨eb, nb⟩ := ib.no hpb
        have e1 : best (off c a) (upO c e (off c b)) = (false, 0, 0) := by rw [ea, eb]; rfl
        rw [e1]
        refine ⟨fun _ => ⟨rfl, fun s => ?_⟩, Nat.two_pow_pos n, Nat.zero_mod _, (fun h => by cases h), (fun h => by cases h)⟩
        simp [sem, na, nb]
      | true =>
        have e1 : best (off c a) (upO c e (off c b)) = (true, (off c b).2.1 + c e, (off c b).2.2 ||| 2 ^ e) := by
          rw [ea]; unfold upO; rw [if_pos hpb]; rfl
        rw [e1]
        refine ⟨(fun h => by cases h), hbl, hbm, fun _ => ⟨?_, ?_⟩, fun _ V hV => ?_⟩
        · rw [hsb _ hbe.2.2.1, hbs]; exact (ib.yes hpb).1
        · show _ + _ = _; rw [hce, (ib.yes hpb).2]
        · cases hVe : bits V e with
          | false => rw [hsa V hVe, na] at hV; cases hV
          | true => exact goB V hVe (by rw [← hsb V hVe]; exact hV) hpb
    | true =>
      cases hpb : (off c b).1 with
      | false =>
        obtain ⟨eb, nb⟩ := ib.no hpb
        have e1 : best (off c a) (upO c e (off c b)) = off c a := by
          rw [eb]; show best (off c a) (false, 0, 0) = _; unfold best cmpO; simp [hpa]
        rw [e1]
        refine ⟨(fun h => by rw [hpa] at h; cases h), ia.lt, mod_mono ia.md (by omega), fun _ => ⟨?_, (ia.yes hpa).2⟩, fun _ V hV => ?_⟩
        · rw [hsa _ hae]; exact (ia.yes hpa).1
        · cases hVe : bits V e with
          | false => exact ia.le hpa V (by rw [← hsa V hVe]; exact hV)
          | true => rw [hsb V hVe, nb] at hV; cases hV
      | true =>
        have e0 : upO c e (off c b) = (true, (off c b).2.1 + c e, (off c b).2.2 ||| 2 ^ e) := by unfold upO; rw [if_pos hpb]
        rw [e0]
        by_cases hlt : cmpO (true, (off c b).2.1 + c e, (off c b).2.2 ||| 2 ^ e) (off c a) < 0
        · have e1 : best (off c a) (true, (off c b).2.1 + c e, (off c b).2.2 ||| 2 ^ e) = (true, (off c b).2.1 + c e, (off c b).2.2 ||| 2 ^ e) := if_pos hlt
          rw [e1]
          have hx : (off c b).2.1 + c e < (off c a).2.1 ∨ (off c b).2.1 + c e = (off c a).2.1 ∧ (off c b).2.2 ||| 2 ^ e < (off c a).2.2 := by
            unfold cmpO at hlt
            rw [if_neg (by simp [hpa]), or2_neg, cmpI_neg, cmpI_zero, cmpI_neg] at hlt
            simp only [] at hlt
            generalize (off c b).2.2 ||| 2 ^ e = z at hlt ⊢
            omega
          refine ⟨(fun h => by cases h), hbl, hbm, fun _ => ⟨?_, ?_⟩, fun _ V hV => ?_⟩
          · rw [hsb _ hbe.2.2.1, hbs]; exact (ib.yes hpb).1
          · show _ + _ = _; rw [hce, (ib.yes hpb).2]
          · cases hVe : bits V e with
            | false =>
              have := ia.le hpa V (by rw [← hsa V hVe]; exact hV)
              show (off c b).2.1 + c e < _ ∨ (off c b).2.1 + c e = _ ∧ (off c b).2.2 ||| 2 ^ e ≤ V
              generalize (off c b).2.2 ||| 2 ^ e = z at hx ⊢
              omega
            | true => exact goB V hVe (by rw [← hsb V hVe]; exact hV) hpb
        · have e1 : best (off c a) (true, (off c b).2.1 + c e, (off c b).2.2 ||| 2 ^ e) = off c a := if_neg hlt
          rw [e1]
          have hx : ¬ ((off c b).2.1 + c e < (off c a).2.1 ∨ (off c b).2.1 + c e = (off c a).2.1 ∧ (off c b).2.2 ||| 2 ^ e < (off c a).2.2) := by
            intro q
            apply hlt
            unfold cmpO
            rw [if_neg (by simp [hpa]), or2_neg, cmpI_neg, cmpI_zero, cmpI_neg]
            simp only []
            generalize (off c b).2.2 ||| 2 ^ e = z at q ⊢
            omega
          refine ⟨(fun h => by rw [hpa] at h; cases h), ia.lt, mod_mono ia.md (by omega), fun _ => ⟨?_, (ia.yes hpa).2⟩, fun _ V hV => ?_⟩
          · rw [hsa _ hae]; exact (ia.yes hpa).1
          · cases hVe : bits V e with
            | false => exact ia.le hpa V (by rw [← hsa V hVe]; exact hV)
            | true =>
              have := goB V hVe (by rw [← hsb V hVe]; exact hV) hpb
              generalize (off c b).2.2 ||| 2 ^ e = z at hx this
              omega
end Bdd
end Go.Proofs.YtpfajhcdfgpgmaaDoor

namespace Go.Proofs.YtpfajhcdfgpgmaaDoor
namespace Bdd
theorem need_iff {n i : Nat} (hi : i < n) : ∀ {t : D} {k : Nat}, OK k n t → ((needD n t).testBit i = true ↔ ∀ s : Nat → Bool, sem t s = true → s i = true)
  | .leaf false, _, _ => by
    show (2 ^ n - 1).testBit i = true ↔ _
    rw [Nat.testBit_two_pow_sub_one]
    simp [hi, sem]
  | .leaf true, _, _ => by
    show (0 : Nat).testBit i = true ↔ _
    simp only [Nat.zero_testBit, sem]
    exact ⟨(fun h => by cases h), fun h => by cases h (fun _ => false) trivial⟩
  | .nd e a b, k, ho => by
    obtain ⟨h1, h2, h3, h4, h5⟩ := ho
    have ia := need_iff hi h4
    have ib := need_iff hi h5
    show (needD n a &&& (needD n b ||| 2 ^ e)).testBit i = true ↔ _
    rw [Nat.testBit_and, Nat.testBit_or, Bool.and_eq_true, Bool.or_eq_true, ia, ib]
    constructor
    · rintro ⟨q1, q2⟩ s hs
      cases he : s e with
      | false => exact q1 s (by simpa [sem, he] using hs)
      | true =>
        rcases q2 with q2 | q2
        · exact q2 s (by simpa [sem, he] using hs)
        · by_cases q : e = i
          · rw [← q]; exact he
          · rw [Nat.testBit_two_pow_of_ne q] at q2; cases q2
    · intro h
      constructor
      · intro s hs
        have := h (upd s e false) (by rw [sem_no h4]; exact hs)
        unfold upd at this
        split at this
        · cases this
        · exact this
      · by_cases q : i = e
        · right; rw [q, Nat.testBit_two_pow_self]
        · left
          intro s hs
          have := h (upd s e true) (by rw [sem_yes h5]; exact hs)
          unfold upd at this
          rwa [if_neg q] at this
def wo (t : D) (n : Nat) : Nat → Nat
 | 0 => 0
 | V + 1 => if sem t (bits V) = true then wo t n V ||| (2 ^ n - 1 - V) else wo t n V
theorem wo_lt {t : D} {n : Nat} : ∀ V, wo t n V < 2 ^ n
 | 0 => Nat.two_pow_pos n
 | V + 1 => by
  have hp := Nat.two_pow_pos n
  unfold wo
  split
  · exact Nat.or_lt_two_pow (wo_lt V) (by omega)
  · exact wo_lt V
theorem wo_bit {t : D} {n i : Nat} (hi : i < n) : ∀ m, m ≤ 2 ^ n → ((wo t n m).testBit i = true ↔ ∃ V, V < m ∧ sem t (bits V) = true ∧ bits V i = false)
  | 0, _ => by simp [wo]
  | m + 1, hm => by
    have ih := wo_bit (t := t) hi m (by omega)
    have hb : (2 ^ n - 1 - m).testBit i = !(bits m i) := by
      rw [show 2 ^ n - 1 - m = 2 ^ n - (m + 1) by omega, Nat.testBit_two_pow_sub_succ (by omega)]
      simp [hi, bits]
    unfold wo
    split
    · rename_i hs
      rw [Nat.testBit_or, Bool.or_eq_true, ih, hb]
      constructor
      · rintro (⟨V, q1, q2⟩ | q)
        · exact ⟨V, by omega, q2⟩
        · exact ⟨m, Nat.lt_succ_self m, hs, by simpa using q⟩
      · rintro ⟨V, q1, q2, q3⟩
        rcases Nat.lt_succ_iff_lt_or_eq.1 q1 with q | q
        · exact .inl ⟨V, q, q2, q3⟩
        · right; rw [← q, q3]; rfl
    · rename_i hs
      rw [ih]
      constructor
      · rintro ⟨V, q1, q2⟩; exact ⟨V, by omega, q2⟩
      · rintro ⟨V, q1, q2, q3⟩
        rcases Nat.lt_succ_iff_lt_or_eq.1 q1 with q | q
        · exact ⟨V, q, q2, q3⟩
        · rw [q] at q2; exact absurd q2 hs
theorem need_is {n : Nat} {t : D} (ho : OK 0 n t) : needD n t = 2 ^ n - 1 - wo t n (2 ^ n) := by
  have hw := wo_lt (t := t) (n := n) (2 ^ n)
  have hp := Nat.two_pow_pos n
  refine Nat.eq_of_testBit_eq fun i => ?_
  rcases Nat.lt_or_ge i n with hi | hi
  · rw [show 2 ^ n - 1 - wo t n (2 ^ n) = 2 ^ n - (wo t n (2 ^ n) + 1) by omega, Nat.testBit_two_pow_sub_succ hw]
    rw [Bool.eq_iff_iff, need_iff hi ho]
    simp only [hi, decide_true, Bool.true_and, Bool.not_eq_true']
    constructor
    · intro h
      cases q : (wo t n (2 ^ n)).testBit i with
      | false => rfl
      | true =>
        obtain ⟨V, q1, q2, q3⟩ := (wo_bit hi _ (Nat.le_refl _)).1 q
        rw [h _ q2] at q3; cases q3
    · intro h s hs
      obtain ⟨V, q1, q2⟩ := num_of s n
      have hsV : sem t (bits V) = true := by rw [← hs]; exact ho.congr fun j _ hj => q2 j hj
      cases q : s i with
      | true => rfl
      | false =>
        have := (wo_bit (t := t) hi _ (Nat.le_refl _)).2 ⟨V, q1, hsV, by rw [q2 i hi]; exact q⟩
        rw [h] at this; cases this
  · have h1 : 2 ^ n ≤ 2 ^ i := Nat.pow_le_pow_right (by decide) hi
    rw [Nat.testBit_lt_two_pow (Nat.lt_of_lt_of_le (need_lt ho) h1), Nat.testBit_lt_two_pow (by omega)]
end Bdd
end Go.Proofs.YtpfajhcdfgpgmaaDoor

namespace Go.Proofs.YtpfajhcdfgpgmaaDoor
set_option maxRecDepth 1000000
set_option maxHeartbeats 4000000
set_option synthInstance.maxHeartbeats 0
set_option synthInstance.maxSize 9999
open Go.RowKit
def Tz83_0 : List Row := [(some 97, [19], []), (some 98, [9], []), (some 99, [20], []), (some 100, [98, 99], [1, 2]), (some 101, [100], [3]), (some 102, [18], []), (some 103, [20], []), (some 104, [102, 103], [5, 6]), (some 105, [104], [7]), (some 106, [101, 105], [4, 8]), (some 107, [97, 106], [0, 9]), (some 19, [107], [10, 0, 1, 2, 3, 4, 5, 6, 7, 8, 9, 10])]
theorem own_ints14 {n₀ : Nat} {w : World} {l : List Nat} {a : Option Addr} {m c : Nat} (h : OwnL natR n₀ 3 1 (.slice a m c) w l) (hm : l.length = m) : IntsAt w a (l.map fun (x : Nat) => (x : Int)) := by
  obtain ⟨b, hb, _⟩ := own_ixl h hm 0
  rcases hb.at_ with q | ⟨o, h1, h2⟩
  · exact .inl (by rw [List.eq_nil_of_length_eq_zero q]; rfl)
  · refine .inr ⟨b, o, h1, fun i hi => ?_⟩
    rw [List.length_map] at hi
    rw [h2 i _ (List.getElem?_eq_getElem hi)]
    unfold Globe.nth
    rw [List.getElem?_map, List.getElem?_eq_getElem hi]
    rfl
theorem ia34 {w : World} {b k : Nat} (hk : k < 8) : (Instr.indexAt 34 (.pointer (some ⟨b, 0, none⟩)) (.int .i64 k)).run Tryd.prog w = .ok (.pointer (some ⟨b, k, none⟩)) w := by
 have : (0 : Int) ≤ (k : Int) := by omega
 have : (k : Int) < 8 := by omega
 go_simp
def centL (q : Nat → Int) (n : Nat) : List Nat := (List.range n).map fun j => Bdd.pk (q j) 50
theorem centL_len (q : Nat → Int) (n : Nat) : (centL q n).length = n := by unfold centL; rw [List.length_map, List.length_range]
theorem centL_next (q : Nat → Int) (n : Nat) : centL q (n + 1) = centL q n ++ [Bdd.pk (q n) 50] := by unfold centL; rw [List.range_succ, List.map_append]; rfl
def centI (q : Nat → Int) (n : Nat) : List Int := (centL q n).map fun (x : Nat) => (x : Int)
theorem centI_len (q : Nat → Int) (n : Nat) : (centI q n).length = n := by unfold centI; rw [List.length_map, centL_len]
theorem centI_at {q : Nat → Int} {n i : Nat} (hi : i < n) : Globe.nth (centI q n) i = ((Bdd.pk (q i) 50 : Nat) : Int) := by
 unfold Globe.nth centI centL
 rw [List.map_map, List.getElem?_map, List.getElem?_range hi]
 rfl
theorem centI_cf {q : Nat → Int} {n i : Nat} (hi : i < n) : Globe.nth (centI q n) i = ((Bdd.cf (centI q n) i : Nat) : Int) ∧ Bdd.cf (centI q n) i ≤ 50 := by
 have h1 := centI_at (q := q) hi
 have h2 := Bdd.pk_lt (c := q i) (n := 50) (by decide)
 unfold Bdd.cf
 rw [h1, Int.toNat_natCast]
 exact ⟨rfl, by omega⟩
theorem centI_ok (q : Nat → Int) (n : Nat) : Bdd.badC (centI q n) = false := by
 unfold Bdd.badC
 rw [List.any_eq_false]
 intro x hx
 unfold centI centL at hx
 rw [List.map_map, List.mem_map] at hx
 obtain ⟨j, _, rfl⟩ := hx
 have h2 := Bdd.pk_lt (c := q j) (n := 50) (by decide)
 have : Globe.inB (((fun (x : Nat) => (x : Int)) ∘ fun j => Bdd.pk (q j) 50) j) 0 1000000000 = true := Globe.inB_t.2 ⟨Int.natCast_nonneg _, by show ((Bdd.pk (q j) 50 : Nat) : Int) ≤ _; omega⟩
 rw [this]
 decide
theorem chp_t {n : Nat} {t : Bdd.D} (ho : Bdd.OK 0 n t) (hn : n ≤ 8) (q : Nat → Int) : Bdd.chpM ((n : Nat) : Int) (Bdd.start t) (Bdd.nodes t) (centI q n) = some (Bdd.off (Bdd.cf (centI q n)) t) := by
 unfold Bdd.chpM
 rw [if_pos ⟨validT ho hn, by rw [centI_len], centI_ok q n⟩, Bdd.mach_tree ho]
theorem need_t {n : Nat} {t : Bdd.D} (ho : Bdd.OK 0 n t) (hn : n ≤ 8) : Bdd.needM ((n : Nat) : Int) (Bdd.start t) (Bdd.nodes t) = ((Bdd.needD n t : Nat) : Int) := by
 unfold Bdd.needM
 rw [if_pos (validT ho hn), Bdd.mach_tree ho, Int.toNat_natCast]
theorem err_t {n : Nat} {t : Bdd.D} (ho : Bdd.OK 0 n t) (hn : n ≤ 8) : Bdd.errV ((n : Nat) : Int) (Bdd.start t) (Bdd.nodes t) = 0 := if_pos (validT ho hn)
theorem MachineCheapest_walk (w : World) (v0 : Int) (h0 : IsI v0) (v1 : Value) (o1 : Three v1) (v2 : Value) (o2 : Eight v2) (hT : Tab w) : Calls Tryd.prog 4 #[iv v0, v1, v2] w fun e w' => e = .returned (.bool true) ∧ Ext w w' := by
 obtain ⟨D6, D7, D8, rfl, Dm, Dn, Do⟩ := o1;obtain ⟨q2, rfl, Ed⟩ := o2;obtain ⟨n, hn⟩ : ∃ q, q = Bdd.pk v0 9 := ⟨_, rfl⟩;have Cc : n ≤ 8 := by have := Bdd.pk_lt (c := v0) (n := 9) (by decide);omega
 have Eu := Nat.two_pow_pos n;have Ew : 2 ^ n ≤ 256 := Tq (Nat.pow_le_pow_right (n := 2) (by decide) Cc) (by decide);refine calls_cw 154 [(2, .agg #[iv (q2 0 : Int), iv (q2 1 : Int), iv (q2 2 : Int), iv (q2 3 : Int), iv (q2 4 : Int), iv (q2 5 : Int), iv (q2 6 : Int), iv (q2 7 : Int)]), (1, .agg #[iv D6, iv D7, iv D8]), (0, iv v0)] Tryd.func4 rfl Tryd.ntmps4 (by kernel_rfl) (by kernel_rfl) (fun L => ?_);have hE := Ext.refl w;refine zc (zp (pS (sw 22 #[iv D6, iv D7, iv D8] ?_)));intro O1 X2 Ek Ei hb hbx;have ⟨Ba, Be, Bf⟩ := bq3 hbx;replace hE := hE.trans hb;have Dv := hb.size;have Eo := Ba.lt;refine pS (sw 34 #[iv (q2 0 : Int), iv (q2 1 : Int), iv (q2 2 : Int), iv (q2 3 : Int), iv (q2 4 : Int), iv (q2 5 : Int), iv (q2 6 : Int), iv (q2 7 : Int)] ?_);intro O5 X6 El Ej hb hbx;have ⟨Bg, Bh, Bi, Bj, Bk, Bl, Bm, Bo⟩ := bq8 hbx;refine mv4 hb hE Ba Be Bf fun hE Ba Be Bf=>?_;have Dj := hb.size;have Ep := Bg.lt;refine pT (.bool false) ?_;refine zn (zc (zp (pS (sc 7 #[] ((sane_c _ ((hT.ext hE))).mono ?_)))));rintro e w9 ⟨rfl, hb⟩;refine mv12 hb hE Ba Be Bf Bg Bh Bi Bj Bk Bl Bm Bo fun hE Ba Be Bf Bg Bh Bi Bj Bk Bl Bm Bo=>?_;have C5 := hb.size;refine ⟨_, rfl, pT (.bool true) ?_⟩;refine zn (zc (zc (zp (pD (.bool true) (.bool false) ?_))));refine zn (zf ?_);refine cw_skip (zq (zc (zp (pT (iv v0) ?_))));refine pU (.agg #[iv D6, iv D7, iv D8]) (xl (ld22 (Ba.1) (Be.1) (Bf.1))) ?_;refine pS (sc 8 #[iv v0, .agg #[iv D6, iv D7, iv D8]] ((Made_n _ hn h0 Dm Dn Do).mono ?_));rintro e Cg ⟨B5, Bx, Bz, rfl, Bs, C0, hb⟩;refine mv9 hb hE Bg Bh Bi Bj Bk Bl Bm Bo fun hE Bg Bh Bi Bj Bk Bl Bm Bo=>?_;have C6 := hb.size;have B1 := Ext.refl Cg;refine ⟨_, rfl, pS (sw 26 #[iv 0, iv 0, .slice none 0 0] ?_)⟩;intro Bp E5 Bv Dz hb hbx;have ⟨B2, B7, B8⟩ := bq3 hbx;refine mv9 hb hE B1 Bg Bh Bi Bj Bk Bl Bm fun hE B1 Bg Bh Bi Bj Bk Bl Bm=>?_;replace Bo := Bo.x hb;have Cu := hb.size;have Em := B2.lt;refine pP (sn_setK3 (O := Bp) (j := 0) (v0 := iv n) (v1 := iv (Bdd.start B5 : Int)) (v2 := .slice Bx ((Bdd.nodes B5).length) Bz) (xt (pw Bp 0) (.agg #[iv n, iv (Bdd.start B5 : Int), .slice Bx ((Bdd.nodes B5).length) Bz]) (st26 B2.1 B2.2 B7.1 B7.2 B8.1 B8.2)) B2 B7 B8 ?_);intro C4 ho B2 B7 B8 hk;replace hE := ho.ext hE (by omega);replace B1 := ho.ext B1 (Nat.le_of_eq Bv);have q9 := ho.bx O1 (by omega);clear q9;have q9 := ho.bx O5 (by omega);replace Bg := q9 Bg;replace Bh := q9 Bh;replace Bi := q9 Bi;replace Bj := q9 Bj;replace Bk := q9 Bk;replace Bl := q9 Bl;replace Bm := q9 Bm;replace Bo := q9 Bo;clear q9;have Cv := Nat.le_of_eq ho.size.symm;clear ho hk;refine zn (zc (zp (pT (.slice none 0 0) ?_)));refine zn (cK [5,7,8,9] (fun L => ?_));refine zc (zc (zp (pT (iv 0) ?_)));refine zn (cw_block ?_);have B0 := Ext.refl C4
 have hAr : ArrAt C4 O5 8 q2 := ⟨by decide, fun k hk => by
  match k, hk with
  | 0, _ => exact Bg
  | 1, _ => exact Bh
  | 2, _ => exact Bi
  | 3, _ => exact Bj
  | 4, _ => exact Bk
  | 5, _ => exact Bl
  | 6, _ => exact Bm
  | 7, _ => exact Bo
  | k + 8, hk => omega⟩
 refine cw_loop [5, 7, 8, 9, 10] (fun ws' wr m => ∃ i : Nat, ∃ av : Option Addr, ∃ cv : Nat, ws' = [(5, pw O5 0), (7, .bool true), (8, pw Bp 0), (9, .slice av i cv), (10, iv i)] ∧ m = n - i ∧ C4.heap.size ≤ wr.heap.size ∧ Ext w wr ∧ Ext Cg wr ∧ Ext C4 wr ∧ OwnL natR C4.heap.size 3 1 (.slice av i cv) wr ((centL q2 i)) ∧ i ≤ n) (ws0 := [(5, pw O5 0), (7, .bool true), (8, pw Bp 0), (9, .slice none 0 0), (10, iv 0)]) (by kernel_rfl) _ ⟨0, none, 0, rfl, rfl, Nat.le_refl _, hE, B1, B0, OwnL.nil _ _ _ _ _, Nat.zero_le _⟩ ?_;clear hE B1 B0;rintro Ey L ws Ch ⟨i, av, cv, rfl, rfl, Cw, hE, B1, B0, C9, hi⟩;have Da := C9.lt
 by_cases hlt : i < n
 ·
  refine zc (zc (zp (pD (iv i) (pw Bp 0) ?_)));refine pU (iv n) (xl (ld3 (B2.c B0))) ?_;refine pU (.bool true) (ed (((i : Nat) : Int) < ((n : Nat) : Int)) (by omega)) ?_;refine zn (zt ?_);refine cw_skip (zq (zc (cw_block ?_)));refine zp (pD (.slice av i cv) (iv i) ?_);refine pU (pw O5 i) (xi (pw O5 0) (iv i) (ia34 (k := i) (by omega))) ?_;refine pU (iv (q2 i : Int)) (xl (ld3 (((hAr.ext B0).at (k := i) (by omega)).1))) ?_;refine pS (sc 9 #[iv (q2 i : Int), iv 50] ((lpick_c (c := q2 i) (n := 50) _ (Ed i (by omega)) (by omega)).mono ?_));rintro e F1 ⟨rfl, hb⟩;refine mv4 hb hE B1 B0 C9 fun hE B1 B0 C9=>?_;have Ce := hb.size;refine ⟨_, rfl, pS (sn_newS (us := #[iv (((Bdd.pk (q2 i) 50 : Nat) : Int) : Int)]) (t := 3) (k := 1) (c := 1) (by kernel_rfl) ?_)⟩;intro E4 Es Cz E0 hb hbx;have Br := bq1 hbx;refine mv4 hb hE B1 B0 C9 fun hE B1 B0 C9=>?_;have Cx := hb.size;have En := Br.lt;have Dt := C9.base;obtain ⟨Cf, Bt, Er, Cd, C3, Bu, Cs⟩ := own_app1k (P := Tryd.prog) (ty := 35) intT (C9) (Tq Cw (Tq Ce Cx)) (k := i) (centL_len q2 i) (O := E4) (c := 1) (x := Bdd.pk (q2 i) 50) (d := [iv (((Bdd.pk (q2 i) 50 : Nat) : Int) : Int)]) (F := []) rfl (cells1 (Br.1)) (by simp [Value.oneCell']) (⟨rfl, rfl⟩) (fun b hb => by cases hb) (by omega) (by omega);refine pS (sn_eff (v := sv Cf 0 (i + 1) Bt) (w' := Er) (ex_append rfl (by kernel_rfl) (by kernel_rfl) Cd) ?_);replace hE := Bu.ext _ hE (by omega);replace B1 := Bu.ext _ B1 (Tq Cu Cv);replace B0 := Bu.ext _ B0 (Nat.le_refl _);have Dg := Bu.size;have Ec := C3.base Cf rfl;have Eb := C3.lt Cf rfl;refine pT (sv Cf 0 (i + 1) Bt) ?_;refine pl_nil (qw_block (zq (cK [5,7,8,9,10] (fun L => ?_))));refine zp (pT (iv i) ?_);refine pU (iv ((i + 1 : Nat) : Int)) (ew (by omega) (by omega)) ?_;refine pT (iv ((i + 1 : Nat) : Int)) ?_;refine pl_nil (qw_round [5, 7, 8, 9, 10] (ws' := [(5, pw O5 0), (7, .bool true), (8, pw Bp 0), (9, sv Cf 0 (i + 1) Bt), (10, iv ((i + 1 : Nat) : Int))]) (by kernel_rfl) _ ?_ ⟨(i + 1), (some ⟨Cf, 0, none⟩), Bt, rfl, rfl, (Tq Cw (Tq Ce (Tq Cx Dg))), hE, B1, B0, (by rw [centL_next]; exact C3), by omega⟩);omega
 ·
  have hin : i = n := by omega
  have hIL : IntsAt Ch av (centI q2 n) := by rw [← hin];exact own_ints14 C9 (centL_len q2 i)
  have hlIL : (centI q2 n).length = n := centI_len q2 n;rw [hin];have B3 := Ext.refl Ch;refine zc (zc (zp (pD (iv n) (pw Bp 0) ?_)));refine pU (iv n) (xl (ld3 (B2.c B0))) ?_;refine pU (.bool false) (en (((n : Nat) : Int) < ((n : Nat) : Int)) (by omega)) ?_;refine zn (zf ?_);refine cw_exit (qw_then_exit (qw_then_exit (qw_block_out (zq (cw_seq ?_)))));obtain ⟨⟨oi, oc, os⟩, Du⟩ : ∃ q, q = Bdd.off (Bdd.cf (centI q2 n)) B5 := ⟨_, rfl⟩;have hof := Bdd.off_is (c := Bdd.cf (centI q2 n)) Bs;rw [← Du] at hof;have hol : os < 2 ^ n := hof.lt;have hcf : ∀ i, i < n → Bdd.cf (centI q2 n) i ≤ 50 := fun i hi => (centI_cf hi).2
  have Ct : oi = false → (oc = 0 ∧ os = 0) ∧ ∀ s, Bdd.sem B5 s = false := fun q => ⟨by have := (hof.no q).1; cases this; exact ⟨rfl, rfl⟩, (hof.no q).2⟩
  have Cy : oi = true → Bdd.sem B5 (Bdd.bits os) = true ∧ oc = Bdd.sumB (Bdd.cf (centI q2 n)) (Bdd.bits os) n := hof.yes;have Df : oi = true → ∀ V, Bdd.sem B5 (Bdd.bits V) = true → oc < Bdd.sumB (Bdd.cf (centI q2 n)) (Bdd.bits V) n ∨ oc = Bdd.sumB (Bdd.cf (centI q2 n)) (Bdd.bits V) n ∧ os ≤ V := hof.le;refine zp (pU (.agg #[iv n, iv (Bdd.start B5 : Int), .slice Bx ((Bdd.nodes B5).length) Bz]) (xl (ld26 (B2.c B0) (B7.c B0) (B8.c B0))) ?_);refine pT (.slice av n cv) ?_;refine pS (sc 12 #[.agg #[iv n, iv (Bdd.start B5 : Int), .slice Bx ((Bdd.nodes B5).length) Bz], .slice av n cv] ((Cheapest_r (l := (centI q2 n)) _ _ _ ((C0.ext B1)) (hIL.ext (Ext.refl _)) hlIL (by omega) (Ext.refl _) (by rw [chp_t Bs Cc q2, ← Du])).mono ?_));rintro e D1 ⟨rfl, hb⟩;refine mv4 hb hE B1 B0 B3 fun hE B1 B0 B3=>?_;have Ee := hb.size;refine ⟨_, rfl, pD (.tuple #[iv os, iv oc, .bool oi, iv 0]) (iv os) ?_⟩;refine pD (iv oc) (.bool oi) ?_;refine pD (iv 0) (iv os) ?_;refine pD (iv oc) (.bool oi) ?_;refine pT (iv 0) ?_;refine zn (cK [7,8,9,11,12,13,14] (fun L => ?_));refine cw_seq ?_;have B4 := Ext.refl D1;refine zp (pU (.agg #[iv n, iv (Bdd.start B5 : Int), .slice Bx ((Bdd.nodes B5).length) Bz]) (xl (ld26 (B2.c B0) (B7.c B0) (B8.c B0))) ?_);refine pS (sc 13 #[.agg #[iv n, iv (Bdd.start B5 : Int), .slice Bx ((Bdd.nodes B5).length) Bz]] ((Needed_r _ _ ((C0.ext B1)) (Ext.refl _) (need_t Bs Cc) (err_t Bs Cc)).mono ?_));rintro e Ci ⟨rfl, hb⟩;refine mv5 hb hE B1 B0 B3 B4 fun hE B1 B0 B3 B4=>?_;have Ef := hb.size;refine ⟨_, rfl, pD (.tuple #[iv ((Bdd.needD n B5 : Nat) : Int), iv 0]) (iv ((Bdd.needD n B5 : Nat) : Int)) ?_⟩;refine pD (iv 0) (iv ((Bdd.needD n B5 : Nat) : Int)) ?_;refine pT (iv 0) ?_;refine pl_nil (qw_then ?_);refine cw_seq ?_;have B6 := Ext.refl Ci;refine cw_join (fun ws' wr => ws' = [(7, .bool true), (8, pw Bp 0), (9, .slice av n cv), (11, iv os), (12, iv oc), (13, .bool oi), (15, iv ((Bdd.needD n B5 : Nat) : Int))] ∧ Ci.heap.size ≤ wr.heap.size ∧ Ext w wr ∧ Ext Cg wr ∧ Ext C4 wr ∧ Ext Ch wr ∧ Ext D1 wr ∧ Ext Ci wr) (fun hJ => ?_) ?_
  ·
   refine cw_seq ?_
   cases oi
   ·
    obtain ⟨⟨rfl, rfl⟩, _⟩ := Ct rfl;refine zp (pD (iv 0) (.bool false) ?_);refine pD (.bool false) (iv 0) ?_;refine pD (.bool false) (.bool false) ?_;refine pD (.bool false) (.bool false) ?_;refine pT (.bool false) ?_;refine pK ?_;refine pK ?_;refine pK ?_;refine pK ?_;refine pD (.bool false) (.bool false) ?_;refine pD (.bool false) (.bool false) ?_;refine pD (.bool true) (.bool true) ?_;refine pD (iv 0) (.bool false) ?_;refine pD (.bool false) (iv 0) ?_;refine pD (.bool false) (.bool false) ?_;refine pD (.bool false) (.bool false) ?_;refine zn (cK [7,8,9,11,12,13,15,79] (fun L => ?_));refine zf ?_;refine cw_skip ?_;exact zl hJ [7, 8, 9, 11, 12, 13, 15] ⟨rfl, (Nat.le_refl _), hE, B1, B0, B3, B4, (Ext.refl _)⟩
   ·
    refine zp (pD (iv 0) (.bool false) ?_);refine pD (.bool false) (iv 0) ?_;refine pD (.bool false) (.bool false) ?_;refine pD (.bool false) (.bool true) ?_;refine pT (.bool true) ?_;refine pU (.agg #[iv n, iv (Bdd.start B5 : Int), .slice Bx ((Bdd.nodes B5).length) Bz]) (xl (ld26 (B2.c B0) (B7.c B0) (B8.c B0))) ?_;refine pT (iv os) ?_;refine pS (sc 11 #[.agg #[iv n, iv (Bdd.start B5 : Int), .slice Bx ((Bdd.nodes B5).length) Bz], iv os] ((Accepts_t (b := true) (V := os) _ _ Cc Bs ((C0.ext B1)) (Ext.refl _) hol (Cy rfl).1).mono ?_));rintro e F2 ⟨rfl, hb⟩;refine mv6 hb hE B1 B0 B3 B4 B6 fun hE B1 B0 B3 B4 B6=>?_;have Dh := hb.size;refine ⟨_, rfl, pD (.bool false) (.bool false) ?_⟩;refine pD (.bool false) (.bool false) ?_;refine pD (.bool true) (.bool false) ?_;refine pT (.bool false) ?_;refine pK ?_;refine pK ?_;refine pK ?_;refine pK ?_;refine pK ?_;refine pK ?_;refine pD (.bool false) (.bool false) ?_;refine zn (cK [7,8,9,11,12,13,15,79] (fun L => ?_));refine zf ?_;refine cw_skip ?_;exact zl hJ [7, 8, 9, 11, 12, 13, 15] ⟨rfl, Dh, hE, B1, B0, B3, B4, B6⟩
  ·
   clear hE B1 B0 B3 B4 B6;rintro L ws D2 ⟨rfl, Eg, hE, B1, B0, B3, B4, B6⟩;refine qw_then ?_;refine cw_seq ?_;have Bc := Ext.refl D2;refine zp (pT (iv 0) ?_);refine zn (zc (zc (zp (pT (iv 0) ?_))));refine zn (cw_block ?_);refine cw_loop [7, 8, 9, 11, 12, 13, 15, 17, 18] (fun ws' wr m => ∃ V wv : Nat, ws' = [(7, .bool true), (8, pw Bp 0), (9, .slice av n cv), (11, iv os), (12, iv oc), (13, .bool oi), (15, iv ((Bdd.needD n B5 : Nat) : Int)), (17, iv wv), (18, iv V)] ∧ m = 2 ^ n - V ∧ D2.heap.size ≤ wr.heap.size ∧ Ext w wr ∧ Ext Cg wr ∧ Ext C4 wr ∧ Ext Ch wr ∧ Ext D1 wr ∧ Ext Ci wr ∧ Ext D2 wr ∧ V ≤ 2 ^ n ∧ wv = Bdd.wo B5 n V) (ws0 := [(7, .bool true), (8, pw Bp 0), (9, .slice av n cv), (11, iv os), (12, iv oc), (13, .bool oi), (15, iv ((Bdd.needD n B5 : Nat) : Int)), (17, iv 0), (18, iv 0)]) (by kernel_rfl) _ ⟨0, 0, rfl, rfl, Nat.le_refl _, hE, B1, B0, B3, B4, B6, Bc, Nat.zero_le _, rfl⟩ ?_;clear hE B1 B0 B3 B4 B6 Bc;rintro Ez L ws D3 ⟨V, wv, rfl, rfl, C1, hE, B1, B0, B3, B4, B6, Bc, hV, hwo⟩
   by_cases hlt : V < 2 ^ n
   ·
    obtain ⟨y9, C8⟩ : ∃ q, Bdd.sem B5 (Bdd.bits V) = q := ⟨_, rfl⟩;have hwl := Bdd.wo_lt (t := B5) (n := n) V;refine cw_seq ?_;refine cw_seq ?_;have Bq := Ext.refl D3;refine zp (pD (iv V) (pw Bp 0) ?_);refine pU (iv n) (xl (ld3 (B2.c B0))) ?_;refine pU (iv ((2 ^ n : Nat) : Int)) (ex_bin rfl (by kernel_rfl) (by kernel_rfl) (bin_shl1 (by omega))) ?_;refine pU (.bool true) (ed (((V : Nat) : Int) < ((2 ^ n : Nat) : Int)) (by omega)) ?_;refine zn (zt ?_);refine cw_skip (zq (zc (cw_block ?_)));refine zc (cw_seq ?_)
    cases y9
    ·
     refine zp (pU (.agg #[iv n, iv (Bdd.start B5 : Int), .slice Bx ((Bdd.nodes B5).length) Bz]) (xl (ld26 (B2.c B0) (B7.c B0) (B8.c B0))) ?_);refine pT (iv V) ?_;refine pS (sc 11 #[.agg #[iv n, iv (Bdd.start B5 : Int), .slice Bx ((Bdd.nodes B5).length) Bz], iv V] ((Accepts_t (b := false) (V := V) _ _ Cc Bs ((C0.ext B1)) (Ext.refl _) hlt C8).mono ?_));rintro e E3 ⟨rfl, hb⟩;refine mv7 hb hE B1 B0 B3 B4 B6 Bc fun hE B1 B0 B3 B4 B6 Bc=>?_;replace Bq := Bq.trans hb;have Di := hb.size;refine ⟨_, rfl, pT (.bool true) ?_⟩;refine zn (cK [7,8,9,11,12,13,15,17,18,90] (fun L => ?_));refine zt ?_;refine cw_exit (qw_then_exit (qw_block_out ?_));refine qw_then ?_;have E6 := Ext.refl E3;refine zp (pT (iv V) ?_);refine pU (iv ((V + 1 : Nat) : Int)) (ew (by omega) (by omega)) ?_;refine pT (iv ((V + 1 : Nat) : Int)) ?_;refine pl_nil (qw_round [7, 8, 9, 11, 12, 13, 15, 17, 18] (ws' := [(7, .bool true), (8, pw Bp 0), (9, .slice av n cv), (11, iv os), (12, iv oc), (13, .bool oi), (15, iv ((Bdd.needD n B5 : Nat) : Int)), (17, iv wv), (18, iv ((V + 1 : Nat) : Int))]) (by kernel_rfl) _ ?_ ⟨(V + 1), wv, rfl, rfl, (Tq C1 Di), hE, B1, B0, B3, B4, B6, Bc, by omega, (by rw [hwo]; exact (if_neg (by rw [C8]; decide)).symm)⟩);omega
    ·
     refine zp (pU (.agg #[iv n, iv (Bdd.start B5 : Int), .slice Bx ((Bdd.nodes B5).length) Bz]) (xl (ld26 (B2.c B0) (B7.c B0) (B8.c B0))) ?_);refine pT (iv V) ?_;refine pS (sc 11 #[.agg #[iv n, iv (Bdd.start B5 : Int), .slice Bx ((Bdd.nodes B5).length) Bz], iv V] ((Accepts_t (b := true) (V := V) _ _ Cc Bs ((C0.ext B1)) (Ext.refl _) hlt C8).mono ?_));rintro e D4 ⟨rfl, hb⟩;refine mv7 hb hE B1 B0 B3 B4 B6 Bc fun hE B1 B0 B3 B4 B6 Bc=>?_;replace Bq := Bq.trans hb;have C7 := hb.size;refine ⟨_, rfl, pT (.bool false) ?_⟩;refine zn (cK [7,8,9,11,12,13,15,17,18,90] (fun L => ?_));refine zf ?_;refine cw_skip (qw_then ?_);refine cw_seq ?_;have Bw := Ext.refl D4;refine zp (pT (iv 0) ?_);refine zn (zc (zc (zp (pT (iv 0) ?_))));refine zn (cw_block ?_);refine cw_loop [7, 8, 9, 11, 12, 13, 15, 17, 18, 19, 20] (fun ws' wr m => ∃ i3 sm : Nat, ws' = [(7, .bool true), (8, pw Bp 0), (9, .slice av n cv), (11, iv os), (12, iv oc), (13, .bool oi), (15, iv ((Bdd.needD n B5 : Nat) : Int)), (17, iv wv), (18, iv V), (19, iv sm), (20, iv i3)] ∧ m = n - i3 ∧ D4.heap.size ≤ wr.heap.size ∧ Ext w wr ∧ Ext Cg wr ∧ Ext C4 wr ∧ Ext Ch wr ∧ Ext D1 wr ∧ Ext Ci wr ∧ Ext D2 wr ∧ Ext D3 wr ∧ Ext D4 wr ∧ i3 ≤ n ∧ sm = Bdd.sumB (Bdd.cf (centI q2 n)) (Bdd.bits V) i3) (ws0 := [(7, .bool true), (8, pw Bp 0), (9, .slice av n cv), (11, iv os), (12, iv oc), (13, .bool oi), (15, iv ((Bdd.needD n B5 : Nat) : Int)), (17, iv wv), (18, iv V), (19, iv 0), (20, iv 0)]) (by kernel_rfl) _ ⟨0, 0, rfl, rfl, Nat.le_refl _, hE, B1, B0, B3, B4, B6, Bc, Bq, Bw, Nat.zero_le _, rfl⟩ ?_;clear hE B1 B0 B3 B4 B6 Bc Bq Bw;rintro F0 L ws D5 ⟨i3, sm, rfl, rfl, C2, hE, B1, B0, B3, B4, B6, Bc, Bq, Bw, Et, hsm⟩
     by_cases hlt : i3 < n
     ·
      obtain ⟨Dc, Dd⟩ := centI_cf (q := q2) (n := n) (i := i3) (by omega);have hVd : V / 2 ^ i3 ≤ V := Nat.div_le_self _ _;have hVm : V / 2 ^ i3 % 2 < 2 := Nat.mod_lt _ (by decide);have Ea := Bdd.b1_is V i3;have hsl := Bdd.sumB_le (c := Bdd.cf (centI q2 n)) (s := Bdd.bits V) (n := i3) (fun i hi => hcf i (by omega));have hmu : Bdd.cf (centI q2 n) i3 * (V / 2 ^ i3 % 2) ≤ 50 * 1 := Nat.mul_le_mul Dd (by omega);obtain ⟨Cj, D0, D9, Db, Eh⟩ := (hIL.ext B3).parts hlIL;obtain rfl := D9 (by omega);have Dr := Db (by omega);have Cb := Eh i3 (by omega);rw [Dc] at Cb;have Ca := Ext.refl D5;refine zc (zc (zp (pD (iv i3) (pw Bp 0) ?_)));refine pU (iv n) (xl (ld3 (B2.c B0))) ?_;refine pU (.bool true) (ed (((i3 : Nat) : Int) < ((n : Nat) : Int)) (by omega)) ?_;refine zn (cK [7,8,9,11,12,13,15,17,18,19,20,94] (fun L => ?_));refine zt ?_;refine cw_skip (zq (zc (cw_block ?_)));refine dE Tz83_0 (fun w' => w'.cell? ⟨Cj, D0 + i3, none⟩ = some (iv (((Bdd.cf (centI q2 n) i3 : Nat) : Int) : Int))) (Cb) (fun ops Q Dp hb hL hR hK => ?_);refine mv9 hb hE B1 B0 B3 B4 B6 Bc Bq Bw fun hE B1 B0 B3 B4 B6 Bc Bq Bw=>?_;replace Ca := Ca.trans hb;have Dk := hb.size;have hS := Ca.cell Cb;refine wW 0 (iv sm) 1 (sv Cj D0 n cv) hR hS ?_;refine wV 2 (iv i3) hR hS ?_;refine wL 3 (pw Cj (D0 + i3)) hR (fun w _ => ex_index (p := sv Cj D0 n cv) (i := iv i3) rfl (by kernel_rfl) (by kernel_rfl) (ix35 (k := i3) (by omega))) hS ?_;refine wM 4 (iv (((Bdd.cf (centI q2 n) i3 : Nat) : Int) : Int)) hR (fun w hS => ld3 (hS)) hS ?_;refine wW 5 (iv V) 6 (iv i3) hR hS ?_;refine wL 7 (iv ((V / 2 ^ i3 : Nat) : Int)) hR (fun w _ => ex_bin rfl (by kernel_rfl) (by kernel_rfl) (bin_shr (by omega))) hS ?_;refine wL 8 (iv ((((V / 2 ^ i3) % 2 : Nat) : Int) : Int)) hR (fun w _ => ex_bin (a := ((V / 2 ^ i3 : Nat) : Int)) (b := ((2 : Nat) : Int)) rfl (by kernel_rfl) (by kernel_rfl) (bin_rem (by omega))) hS ?_;refine wL 9 (iv ((((Bdd.cf (centI q2 n) i3) * ((V / 2 ^ i3) % 2) : Nat) : Int) : Int)) hR (fun w _ => ev_wrap (by kernel_rfl) (by omega) (by omega)) hS ?_;refine wL 10 (iv (((sm + ((Bdd.cf (centI q2 n) i3) * ((V / 2 ^ i3) % 2)) : Nat) : Int) : Int)) hR (fun w _ => ev_wrap (by kernel_rfl) (by omega) (by omega)) hS ?_;refine wV 11 (iv (((sm + ((Bdd.cf (centI q2 n) i3) * ((V / 2 ^ i3) % 2)) : Nat) : Int) : Int)) hR hS ?_;refine we hL hR hK ?_;refine qw_block (qw_then ?_);refine cK [7,8,9,11,12,13,15,17,18,19,20] (fun L => ?_);have E7 := Ext.refl Dp;refine zp (pT (iv i3) ?_);refine pU (iv ((i3 + 1 : Nat) : Int)) (ew (by omega) (by omega)) ?_;refine pT (iv ((i3 + 1 : Nat) : Int)) ?_;refine pl_nil (qw_round [7, 8, 9, 11, 12, 13, 15, 17, 18, 19, 20] (ws' := [(7, .bool true), (8, pw Bp 0), (9, sv Cj D0 n cv), (11, iv os), (12, iv oc), (13, .bool oi), (15, iv ((Bdd.needD n B5 : Nat) : Int)), (17, iv wv), (18, iv V), (19, iv (((sm + ((Bdd.cf (centI q2 n) i3) * ((V / 2 ^ i3) % 2)) : Nat) : Int) : Int)), (20, iv ((i3 + 1 : Nat) : Int))]) (by kernel_rfl) _ ?_ ⟨(i3 + 1), _, rfl, rfl, (Tq C2 Dk), hE, B1, B0, B3, B4, B6, Bc, Bq, Bw, by omega, (by rw [hsm, Ea]; rfl)⟩);omega
     ·
      have De : i3 = n := by omega
      rw [De] at hsm;refine cw_seq ?_;refine cw_seq ?_;have E8 := Ext.refl D5;refine zp (pD (iv i3) (pw Bp 0) ?_);refine pU (iv n) (xl (ld3 (B2.c B0))) ?_;refine pU (.bool false) (en (((i3 : Nat) : Int) < ((n : Nat) : Int)) (by omega)) ?_;refine zn (cK [7,8,9,11,12,13,15,17,18,19,20,94] (fun L => ?_));refine zf ?_;refine cw_exit (qw_then_exit (qw_then_exit (qw_block_out (zq (zc (zp (pD (iv wv) (pw Bp 0) ?_)))))));refine pU (iv n) (xl (ld3 (B2.c B0))) ?_;refine pU (iv ((2 ^ n : Nat) : Int)) (ex_bin rfl (by kernel_rfl) (by kernel_rfl) (bin_shl1 (by omega))) ?_;refine pU (iv (((2 ^ n : Nat) : Int) - 1 : Int)) (ew (by omega) (by omega)) ?_;refine pT (iv V) ?_;refine pU (iv ((2 ^ n - 1 - V : Nat) : Int)) (ev_int (ew (by omega) (by omega)) (show ((2 ^ n : Nat) : Int) - 1 - ((V : Nat) : Int) = _ by omega)) ?_;refine pU (iv (((wv ||| (2 ^ n - 1 - V) : Nat) : Int) : Int)) (ev_int (show _ = Result.ok (Next.value (Value.int .i64 (bits .or .i64 ((wv : Nat) : Int) ((2 ^ n - 1 - V : Nat) : Int)))) _ from by kernel_rfl) (or_i64 _ _ (by omega) (by omega))) ?_;refine pT (iv (((wv ||| (2 ^ n - 1 - V) : Nat) : Int) : Int)) ?_;refine zn (cK [7,8,9,11,12,13,15,17,18,19] (fun L => ?_));refine cw_seq ?_
      have hoi : oi = true := by
       cases q : oi with
       | true => rfl
       | false => have := (Ct q).2 (Bdd.bits V);rw [C8] at this;cases this
      have hle := Df hoi V C8;rw [← hsm] at hle;have hVo : V = os → sm = oc := fun q => by rw [hsm, q];exact (Cy hoi).2.symm
      subst hoi;refine zp (pD (.bool true) (.bool false) ?_);refine pD (.bool false) (iv sm) ?_;refine pT (iv oc) ?_
      by_cases Ck : ((sm : Nat) : Int) < ((oc : Nat) : Int)
      ·
       refine pU (.bool true) (ed (((sm : Nat) : Int) < ((oc : Nat) : Int)) (Ck)) ?_;refine pD (.bool true) (.bool true) ?_;refine pK ?_;refine pK ?_;refine pK ?_;refine pK ?_;refine pK ?_;refine pK ?_;refine pK ?_;refine pK ?_;refine pD (.bool true) (.bool true) ?_;refine pK ?_;refine pK ?_;refine pK ?_;refine pK ?_;refine pK ?_;refine pK ?_;refine pK ?_;refine pK ?_;refine pT (.bool true) ?_;refine zn (cK [7,8,9,11,12,13,15,17,18,142] (fun L => ?_));refine zt ?_;refine zc (zp (pT (.bool false) ?_));refine zn (cw_ret (qw_block_ret (qw_then_ret (qw_then_ret (qw_block_ret (qw_then_ret (qw_ret [.bool false] rfl ⟨(by kernel_rfl), trivial⟩ ?_)))))))
       exfalso;omega
      ·
       refine pU (.bool false) (en (((sm : Nat) : Int) < ((oc : Nat) : Int)) (Ck)) ?_;refine pD (.bool false) (.bool false) ?_;refine pD (iv sm) (iv oc) ?_
       by_cases Cm : ((sm : Nat) : Int) = ((oc : Nat) : Int)
       ·
        refine pU (.bool true) (eE ((sm : Nat) : Int) ((oc : Nat) : Int) (Cm)) ?_;refine pD (.bool true) (iv V) ?_;refine pT (iv os) ?_
        by_cases Cn : ((V : Nat) : Int) < ((os : Nat) : Int)
        ·
         refine pU (.bool true) (ed (((V : Nat) : Int) < ((os : Nat) : Int)) (Cn)) ?_;refine pD (.bool true) (.bool true) ?_;refine pT (.bool true) ?_;refine pK ?_;refine pK ?_;refine pK ?_;refine pK ?_;refine pK ?_;refine pK ?_;refine pK ?_;refine pK ?_;refine pT (.bool true) ?_;refine zn (cK [7,8,9,11,12,13,15,17,18,142] (fun L => ?_));refine zt ?_;refine zc (zp (pT (.bool false) ?_));refine zn (cw_ret (qw_block_ret (qw_then_ret (qw_then_ret (qw_block_ret (qw_then_ret (qw_ret [.bool false] rfl ⟨(by kernel_rfl), trivial⟩ ?_)))))))
         exfalso;omega
        ·
         refine pU (.bool false) (en (((V : Nat) : Int) < ((os : Nat) : Int)) (Cn)) ?_;refine pD (.bool false) (.bool false) ?_;refine pD (.bool false) (iv V) ?_;refine pT (iv os) ?_
         by_cases Co : ((V : Nat) : Int) = ((os : Nat) : Int)
         ·
          refine pU (.bool true) (eE ((V : Nat) : Int) ((os : Nat) : Int) (Co)) ?_;refine pD (.bool true) (iv sm) ?_;refine pT (iv oc) ?_
          by_cases Cp : ((sm : Nat) : Int) = ((oc : Nat) : Int)
          ·
           refine pU (.bool false) (ev_nne (show _ = Result.ok (Next.value (Value.bool (((sm : Nat) : Int) != ((oc : Nat) : Int)))) _ from by kernel_rfl) (Cp)) ?_;refine pD (.bool false) (.bool false) ?_;refine zn (cK [7,8,9,11,12,13,15,17,18,142] (fun L => ?_));refine zf ?_;refine cw_skip (qw_block (zq (zp (pT (iv V) ?_))));refine pU (iv ((V + 1 : Nat) : Int)) (ew (by omega) (by omega)) ?_;refine pT (iv ((V + 1 : Nat) : Int)) ?_;refine pl_nil (qw_round [7, 8, 9, 11, 12, 13, 15, 17, 18] (ws' := [(7, .bool true), (8, pw Bp 0), (9, .slice av n cv), (11, iv os), (12, iv oc), (13, .bool true), (15, iv ((Bdd.needD n B5 : Nat) : Int)), (17, iv (((wv ||| (2 ^ n - 1 - V) : Nat) : Int) : Int)), (18, iv ((V + 1 : Nat) : Int))]) (by kernel_rfl) _ ?_ ⟨(V + 1), _, rfl, rfl, (Tq C1 (Tq C7 C2)), hE, B1, B0, B3, B4, B6, Bc, by omega, (by rw [hwo]; exact (if_pos C8).symm)⟩);omega
          ·
           refine pU (.bool true) (eM ((sm : Nat) : Int) ((oc : Nat) : Int) (Cp)) ?_;refine pD (.bool true) (.bool true) ?_;refine zn (cK [7,8,9,11,12,13,15,17,18,142] (fun L => ?_));refine zt ?_;refine zc (zp (pT (.bool false) ?_));refine zn (cw_ret (qw_block_ret (qw_then_ret (qw_then_ret (qw_block_ret (qw_then_ret (qw_ret [.bool false] rfl ⟨(by kernel_rfl), trivial⟩ ?_)))))))
           exfalso;omega
         ·
          refine pU (.bool false) (eN ((V : Nat) : Int) ((os : Nat) : Int) (Co)) ?_;refine pT (.bool false) ?_;refine pK ?_;refine pK ?_;refine pK ?_;refine pD (.bool false) (.bool false) ?_;refine zn (cK [7,8,9,11,12,13,15,17,18,142] (fun L => ?_));refine zf ?_;refine cw_skip (qw_block (zq (zp (pT (iv V) ?_))));refine pU (iv ((V + 1 : Nat) : Int)) (ew (by omega) (by omega)) ?_;refine pT (iv ((V + 1 : Nat) : Int)) ?_;refine pl_nil (qw_round [7, 8, 9, 11, 12, 13, 15, 17, 18] (ws' := [(7, .bool true), (8, pw Bp 0), (9, .slice av n cv), (11, iv os), (12, iv oc), (13, .bool true), (15, iv ((Bdd.needD n B5 : Nat) : Int)), (17, iv (((wv ||| (2 ^ n - 1 - V) : Nat) : Int) : Int)), (18, iv ((V + 1 : Nat) : Int))]) (by kernel_rfl) _ ?_ ⟨(V + 1), _, rfl, rfl, (Tq C1 (Tq C7 C2)), hE, B1, B0, B3, B4, B6, Bc, by omega, (by rw [hwo]; exact (if_pos C8).symm)⟩);omega
       ·
        refine pU (.bool false) (eN ((sm : Nat) : Int) ((oc : Nat) : Int) (Cm)) ?_;refine pT (.bool false) ?_;refine pK ?_;refine pK ?_;refine pK ?_;refine pD (.bool false) (.bool false) ?_;refine pD (.bool false) (iv V) ?_;refine pT (iv os) ?_
        by_cases Cq : ((V : Nat) : Int) = ((os : Nat) : Int)
        ·
         refine pU (.bool true) (eE ((V : Nat) : Int) ((os : Nat) : Int) (Cq)) ?_;refine pD (.bool true) (iv sm) ?_;refine pT (iv oc) ?_
         by_cases Cr : ((sm : Nat) : Int) = ((oc : Nat) : Int)
         ·
          refine pU (.bool false) (ev_nne (show _ = Result.ok (Next.value (Value.bool (((sm : Nat) : Int) != ((oc : Nat) : Int)))) _ from by kernel_rfl) (Cr)) ?_;refine pD (.bool false) (.bool false) ?_;refine zn (cK [7,8,9,11,12,13,15,17,18,142] (fun L => ?_));refine zf ?_;refine cw_skip (qw_block (zq (zp (pT (iv V) ?_))));refine pU (iv ((V + 1 : Nat) : Int)) (ew (by omega) (by omega)) ?_;refine pT (iv ((V + 1 : Nat) : Int)) ?_;refine pl_nil (qw_round [7, 8, 9, 11, 12, 13, 15, 17, 18] (ws' := [(7, .bool true), (8, pw Bp 0), (9, .slice av n cv), (11, iv os), (12, iv oc), (13, .bool true), (15, iv ((Bdd.needD n B5 : Nat) : Int)), (17, iv (((wv ||| (2 ^ n - 1 - V) : Nat) : Int) : Int)), (18, iv ((V + 1 : Nat) : Int))]) (by kernel_rfl) _ ?_ ⟨(V + 1), _, rfl, rfl, (Tq C1 (Tq C7 C2)), hE, B1, B0, B3, B4, B6, Bc, by omega, (by rw [hwo]; exact (if_pos C8).symm)⟩);omega
         ·
          refine pU (.bool true) (eM ((sm : Nat) : Int) ((oc : Nat) : Int) (Cr)) ?_;refine pD (.bool true) (.bool true) ?_;refine zn (cK [7,8,9,11,12,13,15,17,18,142] (fun L => ?_));refine zt ?_;refine zc (zp (pT (.bool false) ?_));refine zn (cw_ret (qw_block_ret (qw_then_ret (qw_then_ret (qw_block_ret (qw_then_ret (qw_ret [.bool false] rfl ⟨(by kernel_rfl), trivial⟩ ?_)))))))
          exfalso;omega
        ·
         refine pU (.bool false) (eN ((V : Nat) : Int) ((os : Nat) : Int) (Cq)) ?_;refine pT (.bool false) ?_;refine pK ?_;refine pK ?_;refine pK ?_;refine pD (.bool false) (.bool false) ?_;refine zn (cK [7,8,9,11,12,13,15,17,18,142] (fun L => ?_));refine zf ?_;refine cw_skip (qw_block (zq (zp (pT (iv V) ?_))));refine pU (iv ((V + 1 : Nat) : Int)) (ew (by omega) (by omega)) ?_;refine pT (iv ((V + 1 : Nat) : Int)) ?_;refine pl_nil (qw_round [7, 8, 9, 11, 12, 13, 15, 17, 18] (ws' := [(7, .bool true), (8, pw Bp 0), (9, .slice av n cv), (11, iv os), (12, iv oc), (13, .bool true), (15, iv ((Bdd.needD n B5 : Nat) : Int)), (17, iv (((wv ||| (2 ^ n - 1 - V) : Nat) : Int) : Int)), (18, iv ((V + 1 : Nat) : Int))]) (by kernel_rfl) _ ?_ ⟨(V + 1), _, rfl, rfl, (Tq C1 (Tq C7 C2)), hE, B1, B0, B3, B4, B6, Bc, by omega, (by rw [hwo]; exact (if_pos C8).symm)⟩);omega
   ·
    have Dq : V = 2 ^ n := by omega
    have hnd := Bdd.need_is Bs;rw [← Dq, ← hwo, Dq] at hnd;have Dl := Bdd.wo_lt (t := B5) (n := n) V;rw [← hwo] at Dl;refine cw_seq ?_;refine cw_seq ?_;have E9 := Ext.refl D3;refine zp (pD (iv V) (pw Bp 0) ?_);refine pU (iv n) (xl (ld3 (B2.c B0))) ?_;refine pU (iv ((2 ^ n : Nat) : Int)) (ex_bin rfl (by kernel_rfl) (by kernel_rfl) (bin_shl1 (by omega))) ?_;refine pU (.bool false) (en (((V : Nat) : Int) < ((2 ^ n : Nat) : Int)) (by omega)) ?_;refine zn (zf ?_);refine cw_exit (qw_then_exit (qw_then_exit (qw_block_out (zq (zc (zp (pD (.bool true) (.bool true) ?_)))))));refine pD (iv ((Bdd.needD n B5 : Nat) : Int)) (pw Bp 0) ?_;refine pU (iv n) (xl (ld3 (B2.c B0))) ?_;refine pU (iv ((2 ^ n : Nat) : Int)) (ex_bin rfl (by kernel_rfl) (by kernel_rfl) (bin_shl1 (by omega))) ?_;refine pU (iv (((2 ^ n : Nat) : Int) - 1 : Int)) (ew (by omega) (by omega)) ?_;refine pT (iv wv) ?_;refine pU (iv (((2 ^ n : Nat) : Int) - 1 - ((wv : Nat) : Int) : Int)) (ew (by omega) (by omega)) ?_;refine pU (.bool true) (eE ((Bdd.needD n B5 : Nat) : Int) (((2 ^ n : Nat) : Int) - 1 - ((wv : Nat) : Int) : Int) (by omega)) ?_;refine pD (.bool true) (.bool true) ?_;refine zn (cK [6] (fun L => ?_));refine cw_ret (qw_ret [.bool true] rfl ⟨(by kernel_rfl), trivial⟩ ?_);exact ⟨rfl, hE⟩
end Go.Proofs.YtpfajhcdfgpgmaaDoor

namespace Go.Proofs.YtpfajhcdfgpgmaaDoor
open Go.ChangeShapes Go.WideShapes Go.ChangeAt Go.RowKit
set_option maxRecDepth 100000 in
theorem MachineCheapest_lifted (os : Os) (started : os.Started) (H : Type) (enc : TypeId × Value → H) :
  ReturnsInHanded {} Tryd.checked os 4 .any (fun w args => (Rows.machineCheapestSpec.pre enc Tryd.prog Tryd.f4 [] false w args ∧ laidMetH Tryd.prog laidTabs w) ∧ sizedMet enc Tryd.prog Tryd.f4 (OpenSpec.ofChange Rows.machineCheapestSpec) false w args)
   (Rows.machineCheapestSpec.post enc Tryd.prog Tryd.f4 false true false false) := by
 refine returnsInHanded_of_change_and (C := Tryd.checked) (X := fun w _ => laidMetH Tryd.prog laidTabs w) (fun _ _ _ hh h => h.of_heap hh) own started (by kernel_rfl) Tryd.func4
  (ChangeSpec.witness_shaped (enc := enc) (C := Tryd.checked) (os := os) (X := fun w _ => laidMetH Tryd.prog laidTabs w) false (World.doorLaid Tryd.prog 19 os) #[.int .i64 0, .agg #[.int .i64 0, .int .i64 0, .int .i64 0], .agg #[.int .i64 0, .int .i64 0, .int .i64 0, .int .i64 0, .int .i64 0, .int .i64 0, .int .i64 0, .int .i64 0]] 8 rfl (World.shaped_of_RefB (by kernel_rfl) (by kernel_rfl)) (by kernel_rfl) (by kernel_rfl) (by kernel_rfl) (door_met os _)) ?_
 intro W base args ds gs before hval0 hW _ hsz hL _
 have hval : ∀ (j : Nat) t v, Tryd.f4.params[j]? = some t → args[j]? = some v → Value.okWide Tryd.prog W .any base t v := hval0
 have hW' := hW
 obtain ⟨p, q, hA0, hV, rfl, hfz, hnd⟩ := hW
 have hA : DataW.TrodAll enc Tryd.prog W 0 (fun _ => true) true Tryd.f4.params.toList args.toList ds p := hA0
 rw [Tryd.params4] at hA hval
 obtain ⟨v0, vs0, d0, ds0, p0, q0, hargs, rfl, rfl, h0, r0⟩ := trodAll_cons hA
 obtain ⟨v1, vs1, d1, ds1, p1, q1, rfl, rfl, rfl, h1, r1⟩ := trodAll_cons r0
 obtain ⟨v2, vs2, d2, ds2, p2, q2, rfl, rfl, rfl, h2, r2⟩ := trodAll_cons r1
 obtain ⟨rfl, rfl, rfl⟩ := trodAll_nil r2
 obtain rfl : args = #[v0, v1, v2] := by cases args; simp_all
 obtain ⟨rfl, rfl⟩ := trodVars_none hV
 obtain ⟨a0, rfl, rfl, rfl, w0⟩ := open_int Tryd.underlying3 (hval 0 3 v0 rfl rfl) h0
 have k1 := h1
 have lt1 : ∀ x ∈ p1, x.block < W.heap.size := by obtain ⟨m, hm⟩ := k1; exact DataW.trod_lt m _ _ _ hm
 have op1 := open_three (hval 1 _ v1 rfl rfl) h1
 have k2 := h2
 have lt2 : ∀ x ∈ p2, x.block < W.heap.size := by obtain ⟨m, hm⟩ := k2; exact DataW.trod_lt m _ _ _ hm
 have op2 := open_eight (hval 2 _ v2 rfl rfl) h2
 clear hA0 hval0
 refine (MachineCheapest_walk W a0 (isI_of_wf w0) v1 op1 v2 op2 (tab_of_laid hL)).mono fun e W' ⟨he, hE⟩ => ?_
 subst he
 have bel : Below W.heap.size W W' := hE
 exact ⟨_, rfl, _, _, _, [], _, [], hW', trodAll_mk1 (shut_bool Tryd.underlying4 _), (trodAll_cons_mk (shut_int Tryd.underlying3 w0) (trodAll_cons_mk (Below.trod laidOut (by kernel_rfl) (of_decide_eq_true (by kernel_rfl)) k1 bel lt1) (trodAll_cons_mk (Below.trod laidOut (by kernel_rfl) (of_decide_eq_true (by kernel_rfl)) k2 bel lt2) trodAll_mk0))), rfl, bel.frame _, fun h => by cases h⟩
theorem MachineCheapest_over : Rows.MachineCheapestSaid :=
 OpenClaim.holds_of_wide 4 Tryd.f4 rfl rfl rfl rfl rfl rfl rfl ⟨rfl, rfl, rfl, rfl, rfl⟩ rfl rfl rfl rfl rfl (by kernel_rfl) Tryd.func4 (by kernel_rfl)
  (of_decide_eq_true (by kernel_rfl)) (by unfold Func.isWrapper; first | (rw [if_pos (by decide +kernel)]; kernel_rfl) | (rw [if_neg (by decide +kernel)]; exact ⟨rfl, rfl⟩))
  (fun os started H enc _ => MachineCheapest_lifted os started H enc)
theorem MachineCheapest_holds : Rows.MachineCheapestCardSaid :=
 Claim7.holds_tied_plain_at .later [] [.data, .data] true (true, "77088cae796989b9b7d7ed0bfc54bf2c9026f538ed3b54f1166d44fe7e944d1a") false
  MachineCheapest_over (fun _ h => by cases h) (by kernel_rfl) (fun _ h => by cases h) machineCheapest_row_tie rfl ⟨rfl, rfl⟩ (by kernel_rfl) rfl
  (fun f fn hf hfn => by
   obtain rfl : f = 4 := Option.some.inj ((show Tryd.prog.funcNamed "nadir/nadirlaw14.MachineCheapest" = some 4 by kernel_rfl).symm.trans hf) |>.symm
   obtain rfl : fn = Tryd.f4 := (Option.some.inj (Tryd.func4.symm.trans hfn)).symm
   exact ⟨by kernel_rfl, fun j t ht => by
    rw [Tryd.params4] at ht
    have hm : t ∈ [3, 22, 34] := by simpa using Array.mem_of_getElem? ht
    have hall : ([3, 22, 34].all fun u => !Tryd.prog.wantsStandIn u) = true := by kernel_rfl
    exact (show Tryd.prog.wantsStandIn t = false by simpa using List.all_eq_true.1 hall t hm)⟩)
  (by kernel_rfl)
#print axioms MachineCheapest_holds
end Go.Proofs.YtpfajhcdfgpgmaaDoor
