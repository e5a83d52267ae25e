/- Part 3 of what the proof of MachineMatchesReference stands on. -/
import Derived.Test.YtpfajhcdfgpgmaaGreatDoorV2MachineMatchesReference
import Derived.Laws.MakeOwn
namespace Go.Proofs.YtpfajhcdfgpgmaaGreatDoor
open Bdd (ix ap noD yesD)
variable {st : Bool}
set_option maxRecDepth 1000000
set_option maxHeartbeats 4000000
set_option synthInstance.maxHeartbeats 0
set_option synthInstance.maxSize 9999
open Go.RowKit
def Bdd.stI (st : Bool) : Int := if st then -2 else -1
theorem Bdd.weak_eq (st : Bool) : -3 - Bdd.stI st = Bdd.stI (!st) := by cases st <;> rfl
theorem Bdd.ev_lt {n k : Nat} {T : List Bdd.D} : ∀ {a : Bdd.D}, Bdd.OK k n a → ¬ ix T a = Bdd.stI st → ¬ ix T a = Bdd.stI (!st) → Bdd.ev n a < n
 | .leaf b, _, h1, h2 => by cases b <;> cases st <;> first | exact absurd rfl h1 | exact absurd rfl h2
 | .nd _ _ _, ⟨_, h, _⟩, _, _ => h
structure JC (w : World) (B : Nat) (st : Bool) (S W Mb Bb J M : Nat) : Prop where
 cs : BoxAt w S 0 (.int .i64 (Bdd.stI st))
 cw : BoxAt w W 0 (.int .i64 (Bdd.stI (!st)))
 cm : BoxAt w Mb 0 (.map (some M))
 cb : BoxAt w Bb 0 (.pointer (some ⟨B, 0, none⟩))
 cj : BoxAt w J 0 (.func (.func 114) #[] #[.pointer (some ⟨S, 0, none⟩), .pointer (some ⟨W, 0, none⟩), .pointer (some ⟨Mb, 0, none⟩), .pointer (some ⟨Bb, 0, none⟩), .pointer (some ⟨J, 0, none⟩)])
structure JX (B K : Nat) (v : Value) (S W Mb Bb J M : Nat) : Prop where
 s : ¬ BX B K v S
 w : ¬ BX B K v W
 mb : ¬ BX B K v Mb
 b : ¬ BX B K v Bb
 j : ¬ BX B K v J
 m : ¬ BX B K v M
structure JR (st : Bool) (n0 B K M n : Nat) (v : Value) (w : World) (T : List Bdd.D) (a b : Bdd.D) (e : Ending) (w' : World) (v' : Value) (T' : List Bdd.D) (L' : List ((Int × Int) × Int)) : Prop where
 er : e = .returned (.int .i64 (ix T' (ap st n a b)))
 bs : BS (fun k => k = M) B K v w v' w'
 bd : Bld w' n0 B K n v' T'
 mp : MapS prV intV w' M L'
 sd : Bdd.Sound st n T' (fun x => getM x L')
 rm : Bdd.Mem T' (ap st n a b)
 pr : ∃ S, T' = T ++ S
 sb : ∀ x ∈ T', x ∈ T ∨ x ∈ Bdd.subs (ap st n a b)
theorem box_map {κ β : Type} {kv : κ → Value} {vv : β → Value} {w : World} {b o : Nat} {u : Value} {l : List (κ × β)} (h : BoxAt w b o u) (hm : MapS kv vv w b l) : False := by
 obtain ⟨es, c, q⟩ := hm
 obtain ⟨o, ho, hc⟩ := cells_of_cell h.1
 rw [q.at_] at ho
 cases ho
 cases hc
theorem join_c : ∀ (mm k : Nat) {n0 B K n S W Mb Bb J M : Nat} {v : Value} {T : List Bdd.D} {Lm : List ((Int × Int) × Int)} {a b : Bdd.D} {w : World} (_hB : Bld w n0 B K n v T) (_hJ : JC w B st S W Mb Bb J M) (_hX : JX B K v S W Mb Bb J M) (_hM : MapS prV intV w M Lm) (_hd : Bdd.Sound st n T (fun x => getM x Lm)) (_ma : Bdd.Mem T a) (_mb : Bdd.Mem T b) (_ha : Bdd.OK k n a) (_hb : Bdd.OK k n b) (_hk : k ≤ n) (_hm : n + 1 - k ≤ mm) (_hT : T.length + 2 ^ (n - k) ≤ 1000000000000) (_hn : n ≤ 16), Calls Tryz.prog 114 #[iv (ix T a), iv (ix T b), pw S 0, pw W 0, pw Mb 0, pw Bb 0, pw J 0] w fun e w' => ∃ v' T' L', JR st n0 B K M n v w T a b e w' v' T' L' := by
  intro mm
  induction mm with
  | zero => intro k n0 B K n S W Mb Bb J M v T Lm a b w hB hJ hX hM hd ma mb ha hb hk hm;omega
  | succ mm ih =>
    intro k n0 B K n S W Mb Bb J M v T Lm a b w hB hJ hX hM hd ma mb ha hb hk hm hT hn;have hlS := (hJ.cs).lt;have hlW := (hJ.cw).lt;have hlMb := (hJ.cm).lt;have hlBb := (hJ.cb).lt;have hlJ := (hJ.cj).lt;have hlM := hM.lt;have hlB := hB.b0.lt;have hlK := hB.lt K (.inr (.inl rfl));have E7 : BS ((fun k => k = M)) B K v w v w := BS.refl _ _ _ _ _;have Cq := hB.lt;have Me := hB.ge;have hS := hJ.cs;have nSM : S ≠ M := fun e => box_map (e ▸ hS) hM
    have hW := hJ.cw;have nWM : W ≠ M := fun e => box_map (e ▸ hW) hM
    have hMb := hJ.cm;have nMbM : Mb ≠ M := fun e => box_map (e ▸ hMb) hM
    have hBb := hJ.cb;have nBbM : Bb ≠ M := fun e => box_map (e ▸ hBb) hM
    have hJ := hJ.cj;have nJM : J ≠ M := fun e => box_map (e ▸ hJ) hM
    have hTl : T.length ≤ 1000000000000 := Tq (Nat.le_add_right _ _) hT;have hra := Bdd.ix_rng ma;have hrb := Bdd.ix_rng mb;have hoa := ha.mono (Nat.zero_le k);have hob := hb.mono (Nat.zero_le k);have K3 := hB;refine calls_cw 103 [(6, pw J 0), (5, pw Bb 0), (4, pw Mb 0), (3, pw W 0), (2, pw S 0), (1, iv (ix T b)), (0, iv (ix T a))] Tryz.func114 rfl Tryz.ntmps114 (by kernel_rfl) (by kernel_rfl) (fun L => ?_);have hE := er_ w;refine zc (zp (pT (iv 0) ?_));refine zn (zc (cb_ ?_));refine zc (zp (pT (iv (ix T a)) ?_));refine pU (iv (Bdd.stI st)) (xl (ld3 (hS.1))) ?_
    by_cases J4 : (ix T a : Int) = (Bdd.stI st : Int)
    ·
      refine pU (.bool true) (eE (ix T a : Int) (Bdd.stI st : Int) (J4)) ?_;refine pT (.bool true) ?_;refine pK ?_;refine pK ?_;refine pK ?_;refine pD (.bool true) (.bool true) ?_;refine zn (cK [0,1,2,3,4,5,6,17] (fun L => ?_));refine zt ?_;refine zc (zp (pU (iv (Bdd.stI st)) (xl (ld3 (hS.1))) ?_));refine pT (iv (Bdd.stI st)) ?_;refine zn (ct_ (qb (qt (zR (iv (Bdd.stI st)) ?_))));obtain rfl := Bdd.ix_inj (u := .leaf st) ma trivial J4;refine ⟨v, T, Lm, ⟨?_, E7, hB, hM, hd, ?_, ⟨[], (List.append_nil T).symm⟩, fun x h => .inl h⟩⟩
      · rw [Bdd.ap_strong hob];rfl
      · rw [Bdd.ap_strong hob];exact trivial
    ·
      refine pU (.bool false) (eN (ix T a : Int) (Bdd.stI st : Int) (J4)) ?_;refine pD (.bool false) (iv (ix T b)) ?_;refine pU (iv (Bdd.stI st)) (xl (ld3 (hS.1))) ?_
      by_cases J5 : (ix T b : Int) = (Bdd.stI st : Int)
      ·
        refine pU (.bool true) (eE (ix T b : Int) (Bdd.stI st : Int) (J5)) ?_;refine pD (.bool true) (.bool true) ?_;refine zn (cK [0,1,2,3,4,5,6,17] (fun L => ?_));refine zt ?_;refine zc (zp (pU (iv (Bdd.stI st)) (xl (ld3 (hS.1))) ?_));refine pT (iv (Bdd.stI st)) ?_;refine zn (ct_ (qb (qt (zR (iv (Bdd.stI st)) ?_))));obtain rfl := Bdd.ix_inj (u := .leaf st) mb trivial J5;refine ⟨v, T, Lm, ⟨?_, E7, hB, hM, hd, ?_, ⟨[], (List.append_nil T).symm⟩, fun x h => .inl h⟩⟩
        · rw [Bdd.ap_strong2 hoa];rfl
        · rw [Bdd.ap_strong2 hoa];exact trivial
      ·
        refine pU (.bool false) (eN (ix T b : Int) (Bdd.stI st : Int) (J5)) ?_;refine pD (.bool false) (.bool false) ?_;refine zn (cK [0,1,2,3,4,5,6,17] (fun L => ?_));refine zf ?_;refine zc (zp (pT (iv (ix T a)) ?_));refine pU (iv (Bdd.stI (!st))) (xl (ld3 (hW.1))) ?_
        by_cases J6 : (ix T a : Int) = (Bdd.stI (!st) : Int)
        ·
          refine pU (.bool true) (eE (ix T a : Int) (Bdd.stI (!st) : Int) (J6)) ?_;refine pT (.bool true) ?_;refine pK ?_;refine pK ?_;refine pK ?_;refine pD (.bool true) (.bool true) ?_;refine zn (cK [0,1,3,4,5,6,27] (fun L => ?_));refine zt ?_;refine zc (zp (pD (iv (ix T b)) (iv (ix T b)) ?_));refine zn (ct_ (qb (qt (zR (iv (ix T b)) ?_))));obtain rfl := Bdd.ix_inj (u := .leaf (!st)) ma trivial J6;refine ⟨v, T, Lm, ⟨?_, E7, hB, hM, hd, ?_, ⟨[], (List.append_nil T).symm⟩, fun x h => .inl h⟩⟩
          · rw [Bdd.ap_weak hob];rfl
          · rw [Bdd.ap_weak hob];exact mb
        ·
          refine pU (.bool false) (eN (ix T a : Int) (Bdd.stI (!st) : Int) (J6)) ?_;refine pD (.bool false) (iv (ix T a)) ?_;refine pT (iv (ix T b)) ?_
          by_cases Ke : (ix T a : Int) = (ix T b : Int)
          ·
            refine pU (.bool true) (eE (ix T a : Int) (ix T b : Int) (Ke)) ?_;refine pD (.bool true) (.bool true) ?_;refine zn (cK [0,1,3,4,5,6,27] (fun L => ?_));refine zt ?_;refine zc (zp (pD (iv (ix T b)) (iv (ix T b)) ?_));refine zn (ct_ (qb (qt (zR (iv (ix T b)) ?_))));obtain rfl := Bdd.ix_inj ma mb Ke;refine ⟨v, T, Lm, ⟨?_, E7, hB, hM, hd, ?_, ⟨[], (List.append_nil T).symm⟩, fun x h => .inl h⟩⟩
            · rw [Bdd.ap_self hoa];rfl
            · rw [Bdd.ap_self hoa];exact ma
          ·
            refine pU (.bool false) (eN (ix T a : Int) (ix T b : Int) (Ke)) ?_;refine pD (.bool false) (.bool false) ?_;refine zn (cK [0,1,3,4,5,6,27] (fun L => ?_));refine zf ?_;refine zc (zp (pT (iv (ix T b)) ?_));refine pU (iv (Bdd.stI (!st))) (xl (ld3 (hW.1))) ?_
            by_cases J8 : (ix T b : Int) = (Bdd.stI (!st) : Int)
            ·
              refine pU (.bool true) (eE (ix T b : Int) (Bdd.stI (!st) : Int) (J8)) ?_;refine pT (.bool true) ?_;refine zn (zt ?_);refine zc (zp (pD (iv (ix T a)) (iv (ix T a)) ?_));refine zn (ct_ (qb (qt (zR (iv (ix T a)) ?_))));obtain rfl := Bdd.ix_inj (u := .leaf (!st)) mb trivial J8;refine ⟨v, T, Lm, ⟨?_, E7, hB, hM, hd, ?_, ⟨[], (List.append_nil T).symm⟩, fun x h => .inl h⟩⟩
              · rw [Bdd.ap_weak2 hoa];rfl
              · rw [Bdd.ap_weak2 hoa];exact ma
            ·
              refine pU (.bool false) (eN (ix T b : Int) (Bdd.stI (!st) : Int) (J8)) ?_;refine pT (.bool false) ?_;refine zn (zf ?_);refine cs_ (qw_block (zq (zc (zp (pD (iv (ix T a)) (iv (ix T b)) ?_)))));refine pU (iv (min (ix T a : Int) (ix T b : Int) : Int)) (ev_int (show _ = Result.ok (Next.value (Value.int .i64 (if (ix T b : Int) < (ix T a : Int) then (ix T b : Int) else (ix T a : Int)))) _ from by kernel_rfl) (by split <;> omega)) ?_;refine pD (iv (ix T a)) (iv (ix T b)) ?_;refine pU (iv (max (ix T a : Int) (ix T b : Int) : Int)) (ev_int (show _ = Result.ok (Next.value (Value.int .i64 (if (ix T a : Int) < (ix T b : Int) then (ix T b : Int) else (ix T a : Int)))) _ from by kernel_rfl) (by split <;> omega)) ?_;refine pT (.agg #[iv (min (ix T a : Int) (ix T b : Int) : Int), iv (max (ix T a : Int) (ix T b : Int) : Int)]) ?_;refine pS (sw 53 #[iv 0, iv 0] ?_);intro O8 X9 Ct Mf hb hbx;have ⟨Co, Cr⟩ := bq2 hbx;clear hbx;refine mv7 hb hB E7 hS hW hMb hBb hJ fun hB E7 hS hW hMb hBb hJ=>?_;replace hM := hM.ext hb;have Bg := hb.size;clear hb;have El := Co.lt;refine pP (sn_set2 (O := O8) (j := 0) (v := iv (min (ix T a : Int) (ix T b : Int) : Int)) (v' := iv (max (ix T a : Int) (ix T b : Int) : Int)) (xt (pw O8 0) (.agg #[iv (min (ix T a : Int) (ix T b : Int) : Int), iv (max (ix T a : Int) (ix T b : Int) : Int)]) (st53 Co.1 Co.2 Cr.1 Cr.2)) Co Cr ?_);intro C8 ho Co Cr hk;replace hB := hB.turn ho (fun q => absurd (Cq _ q) (nn_ (nq_ Ct)));replace E7 := E7.turn ho (.inr (nq_ Ct));replace hS := ho.box (by omega) hS;replace hW := ho.box (by omega) hW;replace hMb := ho.box (by omega) hMb;replace hBb := ho.box (by omega) hBb;replace hJ := ho.box (by omega) hJ;replace hM := hM.block (ho.heap' _ (by omega));have Bc := nq_ ho.size.symm;clear ho hk;refine zn (cK [0,1,4,5,6,10] (fun L => ?_));refine zc (cw_seq ?_);rcases hg : getM (min (ix T a : Int) (ix T b : Int), max (ix T a : Int) (ix T b : Int)) Lm with _ | val
              ·
                refine zp (pU (.map (some M)) (xl (ld142 (hMb.1))) ?_);refine pU (.agg #[iv (min (ix T a : Int) (ix T b : Int) : Int), iv (max (ix T a : Int) (ix T b : Int) : Int)]) (xl (ld53 (Co.1) (Cr.1))) ?_;refine pU (.tuple #[iv 0, .bool false]) (ex_lookup rfl (by kernel_rfl) (by kernel_rfl) (lookup_is2 (run_lookup2 Tryz.underlying142 hM pr_law (min (ix T a : Int) (ix T b : Int), max (ix T a : Int) (ix T b : Int)) (zero_int _)) hg)) ?_;refine pD (.tuple #[iv 0, .bool false]) (iv 0) ?_;refine pD (.bool false) (iv 0) ?_;refine pT (.bool false) ?_;refine zn (zc (zp (pT (.bool false) ?_)));refine zn (cK [0,1,4,5,6,10,11,55] (fun L => ?_));refine zf ?_;refine cs_ (qw_then ?_);refine cw_seq ?_;have B0 := er_ C8;have Bq : ∀ W, Ext C8 W → W.cell? ⟨Bb, 0, none⟩ = some (pw B 0) := fun W h => (hBb.c h)
                refine dT (fun w' => w'.cell? ⟨Bb, 0, none⟩ = some (pw B 0)) (hBb.1) (fun ops Q Mn hb hL hR hK => ?_);replace B0 := B0.trans hb;have Ed := hb.size;clear hb
                have He : ∀ (C2 Bj : Nat) (Cs : World) (B0 : Ext C8 Cs) (B7 : BoxAt Cs C2 0 (nv (Bdd.ev n a))) (Be : BoxAt Cs C2 1 (iv (ix T (noD a)))) (Bf : BoxAt Cs C2 2 (iv (ix T (yesD a)))) (B1 : BoxAt Cs Bj 0 (nv (Bdd.ev n b))) (B3 : BoxAt Cs Bj 1 (iv (ix T (noD b)))) (B4 : BoxAt Cs Bj 2 (iv (ix T (yesD b)))) (Bt : C8.heap.size ≤ Cs.heap.size) (Bw : C8.heap.size ≤ C2) (Bx : C8.heap.size ≤ Bj) (D0 : Hid (C2 ≠ Bj)), WD Tryz.prog ops Q (fun w' => w'.cell? ⟨Bb, 0, none⟩ = some (pw B 0)) L 0 [0, 1, 2, 3, 4, 5, 6, 7, 8, 9] [(0, iv (ix T a)), (1, iv (ix T b)), (4, pw Mb 0), (5, pw Bb 0), (6, pw J 0), (10, pw O8 0), (11, iv 0), (13, pw C2 0), (14, pw Bj 0), (55, .bool false), (57, pw B 0), (58, iv (ix T a)), (59, .agg #[nv (Bdd.ev n a), iv (ix T (noD a)), iv (ix T (yesD a))]), (60, pw B 0), (61, iv (ix T b)), (62, .agg #[nv (Bdd.ev n b), iv (ix T (noD b)), iv (ix T (yesD b))])] Cs := by
                  clear B0;intro C2 Bj Cs B0 B7 Be Bf B1 B3 B4 Bt Bw Bx D0;have Em := B7.lt;have En := B1.lt;refine we hL hR hK ?_;refine zq (cK [0,1,4,5,6,10,13,14] (fun L => ?_));refine zc (zp (pT (pw C2 0) ?_));refine pU (nv (Bdd.ev n a)) (xl (ld3 (B7.1))) ?_;refine pT (pw Bj 0) ?_;refine pU (nv (Bdd.ev n b)) (xl (ld3 (B1.1))) ?_;refine pU (nv (min (Bdd.ev n a) (Bdd.ev n b))) (ev_int (show _ = Result.ok (Next.value (Value.int .i64 (if ((Bdd.ev n b : Nat) : Int) < ((Bdd.ev n a : Nat) : Int) then ((Bdd.ev n b : Nat) : Int) else ((Bdd.ev n a : Nat) : Int)))) _ from by kernel_rfl) (by split <;> omega)) ?_;refine pT (nv (min (Bdd.ev n a) (Bdd.ev n b))) ?_;refine zn (cw_seq ?_);have hea := Bdd.ev_lt (st := st) ha J4 J6;have heb := Bdd.ev_lt (st := st) hb J5 J8;have hga := Bdd.ev_ge hk ha;have hgb := Bdd.ev_ge hk hb;obtain ⟨e, he⟩ : ∃ e, e = min (Bdd.ev n a) (Bdd.ev n b) := ⟨_, rfl⟩;rw [← he];have hen : e < n := by omega
                  have hke : k ≤ e := by omega
                  have Bu := (hB.ext B0);have Bk := (E7.ext B0);have Bh := (hS.x B0);have Bi := (hW.x B0);have B8 := (hMb.x B0);have B2 := (hBb.x B0);have Ba := (hJ.x B0);have Bv := (hM.ext B0);have B5 := (Co.x B0);have B6 := (Cr.x B0);refine cw_join (fun ws' wr => ∃ a0 : Bdd.D, ∃ a1 : Bdd.D, ws' = [(1, iv (ix T b)), (4, pw Mb 0), (5, pw Bb 0), (6, pw J 0), (10, pw O8 0), (13, pw C2 0), (14, pw Bj 0), (15, iv e)] ∧ Cs.heap.size ≤ wr.heap.size ∧ Bld wr n0 B K n v T ∧ BS ((fun k => k = M)) B K v w v wr ∧ BoxAt wr S 0 (iv (Bdd.stI st)) ∧ BoxAt wr W 0 (iv (Bdd.stI (!st))) ∧ BoxAt wr Mb 0 (.map (some M)) ∧ BoxAt wr Bb 0 (pw B 0) ∧ BoxAt wr J 0 (.func (.func 114) #[] #[pw S 0, pw W 0, pw Mb 0, pw Bb 0, pw J 0]) ∧ MapS prV intV wr M Lm ∧ BoxAt wr O8 0 (iv (min (ix T a : Int) (ix T b : Int) : Int)) ∧ BoxAt wr O8 1 (iv (max (ix T a : Int) (ix T b : Int) : Int)) ∧ BoxAt wr Bj 0 (nv (Bdd.ev n b)) ∧ BoxAt wr Bj 1 (iv (ix T (noD b))) ∧ BoxAt wr Bj 2 (iv (ix T (yesD b))) ∧ BoxAt wr C2 0 (iv e) ∧ BoxAt wr C2 1 (iv (ix T a0)) ∧ BoxAt wr C2 2 (iv (ix T a1)) ∧ Bdd.Cof n e T a a0 a1) (fun hJ => ?_) ?_
                  ·
                    refine zc (zp (pT (pw C2 0) ?_));refine pU (nv (Bdd.ev n a)) (xl (ld3 (B7.1))) ?_;refine pT (iv e) ?_
                    by_cases Fu : ((Bdd.ev n a : Nat) : Int) > ((e : Nat) : Int)
                    ·
                      refine pU (.bool true) (ed (((Bdd.ev n a : Nat) : Int) > ((e : Nat) : Int)) (Fu)) ?_;refine zn (cK [0,1,4,5,6,10,13,14,15,71] (fun L => ?_));refine zt ?_;refine zp (pD (iv e) (iv (ix T a)) ?_);refine pD (iv (ix T a)) (nw e (ix T a) (ix T a)) ?_;refine pP (sn_setK3 (O := C2) (j := 0) (v0 := iv e) (v1 := iv (ix T a)) (v2 := iv (ix T a)) (xt (pw C2 0) (nw e (ix T a) (ix T a)) (st56 B7.1 B7.2 Be.1 Be.2 Bf.1 Bf.2)) B7 Be Bf ?_);intro Jm ho B7 Be Bf hk;replace Bu := Bu.turn ho (fun q => absurd (Cq _ q) (nn_ (Tq (Tq Bg Bc) Bw)));replace Bk := Bk.turn ho (.inr (Tq (Tq Bg Bc) Bw));replace Bh := ho.box (by omega) Bh;replace Bi := ho.box (by omega) Bi;replace B8 := ho.box (by omega) B8;replace B2 := ho.box (by omega) B2;replace Ba := ho.box (by omega) Ba;replace Bv := Bv.block (ho.heap' _ (by omega));refine mq2 (ho.bx O8 (by omega)) B5 B6 fun B5 B6=>?_;replace B1 := ho.box D0.out B1;replace B3 := ho.box D0.out B3;replace B4 := ho.box D0.out B4;have I0 := nq_ ho.size.symm;clear ho hk;refine pl_nil ?_;exact zl hJ [1, 4, 5, 6, 10, 13, 14, 15] ⟨a, a, rfl, I0, Bu, Bk, Bh, Bi, B8, B2, Ba, Bv, B5, B6, B1, B3, B4, B7, Be, Bf, (Bdd.Cof.same ha ma (by omega))⟩
                    ·
                      refine pU (.bool false) (en (((Bdd.ev n a : Nat) : Int) > ((e : Nat) : Int)) (Fu)) ?_;refine zn (cK [0,1,4,5,6,10,13,14,15,71] (fun L => ?_));refine zf ?_;refine cs_ ?_;have E8 : Bdd.ev n a = e := by omega
                      exact zl hJ [1, 4, 5, 6, 10, 13, 14, 15] ⟨(noD a), (yesD a), rfl, (nr_ _), Bu, Bk, Bh, Bi, B8, B2, Ba, Bv, B5, B6, B1, B3, B4, (E8 ▸ B7), Be, Bf, (Bdd.Cof.here K3.cl ha ma E8.symm hen)⟩
                  ·
                    clear Bu Bk Bh Bi B8 B2 Ba Bv B5 B6 B7 Be Bf B1 B3 B4;rintro L ws J1 ⟨a0, a1, rfl, Bl, Bu, Bk, Bh, Bi, B8, B2, Ba, Bv, B5, B6, B1, B3, B4, Ce, C9, Ca, hca⟩;refine zq (zc (cw_join (fun ws' wr => ∃ b0 : Bdd.D, ∃ b1 : Bdd.D, ws' = [(4, pw Mb 0), (5, pw Bb 0), (6, pw J 0), (10, pw O8 0), (13, pw C2 0), (14, pw Bj 0), (15, iv e)] ∧ J1.heap.size ≤ wr.heap.size ∧ Bld wr n0 B K n v T ∧ BS ((fun k => k = M)) B K v w v wr ∧ BoxAt wr S 0 (iv (Bdd.stI st)) ∧ BoxAt wr W 0 (iv (Bdd.stI (!st))) ∧ BoxAt wr Mb 0 (.map (some M)) ∧ BoxAt wr Bb 0 (pw B 0) ∧ BoxAt wr J 0 (.func (.func 114) #[] #[pw S 0, pw W 0, pw Mb 0, pw Bb 0, pw J 0]) ∧ MapS prV intV wr M Lm ∧ BoxAt wr O8 0 (iv (min (ix T a : Int) (ix T b : Int) : Int)) ∧ BoxAt wr O8 1 (iv (max (ix T a : Int) (ix T b : Int) : Int)) ∧ BoxAt wr C2 0 (iv e) ∧ BoxAt wr C2 1 (iv (ix T a0)) ∧ BoxAt wr C2 2 (iv (ix T a1)) ∧ BoxAt wr Bj 0 (iv e) ∧ BoxAt wr Bj 1 (iv (ix T b0)) ∧ BoxAt wr Bj 2 (iv (ix T b1)) ∧ Bdd.Cof n e T b b0 b1) (fun hJ => ?_) ?_))
                    ·
                      refine zc (zp (pT (pw Bj 0) ?_));refine pU (nv (Bdd.ev n b)) (xl (ld3 (B1.1))) ?_;refine pT (iv e) ?_
                      by_cases Fv : ((Bdd.ev n b : Nat) : Int) > ((e : Nat) : Int)
                      ·
                        refine pU (.bool true) (ed (((Bdd.ev n b : Nat) : Int) > ((e : Nat) : Int)) (Fv)) ?_;refine zn (zt ?_);refine zp (pD (iv e) (iv (ix T b)) ?_);refine pD (iv (ix T b)) (nw e (ix T b) (ix T b)) ?_;refine pP (sn_setK3 (O := Bj) (j := 0) (v0 := iv e) (v1 := iv (ix T b)) (v2 := iv (ix T b)) (xt (pw Bj 0) (nw e (ix T b) (ix T b)) (st56 B1.1 B1.2 B3.1 B3.2 B4.1 B4.2)) B1 B3 B4 ?_);intro Jn ho B1 B3 B4 hk;replace Bu := Bu.turn ho (fun q => absurd (Cq _ q) (nn_ (Tq (Tq Bg Bc) Bx)));replace Bk := Bk.turn ho (.inr (Tq (Tq Bg Bc) Bx));replace Bh := ho.box (by omega) Bh;replace Bi := ho.box (by omega) Bi;replace B8 := ho.box (by omega) B8;replace B2 := ho.box (by omega) B2;replace Ba := ho.box (by omega) Ba;replace Bv := Bv.block (ho.heap' _ (by omega));refine mq2 (ho.bx O8 (by omega)) B5 B6 fun B5 B6=>?_;replace Ce := ho.box (Ne.symm D0.out) Ce;replace C9 := ho.box (Ne.symm D0.out) C9;replace Ca := ho.box (Ne.symm D0.out) Ca;have I1 := nq_ ho.size.symm;clear ho hk;refine pl_nil ?_;exact zl hJ [4, 5, 6, 10, 13, 14, 15] ⟨b, b, rfl, I1, Bu, Bk, Bh, Bi, B8, B2, Ba, Bv, B5, B6, Ce, C9, Ca, B1, B3, B4, (Bdd.Cof.same hb mb (by omega))⟩
                      ·
                        refine pU (.bool false) (en (((Bdd.ev n b : Nat) : Int) > ((e : Nat) : Int)) (Fv)) ?_;refine zn (zf ?_);refine cs_ ?_;have E9 : Bdd.ev n b = e := by omega
                        exact zl hJ [4, 5, 6, 10, 13, 14, 15] ⟨(noD b), (yesD b), rfl, (nr_ _), Bu, Bk, Bh, Bi, B8, B2, Ba, Bv, B5, B6, Ce, C9, Ca, (E9 ▸ B1), B3, B4, (Bdd.Cof.here K3.cl hb mb E9.symm hen)⟩
                    ·
                      clear Bu Bk Bh Bi B8 B2 Ba Bv B5 B6 B1 B3 B4 Ce C9 Ca;rintro L ws Mj ⟨b0, b1, rfl, Bm, Bu, Bk, Bh, Bi, B8, B2, Ba, Bv, B5, B6, Ce, C9, Ca, D2, Ck, Cm, hcb⟩;refine zq (cw_seq ?_);have Mo : 2 ^ (n - (e + 1)) * 2 = 2 ^ (n - e) := by rw [← Nat.pow_succ];congr 1;omega
                      have Mp : 2 ^ (n - e) ≤ 2 ^ (n - k) := Nat.pow_le_pow_right (by decide) (by omega);refine dT (fun w' => w'.cell? ⟨Bb, 0, none⟩ = some (pw B 0) ∧ w'.cell? ⟨J, 0, none⟩ = some (.func (.func 114) #[] #[pw S 0, pw W 0, pw Mb 0, pw Bb 0, pw J 0]) ∧ w'.cell? ⟨C2, 1, none⟩ = some (iv (ix T a0)) ∧ w'.cell? ⟨Bj, 1, none⟩ = some (iv (ix T b0)) ∧ w'.cell? ⟨C2, 2, none⟩ = some (iv (ix T a1)) ∧ w'.cell? ⟨Bj, 2, none⟩ = some (iv (ix T b1))) (⟨B2.1, Ba.1, C9.1, Ck.1, Ca.1, Cm.1⟩) (fun ops Q Md hb hL hR hK => ?_);refine mv16 hb Bu Bk Bh Bi B8 B2 Ba Bv B5 B6 Ce C9 Ca D2 Ck Cm fun Bu Bk Bh Bi B8 B2 Ba Bv B5 B6 Ce C9 Ca D2 Ck Cm=>?_;have Bo := hb.size;clear hb;have hS := A6 B2.1 Ba.1 C9.1 Ck.1 Ca.1 Cm.1;refine wM 0 (pw B 0) hR (fun w hS => ld81 (hS.1)) hS ?_;refine wV 1 (iv e) hR hS ?_;refine wM 2 (.func (.func 114) #[] #[pw S 0, pw W 0, pw Mb 0, pw Bb 0, pw J 0]) hR (fun w hS => ld38 (hS.2.1)) hS ?_;refine wV 3 (pw C2 1) hR hS ?_;refine wM 4 (iv (ix T a0)) hR (fun w hS => ld3 (hS.2.2.1)) hS ?_;refine wV 5 (pw Bj 1) hR hS ?_;refine wM 6 (iv (ix T b0)) hR (fun w hS => ld3 (hS.2.2.2.1)) hS ?_;refine wM 8 (.func (.func 114) #[] #[pw S 0, pw W 0, pw Mb 0, pw Bb 0, pw J 0]) hR (fun w hS => ld38 (hS.2.1)) hS ?_;refine wV 9 (pw C2 2) hR hS ?_;refine wM 10 (iv (ix T a1)) hR (fun w hS => ld3 (hS.2.2.2.2.1)) hS ?_;refine wV 11 (pw Bj 2) hR hS ?_;refine wM 12 (iv (ix T b1)) hR (fun w hS => ld3 (hS.2.2.2.2.2)) hS ?_;have Hk := ih _ Bu ⟨Bh, Bi, B8, B2, Ba⟩ ⟨hX.s, hX.w, hX.mb, hX.b, hX.j, hX.m⟩ Bv hd hca.m0 hcb.m0 hca.k0 hcb.k0 (by omega) (by omega) (by omega) hn;refine wC 7 114 #[iv (ix T a0), iv (ix T b0), pw S 0, pw W 0, pw Mb 0, pw Bb 0, pw J 0] hR ((Hk).mono ?_);rintro e Ml ⟨Mg, T9, Mc, Ho⟩;obtain ⟨rfl, Br, Dp, Hb, Hm, G8, ⟨Cd, rfl⟩, G9⟩ := Ho;replace Bk := Bk.trans Br;replace Bh := Br.wr.box (fun q => q.elim hX.s nSM) Bh;replace Bi := Br.wr.box (fun q => q.elim hX.w nWM) Bi;replace B8 := Br.wr.box (fun q => q.elim hX.mb nMbM) B8;replace B2 := Br.wr.box (fun q => q.elim hX.b nBbM) B2;replace Ba := Br.wr.box (fun q => q.elim hX.j nJM) Ba;have q9 := fun ⦃j : Nat⦄ ⦃v : Value⦄ (h : BoxAt _ O8 j v) => Br.wr.box (fun q => q.elim (fun q => absurd (Cq _ q) (nn_ (nq_ Ct))) (by omega)) h
                      replace B5 := q9 B5;replace B6 := q9 B6;clear q9;replace Ce := Br.wr.box (fun q => q.elim (fun q => absurd (Cq _ q) (nn_ (Tq (Tq Bg Bc) Bw))) (by omega)) Ce;replace C9 := Br.wr.box (fun q => q.elim (fun q => absurd (Cq _ q) (nn_ (Tq (Tq Bg Bc) Bw))) (by omega)) C9;replace Ca := Br.wr.box (fun q => q.elim (fun q => absurd (Cq _ q) (nn_ (Tq (Tq Bg Bc) Bw))) (by omega)) Ca;replace D2 := Br.wr.box (fun q => q.elim (fun q => absurd (Cq _ q) (nn_ (Tq (Tq Bg Bc) Bx))) (by omega)) D2;replace Ck := Br.wr.box (fun q => q.elim (fun q => absurd (Cq _ q) (nn_ (Tq (Tq Bg Bc) Bx))) (by omega)) Ck;replace Cm := Br.wr.box (fun q => q.elim (fun q => absurd (Cq _ q) (nn_ (Tq (Tq Bg Bc) Bx))) (by omega)) Cm;have Eo := Br.nx hX.b (by omega);have Ep := Br.nx hX.j (by omega);have Gc := Br.nx hX.m (by omega);have Er := Br.nx hX.mb (by omega);have Du := Br.nx (fun q => absurd (Cq _ q) (nn_ (Tq (Tq Bg Bc) Bx))) (by omega);have Gd := Br.nx (fun q => absurd (Cq _ q) (nn_ (nq_ Ct))) (by omega);have Dv := Br.nx (fun q => absurd (Cq _ q) (nn_ (Tq (Tq Bg Bc) Bw))) (by omega);have Es := Br.nx hX.s (by omega);have Et := Br.nx hX.w (by omega);have C1 := Br.wr.size;have Kb := Dp.lt;have K8 := Dp.ge;have La := Bdd.sub_len (k := e + 1) Dp.cl.nd (Bdd.ap_ok hen hca.k0 hcb.k0) G9;refine ⟨_, rfl, ⟨B2.1, Ba.1, C9.1, Ck.1, Ca.1, Cm.1⟩, ?_⟩;have Fw := ih _ Dp ⟨Bh, Bi, B8, B2, Ba⟩ ⟨Es, Et, Er, Eo, Ep, Gc⟩ Hb Hm (hca.m1.app _) (hcb.m1.app _) hca.k1 hcb.k1 (by omega) (by omega) (by omega) hn;rw [Bdd.ix_app hca.m1, Bdd.ix_app hcb.m1] at Fw;refine wC 13 114 #[iv (ix T a1), iv (ix T b1), pw S 0, pw W 0, pw Mb 0, pw Bb 0, pw J 0] hR ((Fw).mono ?_);rintro e Mm ⟨Mh, T9, J9, Hq⟩;obtain ⟨rfl, Bs, Dq, E4, Hn, Hy, ⟨Cf, rfl⟩, Ga⟩ := Hq;replace Bk := Bk.trans Bs;replace Bh := Bs.wr.box (fun q => q.elim Es nSM) Bh;replace Bi := Bs.wr.box (fun q => q.elim Et nWM) Bi;replace B8 := Bs.wr.box (fun q => q.elim Er nMbM) B8;replace B2 := Bs.wr.box (fun q => q.elim Eo nBbM) B2;replace Ba := Bs.wr.box (fun q => q.elim Ep nJM) Ba;have q9 := fun ⦃j : Nat⦄ ⦃v : Value⦄ (h : BoxAt _ O8 j v) => Bs.wr.box (fun q => q.elim Gd (by omega)) h
                      replace B5 := q9 B5;replace B6 := q9 B6;clear q9;replace Ce := Bs.wr.box (fun q => q.elim Dv (by omega)) Ce;replace C9 := Bs.wr.box (fun q => q.elim Dv (by omega)) C9;replace Ca := Bs.wr.box (fun q => q.elim Dv (by omega)) Ca;replace D2 := Bs.wr.box (fun q => q.elim Du (by omega)) D2;replace Ck := Bs.wr.box (fun q => q.elim Du (by omega)) Ck;replace Cm := Bs.wr.box (fun q => q.elim Du (by omega)) Cm;have Ge := Bs.nx Eo (by omega);have Gf := Bs.nx Ep (by omega);have Gg := Bs.nx Gc (by omega);have Gh := Bs.nx Er (by omega);have Dw := Bs.nx Du (by omega);have Eu := Bs.nx Gd (by omega);have Dx := Bs.nx Dv (by omega);have Gi := Bs.nx Es (by omega);have Gj := Bs.nx Et (by omega);have Cp := Bs.wr.size;have Kc := Dq.lt;have K9 := Dq.ge;have Lb := Bdd.sub_len (k := e + 1) Dq.cl.nd (Bdd.ap_ok hen hca.k1 hcb.k1) Ga;refine ⟨_, rfl, ⟨B2.1, Ba.1, C9.1, Ck.1, Ca.1, Cm.1⟩, ?_⟩;have Fx := node_c (e := e) (a := ap st n a0 b0) (b := ap st n a1 b1) _ Dq hen (Bdd.ap_ok hen hca.k0 hcb.k0) (Bdd.ap_ok hen hca.k1 hcb.k1) (G8.app _) Hy (by simp only [List.length_append] at *; omega) hn;rw [Bdd.ix_app G8] at Fx;refine wC 14 88 #[pw B 0, iv e, iv (ix (T ++ Cd) (ap st n a0 b0)), iv (ix ((T ++ Cd) ++ Cf) (ap st n a1 b1))] hR ((Fx).mono ?_);rintro e Kw ⟨Mi, rfl, Bp, D3⟩;replace Bk := Bk.trans Bp.no;replace Bh := Bp.wr.box (fun q => q.elim Gi id) Bh;replace Bi := Bp.wr.box (fun q => q.elim Gj id) Bi;replace B8 := Bp.wr.box (fun q => q.elim Gh id) B8;replace B2 := Bp.wr.box (fun q => q.elim Ge id) B2;replace Ba := Bp.wr.box (fun q => q.elim Gf id) Ba;replace B5 := Bp.wr.box (fun q => q.elim Eu id) B5;replace B6 := Bp.wr.box (fun q => q.elim Eu id) B6;replace Ce := Bp.wr.box (fun q => q.elim Dx id) Ce;replace C9 := Bp.wr.box (fun q => q.elim Dx id) C9;replace Ca := Bp.wr.box (fun q => q.elim Dx id) Ca;replace D2 := Bp.wr.box (fun q => q.elim Dw id) D2;replace Ck := Bp.wr.box (fun q => q.elim Dw id) Ck;replace Cm := Bp.wr.box (fun q => q.elim Dw id) Cm;replace E4 := Bp.wr.map (fun q => q.elim Gg id) E4;have M2 := Bp.nx Ge (by omega);have M3 := Bp.nx Gf (by omega);have J0 := Bp.nx Gg (by omega);have M4 := Bp.nx Gh (by omega);have M5 := Bp.nx Dw (by omega);have M6 := Bp.nx Eu (by omega);have M7 := Bp.nx Dx (by omega);have M9 := Bp.nx Gi (by omega);have Ma := Bp.nx Gj (by omega);have Le := Bp.wr.size;have Kd := D3.lt;have Ka := D3.ge;have hS := A6 B2.1 Ba.1 C9.1 Ck.1 Ca.1 Cm.1;refine ⟨_, rfl, hS, ?_⟩;refine wV 15 (iv (ix (Bdd.add ((T ++ Cd) ++ Cf) (Bdd.mk e (ap st n a0 b0) (ap st n a1 b1))) (Bdd.mk e (ap st n a0 b0) (ap st n a1 b1)))) hR hS ?_;refine we hL hR hK ?_;refine zq (cK [4,10,16] (fun L => ?_));refine zc (zp (pU (.map (some M)) (xl (ld142 (B8.1))) ?_));refine pU (.agg #[iv (min (ix T a : Int) (ix T b : Int) : Int), iv (max (ix T a : Int) (ix T b : Int) : Int)]) (xl (ld53 (B5.1) (B6.1))) ?_;refine pT (iv (ix (Bdd.add ((T ++ Cd) ++ Cf) (Bdd.mk e (ap st n a0 b0) (ap st n a1 b1))) (Bdd.mk e (ap st n a0 b0) (ap st n a1 b1)))) ?_;obtain ⟨Jo, Hz, Fy, C7⟩ := run_update Tryz.underlying142 E4 pr_law (min (ix T a : Int) (ix T b : Int), max (ix T a : Int) (ix T b : Int)) (ix (Bdd.add ((T ++ Cd) ++ Cf) (Bdd.mk e (ap st n a0 b0) (ap st n a1 b1))) (Bdd.mk e (ap st n a0 b0) (ap st n a1 b1)) : Int);refine pP (sn_skp (ex_mapU rfl (by kernel_rfl) (by kernel_rfl) (by kernel_rfl) Hz) ?_);replace Bk := Bk.turnM C7 (.inl (rfl));replace Bh := (C7.mv0).box Bh;replace Bi := (C7.mv0).box Bi;replace B8 := (C7.mv0).box B8;replace B2 := (C7.mv0).box B2;replace Ba := (C7.mv0).box Ba;replace B5 := (C7.mv0).box B5;replace B6 := (C7.mv0).box B6;replace Ce := (C7.mv0).box Ce;replace C9 := (C7.mv0).box C9;replace Ca := (C7.mv0).box Ca;replace D2 := (C7.mv0).box D2;replace Ck := (C7.mv0).box Ck;replace Cm := (C7.mv0).box Cm;replace D3 := D3.turnM C7 J0;have Lf : Kw.heap.size ≤ Jo.heap.size := nq_ C7.size.symm;have Lg := Fy.lt;refine zn (zc (zp (pD (iv (ix (Bdd.add ((T ++ Cd) ++ Cf) (Bdd.mk e (ap st n a0 b0) (ap st n a1 b1))) (Bdd.mk e (ap st n a0 b0) (ap st n a1 b1)))) (iv (ix (Bdd.add ((T ++ Cd) ++ Cf) (Bdd.mk e (ap st n a0 b0) (ap st n a1 b1))) (Bdd.mk e (ap st n a0 b0) (ap st n a1 b1)))) ?_)));refine zn (ct_ (zR (iv (ix (Bdd.add ((T ++ Cd) ++ Cf) (Bdd.mk e (ap st n a0 b0) (ap st n a1 b1))) (Bdd.mk e (ap st n a0 b0) (ap st n a1 b1)))) ?_));have hst := Bdd.ap_step (st := st) hke hen ha hb hca hcb
                      have hmm := Bdd.add_mem (T ++ Cd ++ Cf) (Bdd.mk e (ap st n a0 b0) (ap st n a1 b1));obtain ⟨S9, Dy⟩ := Bdd.add_pre (T ++ Cd ++ Cf) (Bdd.mk e (ap st n a0 b0) (ap st n a1 b1));have Lc := Hn.app S9;rw [← Dy] at Lc;have Kh : ix (Bdd.add (T ++ Cd ++ Cf) (Bdd.mk e (ap st n a0 b0) (ap st n a1 b1))) a = ix T a := by rw [Dy, List.append_assoc, List.append_assoc];exact Bdd.ix_app ma
                      have Kf : Bdd.Mem (Bdd.add (T ++ Cd ++ Cf) (Bdd.mk e (ap st n a0 b0) (ap st n a1 b1))) a := by rw [Dy, List.append_assoc, List.append_assoc];exact ma.app _
                      have Ki : ix (Bdd.add (T ++ Cd ++ Cf) (Bdd.mk e (ap st n a0 b0) (ap st n a1 b1))) b = ix T b := by rw [Dy, List.append_assoc, List.append_assoc];exact Bdd.ix_app mb
                      have Kg : Bdd.Mem (Bdd.add (T ++ Cd ++ Cf) (Bdd.mk e (ap st n a0 b0) (ap st n a1 b1))) b := by rw [Dy, List.append_assoc, List.append_assoc];exact mb.app _
                      refine ⟨_, _, _, ⟨by rw [hst]; rfl, Bk, D3, Fy, ?_, by rw [hst]; exact hmm, ⟨Cd ++ Cf ++ S9, by rw [Dy]; simp [List.append_assoc]⟩, ?_⟩⟩
                      · have z9 := Lc.put D3.cl (a := a) (b := b) Kf Kg (by rw [hst]; exact hmm) (g' := fun x => getM x (updM (min (ix T a : Int) (ix T b : Int), max (ix T a : Int) (ix T b : Int)) (ix (Bdd.add ((T ++ Cd) ++ Cf) (Bdd.mk e (ap st n a0 b0) (ap st n a1 b1))) (Bdd.mk e (ap st n a0 b0) (ap st n a1 b1)) : Int) J9)) (fun x => by
                          show getM x _ = _
                          rw [getM_updM, hst, Kh, Ki])
                        exact z9
                      · intro x hx
                        rw [hst];rcases Bdd.add_sub hx with q | q
                        · rcases Ga x q with q | q
                          · exact (G9 x q).imp id fun q => Bdd.subs_mk (.inl q)
                          · exact .inr (Bdd.subs_mk (.inr q))
                        · exact .inr q
                have Hc : ∀ (C2 Bj : Nat) (Cx : World) (B0 : Ext C8 Cx) (B1 : BoxAt Cx Bj 0 (iv 0)) (B3 : BoxAt Cx Bj 1 (iv 0)) (B4 : BoxAt Cx Bj 2 (iv 0)) (B7 : BoxAt Cx C2 0 (nv (Bdd.ev n a))) (Be : BoxAt Cx C2 1 (iv (ix T (noD a)))) (Bf : BoxAt Cx C2 2 (iv (ix T (yesD a)))) (G6 : C8.heap.size ≤ Cx.heap.size) (G7 : C8.heap.size ≤ C2) (Eb : C8.heap.size ≤ Bj) (Dc : Hid (C2 ≠ Bj)), WD Tryz.prog ops Q (fun w' => w'.cell? ⟨Bb, 0, none⟩ = some (pw B 0)) L 1 [0, 1, 2, 3, 4, 5, 6, 7, 8] [(0, iv (ix T a)), (1, iv (ix T b)), (4, pw Mb 0), (5, pw Bb 0), (6, pw J 0), (10, pw O8 0), (11, iv 0), (13, pw C2 0), (14, pw Bj 0), (55, .bool false), (57, pw B 0), (58, iv (ix T a)), (59, .agg #[nv (Bdd.ev n a), iv (ix T (noD a)), iv (ix T (yesD a))]), (60, pw B 0), (61, iv (ix T b)), (62, .agg #[nv (Bdd.ev n b), iv (ix T (noD b)), iv (ix T (yesD b))])] Cx := by
                  clear B0;intro C2 Bj Cx B0 B1 B3 B4 B7 Be Bf G6 G7 Eb Dc;have Lh := B1.lt;have Li := B7.lt;refine wS 9 hR (sn_setK3 (O := Bj) (j := 0) (v0 := nv (Bdd.ev n b)) (v1 := iv (ix T (noD b))) (v2 := iv (ix T (yesD b))) (ex_store (p := pw Bj 0) (v := .agg #[nv (Bdd.ev n b), iv (ix T (noD b)), iv (ix T (yesD b))]) rfl (by kernel_rfl) (by kernel_rfl) (st56 B1.1 B1.2 B3.1 B3.2 B4.1 B4.2)) B1 B3 B4 ?_);intro H6 ho B1 B3 B4 hk;replace B0 := ho.ext B0 Eb;replace B7 := ho.box (Ne.symm Dc.out) B7;replace Be := ho.box (Ne.symm Dc.out) Be;replace Bf := ho.box (Ne.symm Dc.out) Bf;have I2 := nq_ ho.size.symm;clear ho hk;refine ⟨(Bq _ B0), ?_⟩;exact wX (He C2 Bj H6 B0 (B7) (Be) (Bf) (B1) (B3) (B4) (Tq G6 I2) G7 Eb (Lib.hid Dc.out))
                have E6 : ∀ (C2 Bj : Nat) (Cw : World) (B0 : Ext C8 Cw) (B7 : BoxAt Cw C2 0 (iv 0)) (Be : BoxAt Cw C2 1 (iv 0)) (Bf : BoxAt Cw C2 2 (iv 0)) (B1 : BoxAt Cw Bj 0 (iv 0)) (B3 : BoxAt Cw Bj 1 (iv 0)) (B4 : BoxAt Cw Bj 2 (iv 0)) (G4 : C8.heap.size ≤ Cw.heap.size) (Ea : C8.heap.size ≤ C2) (G5 : C8.heap.size ≤ Bj) (Db : Hid (C2 ≠ Bj)), WD Tryz.prog ops Q (fun w' => w'.cell? ⟨Bb, 0, none⟩ = some (pw B 0)) L 2 [0, 1, 2, 3, 4, 5, 6, 7] [(0, iv (ix T a)), (1, iv (ix T b)), (4, pw Mb 0), (5, pw Bb 0), (6, pw J 0), (10, pw O8 0), (11, iv 0), (13, pw C2 0), (14, pw Bj 0), (55, .bool false), (57, pw B 0), (58, iv (ix T a)), (59, .agg #[nv (Bdd.ev n a), iv (ix T (noD a)), iv (ix T (yesD a))]), (60, pw B 0), (61, iv (ix T b)), (62, .agg #[nv (Bdd.ev n b), iv (ix T (noD b)), iv (ix T (yesD b))])] Cw := by
                  clear B0;intro C2 Bj Cw B0 B7 Be Bf B1 B3 B4 G4 Ea G5 Db;have Lj := B7.lt;have Lk := B1.lt;refine wS 8 hR (sn_setK3 (O := C2) (j := 0) (v0 := nv (Bdd.ev n a)) (v1 := iv (ix T (noD a))) (v2 := iv (ix T (yesD a))) (ex_store (p := pw C2 0) (v := .agg #[nv (Bdd.ev n a), iv (ix T (noD a)), iv (ix T (yesD a))]) rfl (by kernel_rfl) (by kernel_rfl) (st56 B7.1 B7.2 Be.1 Be.2 Bf.1 Bf.2)) B7 Be Bf ?_);intro Ha ho B7 Be Bf hk;replace B0 := ho.ext B0 Ea;replace B1 := ho.box Db.out B1;replace B3 := ho.box Db.out B3;replace B4 := ho.box Db.out B4;have I3 := nq_ ho.size.symm;clear ho hk;refine ⟨(Bq _ B0), ?_⟩;exact wX (Hc C2 Bj Ha B0 (B1) (B3) (B4) (B7) (Be) (Bf) (Tq G4 I3) Ea G5 (Lib.hid Db.out))
                have Hi : ∀ (C2 : Nat) (Gq : World) (B0 : Ext C8 Gq) (B7 : BoxAt Gq C2 0 (iv 0)) (Be : BoxAt Gq C2 1 (iv 0)) (Bf : BoxAt Gq C2 2 (iv 0)) (Gw : C8.heap.size ≤ Gq.heap.size) (Hx : C8.heap.size ≤ C2), WD Tryz.prog ops Q (fun w' => w'.cell? ⟨Bb, 0, none⟩ = some (pw B 0)) L 3 [0, 1, 2, 3, 4, 5, 6] [(0, iv (ix T a)), (1, iv (ix T b)), (4, pw Mb 0), (5, pw Bb 0), (6, pw J 0), (10, pw O8 0), (11, iv 0), (13, pw C2 0), (55, .bool false), (57, pw B 0), (58, iv (ix T a)), (59, .agg #[nv (Bdd.ev n a), iv (ix T (noD a)), iv (ix T (yesD a))]), (60, pw B 0), (61, iv (ix T b)), (62, .agg #[nv (Bdd.ev n b), iv (ix T (noD b)), iv (ix T (yesD b))])] Gq := by
                  clear B0;intro C2 Gq B0 B7 Be Bf Gw Hx;have It := B7.lt;refine wN 7 56 #[iv 0, iv 0, iv 0] hR ?_;intro Ja Jp Ef Kj hb hbx;have ⟨Dd, Ey, Ez⟩ := bq3 hbx;clear hbx;refine mv4 hb B0 B7 Be Bf fun B0 B7 Be Bf=>?_;have I5 := hb.size;clear hb;have Ll := Dd.lt;refine ⟨(Bq _ B0), ?_⟩;exact wX (E6 C2 Ja Jp B0 (B7) (Be) (Bf) (Dd) (Ey) (Ez) (Tq Gw I5) Hx (Tq Gw (nq_ Ef)) (Lib.hid (by omega)))
                have Hj : ∀ (Gk : Nat) (Gr : World) (B0 : Ext C8 Gr) (Cz : BoxAt Gr Gk 0 (iv 0)) (D6 : BoxAt Gr Gk 1 (iv 0)) (D7 : BoxAt Gr Gk 2 (iv 0)) (Gx : C8.heap.size ≤ Gr.heap.size) (Fz : C8.heap.size ≤ Gk), WD Tryz.prog ops Q (fun w' => w'.cell? ⟨Bb, 0, none⟩ = some (pw B 0)) L 3 [0, 1, 2, 3, 4, 5, 7] [(0, iv (ix T a)), (1, iv (ix T b)), (4, pw Mb 0), (5, pw Bb 0), (6, pw J 0), (10, pw O8 0), (11, iv 0), (14, pw Gk 0), (55, .bool false), (57, pw B 0), (58, iv (ix T a)), (59, .agg #[nv (Bdd.ev n a), iv (ix T (noD a)), iv (ix T (yesD a))]), (60, pw B 0), (61, iv (ix T b)), (62, .agg #[nv (Bdd.ev n b), iv (ix T (noD b)), iv (ix T (yesD b))])] Gr := by
                  clear B0;intro Gk Gr B0 Cz D6 D7 Gx Fz;have Iu := Cz.lt;refine wN 6 56 #[iv 0, iv 0, iv 0] hR ?_;intro Jb Jq Eg Kk hb hbx;have ⟨De, F0, F1⟩ := bq3 hbx;clear hbx;refine mv4 hb B0 Cz D6 D7 fun B0 Cz D6 D7=>?_;have I6 := hb.size;clear hb;have Ln := De.lt;refine ⟨(Bq _ B0), ?_⟩;exact wX (E6 Jb Gk Jq B0 (De) (F0) (F1) (Cz) (D6) (D7) (Tq Gx I6) (Tq Gx (nq_ Eg)) Fz (Lib.hid (by omega)))
                have E5 : ∀ (Da D8 : Nat) (D1 : World) (B0 : Ext C8 D1) (C0 : BoxAt D1 Da 0 (iv 0)) (C5 : BoxAt D1 Da 1 (iv 0)) (C6 : BoxAt D1 Da 2 (iv 0)) (Cn : BoxAt D1 D8 0 (iv 0)) (Cu : BoxAt D1 D8 1 (iv 0)) (Cv : BoxAt D1 D8 2 (iv 0)) (G0 : C8.heap.size ≤ D1.heap.size) (G1 : C8.heap.size ≤ Da) (G2 : C8.heap.size ≤ D8) (G3 : Hid (Da ≠ D8)), WD Tryz.prog ops Q (fun w' => w'.cell? ⟨Bb, 0, none⟩ = some (pw B 0)) L 3 [0, 1, 2, 3, 4, 6, 7] [(0, iv (ix T a)), (1, iv (ix T b)), (4, pw Mb 0), (5, pw Bb 0), (6, pw J 0), (10, pw O8 0), (11, iv 0), (13, pw Da 0), (14, pw D8 0), (55, .bool false), (57, pw B 0), (58, iv (ix T a)), (59, .agg #[nv (Bdd.ev n a), iv (ix T (noD a)), iv (ix T (yesD a))]), (60, pw B 0), (61, iv (ix T b))] D1 := by
                  clear B0;intro Da D8 D1 B0 C0 C5 C6 Cn Cu Cv G0 G1 G2 G3;have Lo := C0.lt;have Lp := Cn.lt;refine wC 5 115 #[pw B 0, iv (ix T b)] hR ((look_c _ (hB.ext B0) mb (Tq hTl (by decide))).mono ?_);rintro e Kx ⟨rfl, hb⟩;refine mv7 hb B0 C0 C5 C6 Cn Cu Cv fun B0 C0 C5 C6 Cn Cu Cv=>?_;have I7 := hb.size;clear hb;refine ⟨_, rfl, Bq _ B0, ?_⟩;exact wX (E6 Da D8 Kx B0 (C0) (C5) (C6) (Cn) (Cu) (Cv) (Tq G0 I7) G1 G2 (Lib.hid G3.out))
                have K7 : ∀ (J3 : World) (B0 : Ext C8 J3) (Ec : C8.heap.size ≤ J3.heap.size), WD Tryz.prog ops Q (fun w' => w'.cell? ⟨Bb, 0, none⟩ = some (pw B 0)) L 4 [0, 1, 2, 3, 4, 5] [(0, iv (ix T a)), (1, iv (ix T b)), (4, pw Mb 0), (5, pw Bb 0), (6, pw J 0), (10, pw O8 0), (11, iv 0), (55, .bool false), (57, pw B 0), (58, iv (ix T a)), (59, .agg #[nv (Bdd.ev n a), iv (ix T (noD a)), iv (ix T (yesD a))]), (60, pw B 0), (61, iv (ix T b)), (62, .agg #[nv (Bdd.ev n b), iv (ix T (noD b)), iv (ix T (yesD b))])] J3 := by
                  clear B0;intro J3 B0 Ec;refine zw 6 7 hR ?_ ?_
                  ·
                    refine sw 56 #[iv 0, iv 0, iv 0] ?_;intro Jc Jr Gy Kl hb hbx;have ⟨Df, F2, F3⟩ := bq3 hbx;clear hbx;replace B0 := B0.trans hb;have I8 := hb.size;clear hb;have Lq := Df.lt;refine ⟨(Bq _ B0), ?_⟩;exact wX (Hi Jc Jr B0 (Df) (F2) (F3) (Tq Ec I8) (Tq Ec (nq_ Gy)))
                  ·
                    refine sw 56 #[iv 0, iv 0, iv 0] ?_;intro Jd Js Gz Km hb hbx;have ⟨Dg, F4, F5⟩ := bq3 hbx;clear hbx;replace B0 := B0.trans hb;have I9 := hb.size;clear hb;have Lr := Dg.lt;refine ⟨(Bq _ B0), ?_⟩;exact wX (Hj Jd Js B0 (Dg) (F4) (F5) (Tq Ec I9) (Tq Ec (nq_ Gz)))
                have Hf : ∀ (Da : Nat) (Gn : World) (B0 : Ext C8 Gn) (C0 : BoxAt Gn Da 0 (iv 0)) (C5 : BoxAt Gn Da 1 (iv 0)) (C6 : BoxAt Gn Da 2 (iv 0)) (Fp : C8.heap.size ≤ Gn.heap.size) (Gu : C8.heap.size ≤ Da), WD Tryz.prog ops Q (fun w' => w'.cell? ⟨Bb, 0, none⟩ = some (pw B 0)) L 4 [0, 1, 2, 3, 4, 6] [(0, iv (ix T a)), (1, iv (ix T b)), (4, pw Mb 0), (5, pw Bb 0), (6, pw J 0), (10, pw O8 0), (11, iv 0), (13, pw Da 0), (55, .bool false), (57, pw B 0), (58, iv (ix T a)), (59, .agg #[nv (Bdd.ev n a), iv (ix T (noD a)), iv (ix T (yesD a))]), (60, pw B 0), (61, iv (ix T b))] Gn := by
                  clear B0;intro Da Gn B0 C0 C5 C6 Fp Gu;have Iv := C0.lt;refine zw 5 7 hR ?_ ?_
                  ·
                    refine sc 115 #[pw B 0, iv (ix T b)] ((look_c _ (hB.ext B0) mb (Tq hTl (by decide))).mono ?_);rintro e Ky ⟨rfl, hb⟩;refine mv4 hb B0 C0 C5 C6 fun B0 C0 C5 C6=>?_;have Ia := hb.size;clear hb;refine ⟨_, rfl, Bq _ B0, ?_⟩;exact wX (Hi Da Ky B0 (C0) (C5) (C6) (Tq Fp Ia) Gu)
                  ·
                    refine sw 56 #[iv 0, iv 0, iv 0] ?_;intro Je Jt Eh Kn hb hbx;have ⟨Dh, F6, F7⟩ := bq3 hbx;clear hbx;refine mv4 hb B0 C0 C5 C6 fun B0 C0 C5 C6=>?_;have Ib := hb.size;clear hb;have Ls := Dh.lt;refine ⟨(Bq _ B0), ?_⟩;exact wX (E5 Da Je Jt B0 (C0) (C5) (C6) (Dh) (F6) (F7) (Tq Fp Ib) Gu (Tq Fp (nq_ Eh)) (Lib.hid (by omega)))
                have Hg : ∀ (Fs : Nat) (Gp : World) (B0 : Ext C8 Gp) (Cc : BoxAt Gp Fs 0 (iv 0)) (Ci : BoxAt Gp Fs 1 (iv 0)) (Cj : BoxAt Gp Fs 2 (iv 0)) (Fq : C8.heap.size ≤ Gp.heap.size) (Gv : C8.heap.size ≤ Fs), WD Tryz.prog ops Q (fun w' => w'.cell? ⟨Bb, 0, none⟩ = some (pw B 0)) L 4 [0, 1, 2, 3, 4, 7] [(0, iv (ix T a)), (1, iv (ix T b)), (4, pw Mb 0), (5, pw Bb 0), (6, pw J 0), (10, pw O8 0), (11, iv 0), (14, pw Fs 0), (55, .bool false), (57, pw B 0), (58, iv (ix T a)), (59, .agg #[nv (Bdd.ev n a), iv (ix T (noD a)), iv (ix T (yesD a))]), (60, pw B 0), (61, iv (ix T b))] Gp := by
                  clear B0;intro Fs Gp B0 Cc Ci Cj Fq Gv;have Iw := Cc.lt;refine zw 5 6 hR ?_ ?_
                  ·
                    refine sc 115 #[pw B 0, iv (ix T b)] ((look_c _ (hB.ext B0) mb (Tq hTl (by decide))).mono ?_);rintro e Kz ⟨rfl, hb⟩;refine mv4 hb B0 Cc Ci Cj fun B0 Cc Ci Cj=>?_;have Ic := hb.size;clear hb;refine ⟨_, rfl, Bq _ B0, ?_⟩;exact wX (Hj Fs Kz B0 (Cc) (Ci) (Cj) (Tq Fq Ic) Gv)
                  ·
                    refine sw 56 #[iv 0, iv 0, iv 0] ?_;intro Jf Ju Ei Ko hb hbx;have ⟨Di, F8, F9⟩ := bq3 hbx;clear hbx;refine mv4 hb B0 Cc Ci Cj fun B0 Cc Ci Cj=>?_;have Ie := hb.size;clear hb;have Lt := Di.lt;refine ⟨(Bq _ B0), ?_⟩;exact wX (E5 Jf Fs Ju B0 (Di) (F8) (F9) (Cc) (Ci) (Cj) (Tq Fq Ie) (Tq Fq (nq_ Ei)) Gv (Lib.hid (by omega)))
                have Hh : ∀ (D9 Ft : Nat) (Ew : World) (B0 : Ext C8 Ew) (Bz : BoxAt Ew D9 0 (iv 0)) (C3 : BoxAt Ew D9 1 (iv 0)) (C4 : BoxAt Ew D9 2 (iv 0)) (Cy : BoxAt Ew Ft 0 (iv 0)) (D4 : BoxAt Ew Ft 1 (iv 0)) (D5 : BoxAt Ew Ft 2 (iv 0)) (Hs : C8.heap.size ≤ Ew.heap.size) (Ht : C8.heap.size ≤ D9) (Hu : C8.heap.size ≤ Ft) (Hw : Hid (D9 ≠ Ft)), WD Tryz.prog ops Q (fun w' => w'.cell? ⟨Bb, 0, none⟩ = some (pw B 0)) L 4 [0, 1, 3, 4, 6, 7] [(0, iv (ix T a)), (1, iv (ix T b)), (4, pw Mb 0), (5, pw Bb 0), (6, pw J 0), (10, pw O8 0), (11, iv 0), (13, pw D9 0), (14, pw Ft 0), (55, .bool false), (57, pw B 0), (58, iv (ix T a)), (60, pw B 0), (61, iv (ix T b))] Ew := by
                  clear B0;intro D9 Ft Ew B0 Bz C3 C4 Cy D4 D5 Hs Ht Hu Hw;have Lu := Bz.lt;have Lv := Cy.lt;refine wC 2 115 #[pw B 0, iv (ix T a)] hR ((look_c _ (hB.ext B0) ma (Tq hTl (by decide))).mono ?_);rintro e L1 ⟨rfl, hb⟩;refine mv7 hb B0 Bz C3 C4 Cy D4 D5 fun B0 Bz C3 C4 Cy D4 D5=>?_;have Ig := hb.size;clear hb;refine ⟨_, rfl, Bq _ B0, ?_⟩;exact wX (E5 D9 Ft L1 B0 (Bz) (C3) (C4) (Cy) (D4) (D5) (Tq Hs Ig) Ht Hu (Lib.hid Hw.out))
                have K4 : ∀ (J2 : World) (B0 : Ext C8 J2) (Dz : C8.heap.size ≤ J2.heap.size), WD Tryz.prog ops Q (fun w' => w'.cell? ⟨Bb, 0, none⟩ = some (pw B 0)) L 5 [0, 1, 2, 3, 4] [(0, iv (ix T a)), (1, iv (ix T b)), (4, pw Mb 0), (5, pw Bb 0), (6, pw J 0), (10, pw O8 0), (11, iv 0), (55, .bool false), (57, pw B 0), (58, iv (ix T a)), (59, .agg #[nv (Bdd.ev n a), iv (ix T (noD a)), iv (ix T (yesD a))]), (60, pw B 0), (61, iv (ix T b))] J2 := by
                  clear B0;intro J2 B0 Dz;refine wd_three 5 6 7 hR rfl rfl rfl (by kernel_rfl) (by kernel_rfl) (by kernel_rfl) (by kernel_rfl) (by kernel_rfl) ?_ ?_ ?_
                  ·
                    refine sc 115 #[pw B 0, iv (ix T b)] ((look_c _ (hB.ext B0) mb (Tq hTl (by decide))).mono ?_);rintro e L4 ⟨rfl, hb⟩;replace B0 := B0.trans hb;have Ih := hb.size;clear hb;refine ⟨_, rfl, Bq _ B0, ?_⟩;exact wX (K7 L4 B0 (Tq Dz Ih))
                  ·
                    refine sw 56 #[iv 0, iv 0, iv 0] ?_;intro Jg Jv H0 Kq hb hbx;have ⟨Dj, Fa, Fb⟩ := bq3 hbx;clear hbx;replace B0 := B0.trans hb;have Ii := hb.size;clear hb;have Lw := Dj.lt;refine ⟨(Bq _ B0), ?_⟩;exact wX (Hf Jg Jv B0 (Dj) (Fa) (Fb) (Tq Dz Ii) (Tq Dz (nq_ H0)))
                  ·
                    refine sw 56 #[iv 0, iv 0, iv 0] ?_;intro Jh Jw H3 Kr hb hbx;have ⟨Dk, Fc, Fd⟩ := bq3 hbx;clear hbx;replace B0 := B0.trans hb;have Ij := hb.size;clear hb;have Lx := Dk.lt;refine ⟨(Bq _ B0), ?_⟩;exact wX (Hg Jh Jw B0 (Dk) (Fc) (Fd) (Tq Dz Ij) (Tq Dz (nq_ H3)))
                have K5 : ∀ (D9 : Nat) (Gl : World) (B0 : Ext C8 Gl) (Bz : BoxAt Gl D9 0 (iv 0)) (C3 : BoxAt Gl D9 1 (iv 0)) (C4 : BoxAt Gl D9 2 (iv 0)) (Fm : C8.heap.size ≤ Gl.heap.size) (Gs : C8.heap.size ≤ D9), WD Tryz.prog ops Q (fun w' => w'.cell? ⟨Bb, 0, none⟩ = some (pw B 0)) L 5 [0, 1, 3, 4, 6] [(0, iv (ix T a)), (1, iv (ix T b)), (4, pw Mb 0), (5, pw Bb 0), (6, pw J 0), (10, pw O8 0), (11, iv 0), (13, pw D9 0), (55, .bool false), (57, pw B 0), (58, iv (ix T a)), (60, pw B 0), (61, iv (ix T b))] Gl := by
                  clear B0;intro D9 Gl B0 Bz C3 C4 Fm Gs;have Iy := Bz.lt;refine zw 2 7 hR ?_ ?_
                  ·
                    refine sc 115 #[pw B 0, iv (ix T a)] ((look_c _ (hB.ext B0) ma (Tq hTl (by decide))).mono ?_);rintro e L5 ⟨rfl, hb⟩;refine mv4 hb B0 Bz C3 C4 fun B0 Bz C3 C4=>?_;have Ik := hb.size;clear hb;refine ⟨_, rfl, Bq _ B0, ?_⟩;exact wX (Hf D9 L5 B0 (Bz) (C3) (C4) (Tq Fm Ik) Gs)
                  ·
                    refine sw 56 #[iv 0, iv 0, iv 0] ?_;intro Ji Jy Ej Ks hb hbx;have ⟨Dl, Fe, Ff⟩ := bq3 hbx;clear hbx;refine mv4 hb B0 Bz C3 C4 fun B0 Bz C3 C4=>?_;have Il := hb.size;clear hb;have Ly := Dl.lt;refine ⟨(Bq _ B0), ?_⟩;exact wX (Hh D9 Ji Jy B0 (Bz) (C3) (C4) (Dl) (Fe) (Ff) (Tq Fm Il) Gs (Tq Fm (nq_ Ej)) (Lib.hid (by omega)))
                have K6 : ∀ (Fr : Nat) (Gm : World) (B0 : Ext C8 Gm) (Cb : BoxAt Gm Fr 0 (iv 0)) (Cg : BoxAt Gm Fr 1 (iv 0)) (Ch : BoxAt Gm Fr 2 (iv 0)) (Fo : C8.heap.size ≤ Gm.heap.size) (Gt : C8.heap.size ≤ Fr), WD Tryz.prog ops Q (fun w' => w'.cell? ⟨Bb, 0, none⟩ = some (pw B 0)) L 5 [0, 1, 3, 4, 7] [(0, iv (ix T a)), (1, iv (ix T b)), (4, pw Mb 0), (5, pw Bb 0), (6, pw J 0), (10, pw O8 0), (11, iv 0), (14, pw Fr 0), (55, .bool false), (57, pw B 0), (58, iv (ix T a)), (60, pw B 0), (61, iv (ix T b))] Gm := by
                  clear B0;intro Fr Gm B0 Cb Cg Ch Fo Gt;have Iz := Cb.lt;refine zw 2 6 hR ?_ ?_
                  ·
                    refine sc 115 #[pw B 0, iv (ix T a)] ((look_c _ (hB.ext B0) ma (Tq hTl (by decide))).mono ?_);rintro e L7 ⟨rfl, hb⟩;refine mv4 hb B0 Cb Cg Ch fun B0 Cb Cg Ch=>?_;have Im := hb.size;clear hb;refine ⟨_, rfl, Bq _ B0, ?_⟩;exact wX (Hg Fr L7 B0 (Cb) (Cg) (Ch) (Tq Fo Im) Gt)
                  ·
                    refine sw 56 #[iv 0, iv 0, iv 0] ?_;intro Jj Jz Ek Kt hb hbx;have ⟨Dm, Fg, Fh⟩ := bq3 hbx;clear hbx;refine mv4 hb B0 Cb Cg Ch fun B0 Cb Cg Ch=>?_;have Io := hb.size;clear hb;have Lz := Dm.lt;refine ⟨(Bq _ B0), ?_⟩;exact wX (Hh Jj Fr Jz B0 (Dm) (Fg) (Fh) (Cb) (Cg) (Ch) (Tq Fo Io) (Tq Fo (nq_ Ek)) Gt (Lib.hid (by omega)))
                have hS := Bq _ B0;refine wM 0 (pw B 0) hR (fun w hS => ld81 (hS)) hS ?_;refine wV 1 (iv (ix T a)) hR hS ?_;refine wM 3 (pw B 0) hR (fun w hS => ld81 (hS)) hS ?_;refine wV 4 (iv (ix T b)) hR hS ?_;refine wd_three 2 6 7 hR rfl rfl rfl (by kernel_rfl) (by kernel_rfl) (by kernel_rfl) (by kernel_rfl) (by kernel_rfl) ?_ ?_ ?_
                ·
                  refine sc 115 #[pw B 0, iv (ix T a)] ((look_c _ (hB.ext B0) ma (Tq hTl (by decide))).mono ?_);rintro e L8 ⟨rfl, hb⟩;replace B0 := B0.trans hb;have Ip := hb.size;clear hb;refine ⟨_, rfl, Bq _ B0, ?_⟩;exact wX (K4 L8 B0 (Tq Ed Ip))
                ·
                  refine sw 56 #[iv 0, iv 0, iv 0] ?_;intro Jk K0 H4 Ku hb hbx;have ⟨Dn, Fi, Fj⟩ := bq3 hbx;clear hbx;replace B0 := B0.trans hb;have Iq := hb.size;clear hb;have M0 := Dn.lt;refine ⟨(Bq _ B0), ?_⟩;exact wX (K5 Jk K0 B0 (Dn) (Fi) (Fj) (Tq Ed Iq) (Tq Ed (nq_ H4)))
                ·
                  refine sw 56 #[iv 0, iv 0, iv 0] ?_;intro Jl K1 H5 Kv hb hbx;have ⟨Do, Fk, Fl⟩ := bq3 hbx;clear hbx;replace B0 := B0.trans hb;have Ir := hb.size;clear hb;have M1 := Do.lt;refine ⟨(Bq _ B0), ?_⟩;exact wX (K6 Jl K1 B0 (Do) (Fk) (Fl) (Tq Ed Ir) (Tq Ed (nq_ H5)))
              ·
                refine zp (pU (.map (some M)) (xl (ld142 (hMb.1))) ?_);refine pU (.agg #[iv (min (ix T a : Int) (ix T b : Int) : Int), iv (max (ix T a : Int) (ix T b : Int) : Int)]) (xl (ld53 (Co.1) (Cr.1))) ?_;refine pU (.tuple #[iv val, .bool true]) (ex_lookup rfl (by kernel_rfl) (by kernel_rfl) (lookup_is2 (run_lookup2 Tryz.underlying142 hM pr_law (min (ix T a : Int) (ix T b : Int), max (ix T a : Int) (ix T b : Int)) (zero_int _)) hg)) ?_;refine pD (.tuple #[iv val, .bool true]) (iv val) ?_;refine pD (.bool true) (iv val) ?_;refine pT (.bool true) ?_;refine zn (zc (zp (pT (.bool true) ?_)));refine zn (cK [0,1,4,5,6,10,11,55] (fun L => ?_));refine zt ?_;refine zc (zp (pD (iv val) (iv val) ?_));refine zn (ct_ (qt (zR (iv val) ?_)));have hfd := hd.find K3.cl ma mb hg;obtain rfl := hfd.2;refine ⟨v, T, Lm, ⟨?_, E7, hB, hM, hd, ?_, ⟨[], (List.append_nil T).symm⟩, fun x h => .inl h⟩⟩
                · rfl
                · exact hfd.1
end Go.Proofs.YtpfajhcdfgpgmaaGreatDoor

namespace Go.Proofs.YtpfajhcdfgpgmaaGreatDoor
open Bdd (ix ap stI)
variable {w w' : World} {B Bb J K M Mb S W n n0 : Nat} {st : Bool} {v : Value} {T : List Bdd.D} {a b : Bdd.D}
set_option maxRecDepth 1000000
set_option maxHeartbeats 4000000
set_option synthInstance.maxHeartbeats 0
set_option synthInstance.maxSize 9999
open Go.RowKit
theorem JC.wr {X : Nat → Prop} (h : JC w B st S W Mb Bb J M) (t : Wr X w w') (h1 : ¬ X S) (h2 : ¬ X W) (h3 : ¬ X Mb) (h4 : ¬ X Bb) (h5 : ¬ X J) : JC w' B st S W Mb Bb J M := ⟨t.box h1 h.cs, t.box h2 h.cw, t.box h3 h.cm, t.box h4 h.cb, t.box h5 h.cj⟩
theorem JC.ext {w w' : World} {B : Nat} {st : Bool} {S W Mb Bb J M : Nat} (h : JC w B st S W Mb Bb J M) (e : Ext w w') : JC w' B st S W Mb Bb J M := ⟨BoxAt.ext e h.cs, BoxAt.ext e h.cw, BoxAt.ext e h.cm, BoxAt.ext e h.cb, BoxAt.ext e h.cj⟩
theorem Bdd.stI_rng (st : Bool) : -2 ≤ stI st ∧ stI st ≤ -1 := by cases st <;> decide
theorem joined_c (B : Nat) (st : Bool) (w : World) : Calls Tryz.prog 102 #[pw B 0, iv (stI st)] w fun e w' => ∃ S W Mb Bb J M, e = .returned (.func (.func 114) #[] #[pw S 0, pw W 0, pw Mb 0, pw Bb 0, pw J 0]) ∧ JC w' B st S W Mb Bb J M ∧ MapS prV intV w' M [] ∧ w.heap.size ≤ S ∧ w.heap.size ≤ W ∧ w.heap.size ≤ Mb ∧ w.heap.size ≤ Bb ∧ w.heap.size ≤ J ∧ w.heap.size ≤ M ∧ Ext w w' := by
 have hst := Bdd.stI_rng st;refine calls_cw 13 [(1, iv (stI st)), (0, pw B 0)] Tryz.func102 rfl Tryz.ntmps102 (by kernel_rfl) (by kernel_rfl) (fun L => ?_);have hE := er_ w;refine zc (zp (pS (sw 81 #[pw B 0] ?_)));intro O1 X2 Br C8 hb hbx;have B0 := bq1 hbx;replace hE := hE.trans hb;have Bk := hb.size;have Bu := B0.lt;refine pS (sw 3 #[iv (stI st)] ?_);intro O5 X6 Bs C9 hb hbx;have B1 := bq1 hbx;refine mv2 hb hE B0 fun hE B0=>?_;have Bg := hb.size;have Bv := B1.lt;refine pT (Value.nilFunc) ?_;refine zn (zc (zp (pU (iv (stI st)) (xl (ld3 (B1.1))) ?_)));refine pU (iv ((-3) - (stI st) : Int)) (ew (by omega) (by omega)) ?_;refine pS (sw 3 #[iv 0] ?_);intro O9 C0 Bj Ca hb hbx;have B2 := bq1 hbx;refine mv3 hb hE B0 B1 fun hE B0 B1=>?_;have Bc := hb.size;have Bo := B2.lt;refine pP (zE O9 0 (iv ((-3) - (stI st) : Int)) (st3 B2.1 B2.2) B2 ?_);intro C1 ho B2 hk;replace hE := ho.ext hE (Tq (Tq Bk Bg) (nq_ Bj));replace B0 := ho.box (by omega) B0;replace B1 := ho.box (by omega) B1;have B5 := nq_ ho.size.symm;clear ho hk;refine zn (zc (zp (pS (sn_map prV intV (by kernel_rfl) ?_))));intro Bq Cc hO hOs hb B7;have Bm := hO;have Bw := hOs;clear hO hOs;refine mv4 hb hE B0 B1 B2 fun hE B0 B1 B2=>?_;have B8 := hb.size;have Bp := B7.lt;refine pS (sw 142 #[.map none] ?_);intro Bh C2 Ba Bx hb hbx;have B3 := bq1 hbx;refine mv5 hb hE B0 B1 B2 B7 fun hE B0 B1 B2 B7=>?_;have Bf := hb.size;have Bt := B3.lt;refine pP (zE Bh 0 (.map (some Bq)) (st142 B3.1 B3.2) B3 ?_);intro C3 ho B3 hk;replace hE := ho.ext hE (by omega);replace B0 := ho.box (by omega) B0;replace B1 := ho.box (by omega) B1;replace B2 := ho.box (by omega) B2;replace B7 := B7.block (ho.heap' _ (by omega));have Be := nq_ ho.size.symm;clear ho hk;refine zn (zc (zp (pS (sw 38 #[.nilFunc] ?_))));intro Bi C4 B6 Bz hb hbx;have B4 := bq1 hbx;refine mv6 hb hE B0 B1 B2 B7 B3 fun hE B0 B1 B2 B7 B3=>?_;have C6 := hb.size;have Cb := B4.lt;refine zn (zc (zp (pT (.func (.func 114) #[] #[pw O5 0, pw O9 0, pw Bh 0, pw O1 0, pw Bi 0]) ?_)));refine pP (zE Bi 0 (.func (.func 114) #[] #[pw O5 0, pw O9 0, pw Bh 0, pw O1 0, pw Bi 0]) (st38 B4.1 B4.2) B4 ?_);intro C5 ho B4 hk;replace hE := ho.ext hE (by omega);replace B0 := ho.box (by omega) B0;replace B1 := ho.box (by omega) B1;replace B2 := ho.box (by omega) B2;replace B7 := B7.block (ho.heap' _ (by omega));replace B3 := ho.box (by omega) B3;have C7 := nq_ ho.size.symm;clear ho hk;refine zn (zc (zp (pU (.func (.func 114) #[] #[pw O5 0, pw O9 0, pw Bh 0, pw O1 0, pw Bi 0]) (xl (ld38 (B4.1))) ?_)));refine pT (.func (.func 114) #[] #[pw O5 0, pw O9 0, pw Bh 0, pw O1 0, pw Bi 0]) ?_;refine zn (ct_ (zR (.func (.func 114) #[] #[pw O5 0, pw O9 0, pw Bh 0, pw O1 0, pw Bi 0]) ?_));exact ⟨O5, O9, Bh, O1, Bi, Bq, rfl, ⟨B1, (Bdd.weak_eq st ▸ B2), B3, B0, B4⟩, B7, (Tq Bk (nq_ Bs)), (Tq (Tq Bk Bg) (nq_ Bj)), (by omega), (nq_ Br), (by omega), (by omega), hE⟩
theorem and_c (w : World) (hB : Bld w n0 B K n v T) (ma : Bdd.Mem T a) (mb : Bdd.Mem T b) (hT : T.length + 2 ^ n ≤ 1000000000000) (hn : n ≤ 16) : Calls Tryz.prog 83 #[pw B 0, iv (ix T a), iv (ix T b)] w fun e w' => ∃ v' T', e = .returned (iv (ix T' (ap false n a b))) ∧ BS No B K v w v' w' ∧ Bld w' n0 B K n v' T' ∧ Bdd.Mem T' (ap false n a b) ∧ (∃ S, T' = T ++ S) ∧ ∀ x ∈ T', x ∈ T ∨ x ∈ Bdd.subs (ap false n a b) := by
 have hS9 : BS No B K v w v w := BS.refl _ _ _ _ _;have hXl1 := hB.lt;have hXg2 := hB.ge;refine calls_cw 12 [(2, iv (ix T b)), (1, iv (ix T a)), (0, pw B 0)] Tryz.func83 rfl Tryz.ntmps83 (by kernel_rfl) (by kernel_rfl) (fun L => ?_);have hE := er_ w;refine zc (zp (pT (iv 0) ?_));refine zn (zc (zp (pT (pw B 0) ?_)));refine pS (sc 102 #[pw B 0, iv (-1 : Int)] ((joined_c _ false _).mono ?_));rintro e w17 ⟨S3, W4, Mb5, Bb6, J7, M8, rfl, hJC9, hM10, hlo11, hlo12, hlo13, hlo14, hlo15, hlo16, hb⟩;refine mv2 hb hB hS9 fun hB hS9=>?_;have hs18 := hb.size;have hl19 := hJC9.cs.lt;have hl20 := hJC9.cw.lt;have hl21 := hJC9.cm.lt;have hl22 := hJC9.cb.lt;have hl23 := hJC9.cj.lt;have hl24 := hM10.lt;have hX25 := er_ w17;refine ⟨_, rfl, pD (iv (ix T a)) (iv (ix T b)) ?_⟩;have hc32 := join_c (st := false) _ 0 hB hJC9 ⟨(fun q => absurd (hXl1 _ q) (nn_ hlo11)), (fun q => absurd (hXl1 _ q) (nn_ hlo12)), (fun q => absurd (hXl1 _ q) (nn_ hlo13)), (fun q => absurd (hXl1 _ q) (nn_ hlo14)), (fun q => absurd (hXl1 _ q) (nn_ hlo15)), (fun q => absurd (hXl1 _ q) (nn_ hlo16))⟩ hM10 (fun _ _ _ q => by cases q) ma mb (hB.cl.ok ma) (hB.cl.ok mb) (Nat.zero_le _) (nr_ _) hT hn;have hJCt33 := hJC9;have hMt34 := hM10;refine pS (sc 114 #[iv (ix T a), iv (ix T b), pw S3 0, pw W4 0, pw Mb5 0, pw Bb6 0, pw J7 0] ((hc32).mono ?_));rintro e w35 ⟨v26, T9, L28, hj29⟩;obtain ⟨rfl, hs30, hB31, _, _, hr9, ⟨S27, rfl⟩, hx9⟩ := hj29;replace hS9 := (BS.mono (Z := No) (hS9.no.trans hs30) (fun k q => .inr ((show k = M8 from q) ▸ hlo16)));have hs36 := hs30.wr.size;have hXl37 := hB31.lt;have hXg38 := hB31.ge;refine ⟨_, rfl, pT (iv (ix (T ++ S27) (ap false n a b))) ?_⟩;refine zn (ct_ (zR (iv (ix (T ++ S27) (ap false n a b))) ?_));exact ⟨_, _, rfl, hS9, hB31, hr9, ⟨_, rfl⟩, hx9⟩
theorem or_c (w : World) (hB : Bld w n0 B K n v T) (ma : Bdd.Mem T a) (mb : Bdd.Mem T b) (hT : T.length + 2 ^ n ≤ 1000000000000) (hn : n ≤ 16) : Calls Tryz.prog 79 #[pw B 0, iv (ix T a), iv (ix T b)] w fun e w' => ∃ v' T', e = .returned (iv (ix T' (ap true n a b))) ∧ BS No B K v w v' w' ∧ Bld w' n0 B K n v' T' ∧ Bdd.Mem T' (ap true n a b) ∧ (∃ S, T' = T ++ S) ∧ ∀ x ∈ T', x ∈ T ∨ x ∈ Bdd.subs (ap true n a b) := by
 have hS9 : BS No B K v w v w := BS.refl _ _ _ _ _;have hXl1 := hB.lt;have hXg2 := hB.ge;refine calls_cw 12 [(2, iv (ix T b)), (1, iv (ix T a)), (0, pw B 0)] Tryz.func79 rfl Tryz.ntmps79 (by kernel_rfl) (by kernel_rfl) (fun L => ?_);have hE := er_ w;refine zc (zp (pT (iv 0) ?_));refine zn (zc (zp (pT (pw B 0) ?_)));refine pS (sc 102 #[pw B 0, iv (-2 : Int)] ((joined_c _ true _).mono ?_));rintro e w17 ⟨S3, W4, Mb5, Bb6, J7, M8, rfl, hJC9, hM10, hlo11, hlo12, hlo13, hlo14, hlo15, hlo16, hb⟩;refine mv2 hb hB hS9 fun hB hS9=>?_;have hs18 := hb.size;have hl19 := hJC9.cs.lt;have hl20 := hJC9.cw.lt;have hl21 := hJC9.cm.lt;have hl22 := hJC9.cb.lt;have hl23 := hJC9.cj.lt;have hl24 := hM10.lt;have hX25 := er_ w17;refine ⟨_, rfl, pD (iv (ix T a)) (iv (ix T b)) ?_⟩;have hc32 := join_c (st := true) _ 0 hB hJC9 ⟨(fun q => absurd (hXl1 _ q) (nn_ hlo11)), (fun q => absurd (hXl1 _ q) (nn_ hlo12)), (fun q => absurd (hXl1 _ q) (nn_ hlo13)), (fun q => absurd (hXl1 _ q) (nn_ hlo14)), (fun q => absurd (hXl1 _ q) (nn_ hlo15)), (fun q => absurd (hXl1 _ q) (nn_ hlo16))⟩ hM10 (fun _ _ _ q => by cases q) ma mb (hB.cl.ok ma) (hB.cl.ok mb) (Nat.zero_le _) (nr_ _) hT hn;have hJCt33 := hJC9;have hMt34 := hM10;refine pS (sc 114 #[iv (ix T a), iv (ix T b), pw S3 0, pw W4 0, pw Mb5 0, pw Bb6 0, pw J7 0] ((hc32).mono ?_));rintro e w35 ⟨v26, T9, L28, hj29⟩;obtain ⟨rfl, hs30, hB31, _, _, hr9, ⟨S27, rfl⟩, hx9⟩ := hj29;replace hS9 := (BS.mono (Z := No) (hS9.no.trans hs30) (fun k q => .inr ((show k = M8 from q) ▸ hlo16)));have hs36 := hs30.wr.size;have hXl37 := hB31.lt;have hXg38 := hB31.ge;refine ⟨_, rfl, pT (iv (ix (T ++ S27) (ap true n a b))) ?_⟩;refine zn (ct_ (zR (iv (ix (T ++ S27) (ap true n a b))) ?_));exact ⟨_, _, rfl, hS9, hB31, hr9, ⟨_, rfl⟩, hx9⟩
instance {w w' : World} {B : Nat} {st : Bool} {S W Mb Bb J M : Nat} : MvC w w' (JC w B st S W Mb Bb J M) (JC w' B st S W Mb Bb J M) := ⟨fun e h => h.ext e⟩
end Go.Proofs.YtpfajhcdfgpgmaaGreatDoor

namespace Go.Proofs.YtpfajhcdfgpgmaaGreatDoor
variable {e i : Nat} {E S s : Int} {f : Nat → Int}
namespace Bdd
abbrev Row := Int × Int × Int
def rwN (N : List Row) (i : Nat) : Row := N[i]?.getD (0, 0, 0)
theorem rwN_at {N : List Row} (h : i < N.length) : N[i]? = some (rwN N i) := by unfold rwN; rw [List.getElem?_eq_getElem h]; rfl
def dat (ds : List D) (s : Int) : D := if s = -1 then .leaf false else if s < 0 then .leaf true else ds[s.toNat]?.getD (.leaf false)
def dens (N : List Row) : List D := N.foldl (fun ds x => ds ++ [mk x.1.toNat (dat ds x.2.1) (dat ds x.2.2)]) []
theorem dens_snoc (N : List Row) (x : Row) : dens (N ++ [x]) = dens N ++ [mk x.1.toNat (dat (dens N) x.2.1) (dat (dens N) x.2.2)] := by unfold dens; rw [List.foldl_append]; rfl
theorem dens_step {N : List Row} (h : i < N.length) : dens (N.take (i + 1)) = dens (N.take i) ++ [mk (rwN N i).1.toNat (dat (dens (N.take i)) (rwN N i).2.1) (dat (dens (N.take i)) (rwN N i).2.2)] := by
 rw [List.take_add_one, rwN_at h]; exact dens_snoc _ _
theorem dens_len : ∀ (N : List Row), (dens N).length = N.length := fun N => by
 suffices h : ∀ k, k ≤ N.length → (dens (N.take k)).length = k by have := h N.length (nr_ _); rwa [List.take_length] at this
 intro k
 induction k with
 | zero => intro _; rfl
 | succ k ih => intro hk; rw [dens_step hk, List.length_append, ih (by omega)]; rfl
theorem dens_pre {N : List Row} : ∀ {i k : Nat}, i ≤ k → k ≤ N.length → ∀ j, j < i → (dens (N.take k))[j]? = (dens (N.take i))[j]? := fun {i k} => by
  induction k with
  | zero => intro h1 h2 j hj; omega
  | succ k ih =>
    intro h1 h2 j hj
    rcases Nat.lt_or_ge i (k + 1) with q | q
    · rw [dens_step h2, List.getElem?_append_left (by rw [dens_len, List.length_take]; omega)]
      exact ih (by omega) (by omega) j hj
    · rw [show i = k + 1 by omega]
def okN (E : Int) (N : List Row) (i : Nat) : Prop :=
 ((-2 ≤ (rwN N i).2.1 ∧ (rwN N i).2.1 ≤ (i : Int) - 1) ∧ (0 ≤ (rwN N i).2.1 → (rwN N i).1 < (rwN N (rwN N i).2.1.toNat).1)) ∧ ((-2 ≤ (rwN N i).2.2 ∧ (rwN N i).2.2 ≤ (i : Int) - 1) ∧ (0 ≤ (rwN N i).2.2 → (rwN N i).1 < (rwN N (rwN N i).2.2.toNat).1)) ∧ (0 ≤ (rwN N i).1 ∧ (rwN N i).1 ≤ E - 1) ∧ (rwN N i).2.1 ≠ (rwN N i).2.2
instance (E : Int) (N : List Row) (i : Nat) : Decidable (okN E N i) := by unfold okN; infer_instance
structure Str (E S : Int) (N : List Row) : Prop where
 e : 0 ≤ E ∧ E ≤ 16
 l : N.length ≤ 2000
 s : -2 ≤ S ∧ S ≤ (N.length : Int) - 1
 n : ∀ i, i < N.length → okN E N i
instance (E S : Int) (N : List Row) : Decidable (Str E S N) :=
 decidable_of_iff ((0 ≤ E ∧ E ≤ 16) ∧ N.length ≤ 2000 ∧ (-2 ≤ S ∧ S ≤ (N.length : Int) - 1) ∧ ∀ i, i < N.length → okN E N i) ⟨fun h => ⟨h.1, h.2.1, h.2.2.1, h.2.2.2⟩, fun h => ⟨h.e, h.l, h.s, h.n⟩⟩
def tree (S : Int) (N : List Row) : D := dat (dens N) S
theorem dat_nd {ds : List D} {s : Nat} : dat ds (s : Int) = ds[s]?.getD (.leaf false) := by
 unfold dat; rw [if_neg (by omega), if_neg (by omega), Int.toNat_natCast]
theorem dens_ok {N : List Row} (h : Str E S N) : ∀ {k : Nat}, k ≤ N.length → ∀ {i : Nat}, i < k → OK (rwN N i).1.toNat E.toNat ((dens (N.take k))[i]?.getD (.leaf false)) := fun {k} => by
  induction k with
  | zero => intro _ i hi; omega
  | succ k ih =>
    intro hk i hi
    have ih := fun {i} => ih (by omega) (i := i)
    have hl : (dens (N.take k)).length = k := by rw [dens_len, List.length_take]; omega
    rw [dens_step hk]
    rcases Nat.lt_or_ge i k with q | q
    · rw [List.getElem?_append_left (by omega)]; exact ih q
    · obtain rfl : i = k := by omega
      rw [List.getElem?_append_right (by omega), hl, Nat.sub_self]
      obtain ⟨⟨a1, a2⟩, ⟨b1, b2⟩, ⟨c1, c2⟩, d⟩ := h.n i hk
      have lv : ∀ s : Int, -2 ≤ s → s ≤ (i : Int) - 1 → (0 ≤ s → (rwN N i).1 < (rwN N s.toNat).1) → OK ((rwN N i).1.toNat + 1) E.toNat (dat (dens (N.take i)) s) := fun s h1 h2 h3 => by
        unfold dat
        split
        · trivial
        · split
          · trivial
          · have := h3 (by omega)
            exact (ih (i := s.toNat) (by omega)).mono (by omega)
      exact OK.mk (by omega) (lv _ a1.1 a1.2 a2) (lv _ b1.1 b1.2 b2)
end Bdd
namespace Bdd
def dn (N : List Row) (i j : Nat) : D := (dens (N.take i))[j]?.getD (.leaf false)
theorem dn_old {N : List Row} {j : Nat} (hi : i < N.length) (hj : j < i) : dn N (i + 1) j = dn N i j := by
 unfold dn; rw [dens_step hi, List.getElem?_append_left (by rw [dens_len, List.length_take]; omega)]
theorem dn_new {N : List Row} (hi : i < N.length) : dn N (i + 1) i = mk (rwN N i).1.toNat (dat (dens (N.take i)) (rwN N i).2.1) (dat (dens (N.take i)) (rwN N i).2.2) := by
 have hl : (dens (N.take i)).length = i := by rw [dens_len, List.length_take]; omega
 unfold dn; rw [dens_step hi, List.getElem?_append_right (by omega), hl, Nat.sub_self]; rfl
structure Ld (T0 : List D) (N : List Row) (i : Nat) (T : List D) (f : Nat → Int) : Prop where
 p : ∃ S, T = T0 ++ S
 l : T.length ≤ T0.length + i
 m : ∀ j, j < i → Mem T (dn N i j) ∧ f j = ix T (dn N i j)
theorem Ld.zero (T0 : List D) (N : List Row) (f : Nat → Int) : Ld T0 N 0 T0 f := ⟨⟨[], (List.append_nil _).symm⟩, nr_ _, fun j h => absurd h (Nat.not_lt_zero j)⟩
theorem Ld.step {T0 : List D} {N : List Row} {T : List D} {f' : Nat → Int} (h : Ld T0 N i T f) (hi : i < N.length) (he : (rwN N i).1 = (e : Int)) {t : D} (ht : t = Bdd.mk e (dat (dens (N.take i)) (rwN N i).2.1) (dat (dens (N.take i)) (rwN N i).2.2)) (hf : ∀ j, f' j = if j = i then ix (add T t) t else f j) : Ld T0 N (i + 1) (add T t) f' := by
  have hn : dn N (i + 1) i = t := by rw [dn_new hi, he, ht]; rfl
  obtain ⟨S, hS⟩ := add_pre T t
  obtain ⟨S0, hS0⟩ := h.p
  refine ⟨⟨S0 ++ S, by rw [hS, hS0, List.append_assoc]⟩, ?_, fun j hj => ?_⟩
  · have := h.l
    unfold add; split
    · omega
    · rw [List.length_append]; simp only [List.length_singleton]; omega
  · rcases Nat.lt_or_ge j i with q | q
    · rw [dn_old hi q, hf, if_neg (by omega)]
      obtain ⟨h1, h2⟩ := h.m j q
      rw [hS]
      exact ⟨h1.app S, by rw [ix_app h1]; exact h2⟩
    · obtain rfl : j = i := by omega
      rw [hn, hf, if_pos rfl]
      exact ⟨add_mem T t, rfl⟩
theorem Ld.mem {T0 : List D} {N : List Row} {T : List D} (h : Ld T0 N i T f) (h2 : s ≤ (i : Int) - 1) : Mem T (dat (dens (N.take i)) s) := by
  unfold dat
  split
  · trivial
  · split
    · trivial
    · exact (h.m s.toNat (by omega)).1
theorem Ld.neg {N : List Row} {T : List D} (h1 : -2 ≤ s) (h2 : s < 0) : s = ix T (dat (dens (N.take i)) s) := by
 have : s = -1 ∨ s = -2 := by omega
 rcases this with rfl | rfl <;> rfl
theorem Ld.pos {T0 : List D} {N : List Row} {T : List D} (h : Ld T0 N i T f) {s : Nat} (h2 : s < i) : f s = ix T (dat (dens (N.take i)) (s : Int)) := by
 rw [dat_nd]; exact (h.m s h2).2
theorem dat_ok {N : List Row} (h : Str E S N) {k : Nat} (hk : k ≤ N.length) (h2 : s ≤ (k : Int) - 1) {l : Nat} (hl : 0 ≤ s → l ≤ (rwN N s.toNat).1.toNat) : OK l E.toNat (dat (dens (N.take k)) s) := by
  unfold dat
  split
  · trivial
  · split
    · trivial
    · exact (dens_ok h hk (i := s.toNat) (by omega)).mono (hl (by omega))
theorem tree_ok {N : List Row} (h : Str E S N) : OK 0 E.toNat (tree S N) := by
 have := dat_ok h (nr_ _) h.s.2 (l := 0) (fun _ => Nat.zero_le _)
 rwa [List.take_length] at this
theorem Str.lev {N : List Row} (h : Str E S N) (hi : i < N.length) (he : (rwN N i).1 = (e : Int)) : e < E.toNat ∧ OK (e + 1) E.toNat (dat (dens (N.take i)) (rwN N i).2.1) ∧ OK (e + 1) E.toNat (dat (dens (N.take i)) (rwN N i).2.2) := by
 obtain ⟨⟨a1, a2⟩, ⟨b1, b2⟩, ⟨c1, c2⟩, d⟩ := h.n i hi
 exact ⟨by omega, dat_ok h (Nat.le_of_lt hi) a1.2 fun q => by have := a2 q; omega, dat_ok h (Nat.le_of_lt hi) b1.2 fun q => by have := b2 q; omega⟩
def validB (E S : Int) (N : List Row) : Bool := decide (Str E S N ∧ start (tree S N) = S ∧ nodes (tree S N) = N)
theorem valid_iff {N : List Row} : validB E S N = true ↔ Str E S N ∧ start (tree S N) = S ∧ nodes (tree S N) = N := decide_eq_true_iff
end Bdd
end Go.Proofs.YtpfajhcdfgpgmaaGreatDoor

namespace Go.Proofs.YtpfajhcdfgpgmaaGreatDoor
open Go.RowKit
def ArrAt (w : World) (B n : Nat) (f : Nat → Int) : Prop := 0 < n ∧ ∀ k, k < n → BoxAt w B k (.int .i64 (f k))
theorem ArrAt.at {w : World} {B n : Nat} {f : Nat → Int} (h : ArrAt w B n f) {k : Nat} (hk : k < n) : BoxAt w B k (.int .i64 (f k)) := h.2 k hk
theorem ArrAt.ext {w w' : World} {B n : Nat} {f : Nat → Int} (h : ArrAt w B n f) (hE : Ext w w') : ArrAt w' B n f := ⟨h.1, fun k hk => BoxAt.ext hE (h.2 k hk)⟩
theorem ArrAt.lt {w : World} {B n : Nat} {f : Nat → Int} (h : ArrAt w B n f) : B < w.heap.size := (h.2 0 h.1).lt
def upd (f : Nat → Int) (j : Nat) (v : Int) (k : Nat) : Int := if k = j then v else f k
theorem ArrAt.upd {w X : World} {B n j : Nat} {f : Nat → Int} {v : Int} (h : ArrAt w B n f) (hv : BoxAt X B j (.int .i64 v)) (hk : ∀ i x, i ≠ j → BoxAt w B i x → BoxAt X B i x) : ArrAt X B n (upd f j v) :=
 ⟨h.1, fun k hn => by
  unfold Go.Proofs.YtpfajhcdfgpgmaaGreatDoor.upd
  by_cases e : k = j
  · subst e; rw [if_pos rfl]; exact hv
  · rw [if_neg e]; exact hk k _ e (h.2 k hn)⟩
theorem ArrAt.congr {w : World} {B n : Nat} {f g : Nat → Int} (h : ArrAt w B n f) (e : ∀ k, k < n → f k = g k) : ArrAt w B n g := ⟨h.1, fun k hk => by rw [← e k hk]; exact h.2 k hk⟩
section
variable {P : Program} {w : World}
end
end Go.Proofs.YtpfajhcdfgpgmaaGreatDoor

namespace Go.Proofs.YtpfajhcdfgpgmaaGreatDoor
open Go.RowKit
structure NdB (w : World) (b o : Nat) (N : List Nod) : Prop where
 at_ : ∀ (i : Nat) x, N[i]? = some x → w.cell? ⟨b, o + i * 3, none⟩ = some (.int .i64 x.1) ∧ w.cell? ⟨b, o + i * 3 + 1, none⟩ = some (.int .i64 x.2.1) ∧ w.cell? ⟨b, o + i * 3 + 2, none⟩ = some (.int .i64 x.2.2)
theorem NdB.ext {w w' : World} {b o : Nat} {N : List Nod} (h : NdB w b o N) (e : Ext w w') : NdB w' b o N := ⟨fun i x hx => ⟨e.cell (h.at_ i x hx).1, e.cell (h.at_ i x hx).2.1, e.cell (h.at_ i x hx).2.2⟩⟩
section
variable {w : World} {b o i : Nat} {N : List Nod} (h : NdB w b o N) (hi : i < N.length)
include h hi
theorem NdB.c0 : w.cell? ⟨b, o + i * 3, none⟩ = some (.int .i64 (Bdd.rwN N i).1) := (h.at_ i _ (Bdd.rwN_at hi)).1
theorem NdB.c1 : w.cell? ⟨b, o + i * 3 + 1, none⟩ = some (.int .i64 (Bdd.rwN N i).2.1) := (h.at_ i _ (Bdd.rwN_at hi)).2.1
theorem NdB.c2 : w.cell? ⟨b, o + i * 3 + 2, none⟩ = some (.int .i64 (Bdd.rwN N i).2.2) := (h.at_ i _ (Bdd.rwN_at hi)).2.2
end
structure NdsAt (w : World) (a : Option Addr) (m : Nat) (N : List Nod) : Prop where
 len : N.length = m
 max : m ≤ 140737488355328
 at_ : m = 0 ∨ ∃ b o, a = some ⟨b, o, none⟩ ∧ NdB w b o N
theorem NdsAt.ext {w w' : World} {a : Option Addr} {m : Nat} {N : List Nod} (h : NdsAt w a m N) (e : Ext w w') : NdsAt w' a m N := ⟨h.len, h.max, h.at_.imp id fun ⟨b, o, h1, h2⟩ => ⟨b, o, h1, h2.ext e⟩⟩
theorem NdsAt.parts {w : World} {a : Option Addr} {m : Nat} {N : List Nod} (h : NdsAt w a m N) : ∃ b o, (0 < m → a = some ⟨b, o, none⟩) ∧ (0 < m → b < w.heap.size) ∧ NdB w b o N := by
 obtain ⟨h1, _, h3⟩ := h
 rcases h3 with h3 | ⟨b, o, ha, hx⟩
 · exact ⟨0, 0, fun h => by omega, fun h => by omega, ⟨fun i x hi => by have := (List.getElem?_eq_some_iff.1 hi).1; omega⟩⟩
 · exact ⟨b, o, fun _ => ha, fun h => World.block_lt_of_cell? _ _ (hx.c0 (i := 0) (by omega)), hx⟩
theorem NdsAt.nil (w : World) : NdsAt w none 0 [] := ⟨rfl, Nat.zero_le _, .inl rfl⟩
theorem NdB.take {w : World} {b o : Nat} {N : List Nod} (h : NdB w b o N) (k : Nat) : NdB w b o (N.take k) := ⟨fun i x hi => h.at_ i x (by
 rw [List.getElem?_take] at hi
 split at hi
 · exact hi
 · cases hi)⟩
theorem NdsAt.take {w : World} {a : Option Addr} {m : Nat} {N : List Nod} (h : NdsAt w a m N) {k : Nat} (hk : k ≤ m) : NdsAt w a k (N.take k) := ⟨by rw [List.length_take, h.len]; omega, Tq hk h.max, by
 rcases h.at_ with q | ⟨b, o, ha, hx⟩
 · exact .inl (by omega)
 · exact .inr ⟨b, o, ha, hx.take k⟩⟩
theorem own_nds {n₀ : Nat} {w : World} {N : List Nod} {a : Option Addr} {m c : Nat} (h : OwnL nodR n₀ 56 3 (.slice a m c) w N) (hm : N.length = m) (hx : m ≤ 140737488355328) : NdsAt w a m N := by
  subst hm
  refine ⟨rfl, hx, ?_⟩
  obtain ⟨cs, h1, h2, h3, h4⟩ := h
  rcases h3.2 with ⟨q, q2⟩ | ⟨g, cap, cur, q, hb, hcur, hc, rest⟩
  · injection q with q1 q2 q3; exact .inl q2
  · injection q with q1 q2 q3
    refine .inr ⟨g, 0, q1, ⟨fun i x hx => ?_⟩⟩
    have hi := (List.getElem?_eq_some_iff.1 hx).1
    have hc2 := List.getElem?_eq_getElem (l := cs) (i := i) (by omega)
    obtain ⟨F, ⟨e1, _⟩, _⟩ := h4 i _ _ hx hc2
    subst q1
    have f0 := flatten_get h2 i hc2 0 (by omega); have f1 := flatten_get h2 i hc2 1 (by omega); have f2 := flatten_get h2 i hc2 2 (by omega)
    rw [e1] at f0 f1 f2
    have z0 := h3.cellAt (i * 3) (by omega); have z1 := h3.cellAt (i * 3 + 1) (by omega); have z2 := h3.cellAt (i * 3 + 2) (by omega)
    rw [Nat.zero_add]
    exact ⟨by rw [z0]; exact f0, by rw [z1]; exact f1, by rw [z2]; exact f2⟩
structure ValI (w : World) (O n : Nat) (f : Nat → Int) : Prop where
 lt : O < w.heap.size
 at_ : ∀ k, k < n → BoxAt w O k (.int .i64 (f k))
theorem ValI.ext {w w' : World} {O n : Nat} {f : Nat → Int} (h : ValI w O n f) (e : Ext w w') : ValI w' O n f := ⟨nl_ h.lt e.size, fun k hk => BoxAt.ext e (h.at_ k hk)⟩
theorem ValI.turn {P : Nat} {w w' : World} {O n : Nat} {f : Nat → Int} (h : ValI w O n f) (t : Turns P w w') (hb : P ≠ O) : ValI w' O n f := ⟨by rw [t.size]; exact h.lt, fun k hk => t.box hb (h.at_ k hk)⟩
theorem ValI.turnM {P : Nat} {w w' : World} {O n : Nat} {f : Nat → Int} (h : ValI w O n f) (t : TurnsM P w w') : ValI w' O n f := ⟨by rw [t.size]; exact h.lt, fun k hk => t.mv0.box (h.at_ k hk)⟩
theorem ValI.wr {X : Nat → Prop} {w w' : World} {O n : Nat} {f : Nat → Int} (h : ValI w O n f) (t : Wr X w w') (hb : ¬ X O) : ValI w' O n f := ⟨nl_ h.lt t.size, fun k hk => t.box hb (h.at_ k hk)⟩
theorem ValI.set {w X : World} {O n j : Nat} {f : Nat → Int} {v : Int} (h : ValI w O n f) (t : Turns O w X) (hv : BoxAt X O j (.int .i64 v)) (hk : ∀ i x, i ≠ j → BoxAt w O i x → BoxAt X O i x) : ValI X O n (upd f j v) :=
 ⟨by rw [t.size]; exact h.lt, fun k hn => by
  unfold upd
  by_cases e : k = j
  · subst e; rw [if_pos rfl]; exact hv
  · rw [if_neg e]; exact hk k _ e (h.at_ k hn)⟩
theorem ex_make {P : Program} {ev : Operand → Value} {o : Oper} {w X : World} {t : TypeId} {x y : Operand} {a b v : Value} (hop : o.op = .makeSlice t x y) (hx : ev x = a) (hy : ev y = b) (h : (Instr.makeSlice t a b).run P w = .ok v X) : (execOp ev o).run P w = .ok (.value v) X := by
 simp [execOp, hop, hx, hy, h, Result.andThen]
theorem run_makeI (w : World) {n : Nat} (hn : n ≤ 1000000) : ∃ O X, (Instr.makeSlice 24 (.int .i64 ((n : Nat) : Int)) (.int .i64 ((n : Nat) : Int))).run Tryz.prog w = .ok (.slice (some ⟨O, 0, none⟩) n n) X ∧ w.heap.size = O ∧ ValI X O n (fun _ => 0) ∧ Ext w X := by
 have hi : (Tryz.prog.info? 3).map (fun i => (i.zero, i.size, i.bytes)) = some (some (.int .i64 0), 1, 8) := by kernel_rfl
 obtain ⟨i, hi, hz0, hz1, hz2⟩ := info_parts hi
 have hr := run_make (P := Tryz.prog) w 24 3 i (.int .i64 0) Tryz.underlying24 hi hz0 .i64 .i64 ((n : Nat) : Int) ((n : Nat) : Int) (by omega) (Int.le_refl _) (by rw [hz2]; omega) (by omega)
 rw [Int.toNat_natCast, hz1, Nat.mul_one] at hr
 refine ⟨_, _, hr, rfl, ⟨by simp, fun k hk => ⟨?_, by simp [go_sem]⟩⟩, Ext.alloc (er_ _) _⟩
 rw [cell_of_row _ _ k _ 3 (0, 0) (heap_alloc_new w _)]
 have h2 : (madeCells (Value.int .i64 0).cells n).toList = List.replicate n (.int .i64 0) := by
  show (madeCells #[Value.int .i64 0] n).toList = _
  simp [madeCells]
  refine List.ext_getElem (by simp) fun j h1 h2 => ?_
  simp [Nat.mod_one]
 rw [← Array.getElem?_toList, h2, List.getElem?_replicate, if_pos hk]
instance {w w' : World} {b o : Nat} {N : List Nod} : MvC w w' (NdB w b o N) (NdB w' b o N) := ⟨fun e h => h.ext e⟩
instance {w w' : World} {a : Option Addr} {m : Nat} {N : List Nod} : MvC w w' (NdsAt w a m N) (NdsAt w' a m N) := ⟨fun e h => h.ext e⟩
instance {w w' : World} {O n : Nat} {f : Nat → Int} : MvC w w' (ValI w O n f) (ValI w' O n f) := ⟨fun e h => h.ext e⟩
end Go.Proofs.YtpfajhcdfgpgmaaGreatDoor

namespace Go.Proofs.YtpfajhcdfgpgmaaGreatDoor
open Bdd (ix rwN dens)
variable {E S s : Int} {O P i m : Nat} {T T0 : List Bdd.D} {N : List Nod} {f : Nat → Int}
set_option maxRecDepth 1000000
set_option maxHeartbeats 4000000
set_option synthInstance.maxHeartbeats 0
set_option synthInstance.maxSize 9999
open Go.RowKit
theorem Bdd.Str.evn {N : List Bdd.Row} (h : Bdd.Str E S N) (hi : i < N.length) : ∃ e : Nat, (rwN N i).1 = (e : Int) := ⟨(rwN N i).1.toNat, by
 obtain ⟨_, _, ⟨h1, _⟩, _⟩ := h.n i hi
 omega⟩
theorem Bdd.Str.kids {N : List Bdd.Row} (h : Bdd.Str E S N) (hi : i < N.length) : (-2 ≤ (rwN N i).2.1 ∧ (rwN N i).2.1 ≤ (i : Int) - 1) ∧ (-2 ≤ (rwN N i).2.2 ∧ (rwN N i).2.2 ≤ (i : Int) - 1) := ⟨(h.n i hi).1.1, (h.n i hi).2.1.1⟩
theorem at_neg (w : World) (h1 : -2 ≤ s) (h2 : s < 0) : Calls Tryz.prog 98 #[iv s, pw P 0] w fun e w' => e = .returned (iv (ix T (Bdd.dat (dens (N.take i)) s))) ∧ Ext w w' := by
 refine calls_cw 11 [(1, pw P 0), (0, iv s)] Tryz.func98 rfl Tryz.ntmps98 (by kernel_rfl) (by kernel_rfl) (fun L => ?_);have hE := er_ w;refine zc (zp (pT (iv 0) ?_));refine zn (zc (zc (zp (pT (iv s) ?_))));refine pU (.bool true) (ed ((s : Int) < (0 : Int)) (by omega)) ?_;refine zn (zt ?_);refine zc (zp (pD (iv s) (iv s) ?_));refine zn (ct_ (qt (zR (iv s) ?_)));exact ⟨congrArg (fun z => Ending.returned (Value.int .i64 z)) (Bdd.Ld.neg h1 h2), hE⟩
theorem at_pos {j : Nat} (w : World) (hb : BoxAt w P 0 (sv O 0 m m)) (ha : ValI w O m f) (hd : Bdd.Ld T0 N i T f) (hj : j < i) (hi : i ≤ m) : Calls Tryz.prog 98 #[iv j, pw P 0] w fun e w' => e = .returned (iv (ix T (Bdd.dat (dens (N.take i)) ((j : Nat) : Int)))) ∧ Ext w w' := by
 have hOl := ha.lt;have hPl := hb.lt;refine calls_cw 11 [(1, pw P 0), (0, iv j)] Tryz.func98 rfl Tryz.ntmps98 (by kernel_rfl) (by kernel_rfl) (fun L => ?_);have hE := er_ w;refine zc (zp (pT (iv 0) ?_));refine zn (zc (zc (zp (pT (iv j) ?_))));refine pU (.bool false) (en (((j : Nat) : Int) < (0 : Int)) (by omega)) ?_;refine zn (zf ?_);refine cs_ (zq (zc (zp (pU (sv O 0 m m) (xl (ld24 (hb.1))) ?_))));refine pT (iv j) ?_;refine pU (pw O j) (xi (sv O 0 m m) (iv j) (ix24z (k := j) (by omega))) ?_;refine pU (iv (f j)) (xl (ld3 ((ha.at_ j (by omega)).1))) ?_;refine pT (iv (f j)) ?_;refine zn (ct_ (zR (iv (f j)) ?_));exact ⟨congrArg (fun z => Ending.returned (Value.int .i64 z)) (hd.pos hj), hE⟩
theorem at_c (w : World) (hb : BoxAt w P 0 (.slice (some ⟨O, 0, none⟩) m m)) (ha : ValI w O m f) (hd : Bdd.Ld T0 N i T f) (h1 : -2 ≤ s) (h2 : s ≤ (i : Int) - 1) (hi : i ≤ m) : Calls Tryz.prog 98 #[.int .i64 s, .pointer (some ⟨P, 0, none⟩)] w fun e w' => e = .returned (.int .i64 (ix T (Bdd.dat (dens (N.take i)) s))) ∧ Ext w w' := by
  rcases Int.lt_or_le s 0 with q | q
  · exact at_neg w h1 q
  · obtain ⟨j, rfl⟩ : ∃ j : Nat, s = j := ⟨s.toNat, by omega⟩
    exact at_pos w hb ha hd (by omega) hi
theorem load_c {n0 B K n : Nat} {v : Value} {w0 : World} {a : Option Addr} {ml : Nat} (c : Nat) (w : World) (hB : Bld w n0 B K n v T) (H : NdsAt w0 a ml N) (e0 : Ext w0 w) (h0 : w0.heap.size ≤ n0) (hstr : Bdd.Str ((n : Nat) : Int) S N) (hT : T.length ≤ 900000000000) (hn : n ≤ 16) : Calls Tryz.prog 57 #[pw B 0, mw n S a ml c] w fun e w' => ∃ v' T', e = .returned (iv (ix T' (Bdd.tree S N))) ∧ BS No B K v w v' w' ∧ Bld w' n0 B K n v' T' ∧ Bdd.Mem T' (Bdd.tree S N) ∧ (∃ S, T' = T ++ S) ∧ T'.length ≤ T.length + ml := by
 have Cd := e0.size;have Bu : BS No B K v w v w := BS.refl _ _ _ _ _;have Bv := hB.lt;have Cz := hB.ge;obtain ⟨b, o, ha, hbr, hx⟩ := H.parts;have hln := H.len;have D7 := hstr.l;refine calls_cw 42 [(1, mw n S a ml c), (0, pw B 0)] Tryz.func57 rfl Tryz.ntmps57 (by kernel_rfl) (by kernel_rfl) (fun L => ?_);have hE := er_ w;refine zc (zp (pS (sw 42 #[iv n, iv S, .slice a ml c] ?_)));intro O3 X4 Cg D2 hb hbx;have ⟨B5, B6, B4⟩ := bq3 hbx;refine mv3 hb e0 hB Bu fun e0 hB Bu=>?_;have C2 := hb.size;have Ca := B5.lt;refine pT (iv 0) ?_;refine zn (zc (zp (pT (pw O3 2) ?_)));refine pU (.slice a ml c) (xl (ld40 (B4.1))) ?_;refine pT (iv ml) ?_;obtain ⟨O7, X8, D0, hO, Bk, hb⟩ := run_makeI X4 (n := ml) (by omega);have C0 := hO;clear hO;refine pS (sn_eff (v := sv O7 0 ml ml) (ex_make rfl (by kernel_rfl) (by kernel_rfl) D0) ?_);refine mv6 hb e0 hB Bu B5 B6 B4 fun e0 hB Bu B5 B6 B4=>?_;have Bi := hb.size;have Bw := Bk.lt;refine pS (sw 24 #[.slice none 0 0] ?_);intro Bh Cw Bf Ct hb hbx;have B0 := bq1 hbx;refine mv7 hb e0 hB Bu B5 B6 B4 Bk fun e0 hB Bu B5 B6 B4 Bk=>?_;have Bp := hb.size;have C7 := B0.lt;refine pP (zE Bh 0 (sv O7 0 ml ml) (st24 B0.1 B0.2) B0 ?_);intro Ck ho B0 hk;replace e0 := ho.ext e0 (by omega);replace hB := hB.turn ho (fun q => absurd (Bv _ q) (nn_ (Tq (Tq C2 Bi) (nq_ Bf))));replace Bu := Bu.turn ho (.inr (Tq (Tq C2 Bi) (nq_ Bf)));refine mq3 (ho.bx O3 (by omega)) B5 B6 B4 fun B5 B6 B4=>?_;replace Bk := Bk.turn ho (by omega);have Bl := nq_ ho.size.symm;clear ho hk;refine zn (zc (zp (pD (.func (.func 98) #[] #[pw Bh 0]) (.func (.func 98) #[] #[pw Bh 0]) ?_)));refine zn (zc (zc (zp (pT (pw O3 2) ?_))));refine pU (.slice a ml c) (xl (ld40 (B4.1))) ?_;refine pD (iv ml) (iv 0) ?_;refine zn (cK [0,3,5,6,15,16,17] (fun L => ?_));refine cb_ ?_;refine cw_loop [0, 3, 5, 6, 15, 16, 17] (fun ws' wr m => ∃ i : Nat, ∃ v2 : Value, ∃ T2 : List Bdd.D, ∃ f2 : Nat → Int, ws' = [(0, pw B 0), (3, pw O3 0), (5, pw Bh 0), (6, .func (.func 98) #[] #[pw Bh 0]), (15, .slice a ml c), (16, iv ml), (17, iv i)] ∧ m = ml - i ∧ Ck.heap.size ≤ wr.heap.size ∧ Ext w0 wr ∧ BoxAt wr O3 0 (iv n) ∧ BoxAt wr O3 1 (iv S) ∧ BoxAt wr O3 2 (.slice a ml c) ∧ BoxAt wr Bh 0 (sv O7 0 ml ml) ∧ Bld wr n0 B K n v2 T2 ∧ BS No B K v w v2 wr ∧ ValI wr O7 ml f2 ∧ i ≤ ml ∧ Bdd.Ld T N i T2 f2 ∧ ¬ BX B K v2 Bh ∧ ¬ BX B K v2 O3 ∧ ¬ BX B K v2 O7) (ws0 := [(0, pw B 0), (3, pw O3 0), (5, pw Bh 0), (6, .func (.func 98) #[] #[pw Bh 0]), (15, .slice a ml c), (16, iv ml), (17, iv 0)]) (by kernel_rfl) _ ⟨0, v, T, (fun _ => 0), rfl, rfl, nr_ _, e0, B5, B6, B4, B0, hB, Bu, Bk, Nat.zero_le _, (Bdd.Ld.zero _ _ _), (fun q => absurd (Bv _ q) (nn_ (Tq (Tq C2 Bi) (nq_ Bf)))), (fun q => absurd (Bv _ q) (nn_ (nq_ Cg))), (fun q => absurd (Bv _ q) (nn_ (Tq C2 (nq_ C0))))⟩ ?_;clear hB Bu B5 B6 B4 Bk B0 e0;rintro D8 L ws Cv ⟨i, v2, T2, f2, rfl, rfl, Bj, e0, B5, B6, B4, B0, C9, Cn, Co, hi, hd, C5, Bx, C6⟩;have Be := er_ Cv;have C1 := C9.lt;have C4 := C9.ge
 by_cases hlt : i < ml
 ·
  obtain rfl := ha (by omega);have hbl := hbr (by omega);refine zc (zp (pU (.bool true) (ed (((i : Nat) : Int) < ((ml : Nat) : Int)) (by omega)) ?_));refine zn (zc (zt ?_));refine cs_ (zq (zc (cb_ ?_)));refine zc (zp (pT (iv i) ?_));refine pU (pw b (o + i * 3)) (xi (sv b o ml c) (iv i) (ix40 (k := i) (by omega))) ?_;refine pU (nw ((rwN N i).1) ((rwN N i).2.1) ((rwN N i).2.2)) (xl (ld56 ((hx.ext e0).c0 (i := i) (by omega)) ((hx.ext e0).c1 (i := i) (by omega)) ((hx.ext e0).c2 (i := i) (by omega)))) ?_;refine pS (sw 56 #[iv 0, iv 0, iv 0] ?_);intro Bm Cx Bg Cu hb hbx;have ⟨B1, B2, B3⟩ := bq3 hbx;refine mv6 hb e0 Be B5 B6 B4 B0 fun e0 Be B5 B6 B4 B0=>?_;have Bz := hb.size;have Ch := B1.lt;refine pT (iv i) ?_;refine pP (sn_setK3 (O := Bm) (j := 0) (v0 := iv ((rwN N i).1)) (v1 := iv ((rwN N i).2.1)) (v2 := iv ((rwN N i).2.2)) (xt (pw Bm 0) (nw ((rwN N i).1) ((rwN N i).2.1) ((rwN N i).2.2)) (st56 B1.1 B1.2 B2.1 B2.2 B3.1 B3.2)) B1 B2 B3 ?_);intro Cm ho B1 B2 B3 hk;replace e0 := ho.ext e0 (by omega);replace Be := ho.ext Be (nq_ Bg);refine mq3 (ho.bx O3 (by omega)) B5 B6 B4 fun B5 B6 B4=>?_;replace B0 := ho.box (by omega) B0;have Bq := nq_ ho.size.symm;clear ho hk;refine pl_nil (qw_then ?_);have Bc := (C9.ext Be);have B8 := (Cn.ext Be);have B7 := (Co.ext Be);obtain ⟨e, he⟩ := hstr.evn (i := i) (by omega);have hki := hstr.kids (i := i) (by omega);have hlv := hstr.lev (i := i) (by omega) he;rw [Int.toNat_natCast] at hlv;have hdl := hd.l;replace B1 : BoxAt Cm Bm 0 (iv e) := he ▸ B1;refine dT (fun w' => w'.cell? ⟨Bh, 0, none⟩ = some (sv O7 0 ml ml) ∧ w'.cell? ⟨Bm, 0, none⟩ = some (iv e) ∧ w'.cell? ⟨Bm, 1, none⟩ = some (iv ((rwN N i).2.1)) ∧ w'.cell? ⟨Bm, 2, none⟩ = some (iv ((rwN N i).2.2))) (⟨B0.1, B1.1, B2.1, B3.1⟩) (fun ops Q D6 hb hL hR hK => ?_);refine mv9 hb e0 B5 B6 B4 B0 Bc B8 B7 B1 fun e0 B5 B6 B4 B0 Bc B8 B7 B1=>?_;refine mv2 hb B2 B3 fun B2 B3=>?_;have Br := hb.size;have hS := A4 B0.1 B1.1 B2.1 B3.1;refine wM 0 (sv O7 0 ml ml) hR (fun w hS => ld24 (hS.1)) hS ?_;refine wW 1 (iv i) 2 (pw B 0) hR hS ?_;refine wV 3 (pw Bm 0) hR hS ?_;refine wM 4 (iv e) hR (fun w hS => ld3 (hS.2.1)) hS ?_;refine wW 5 (.func (.func 98) #[] #[pw Bh 0]) 6 (pw Bm 1) hR hS ?_;refine wM 7 (iv ((rwN N i).2.1)) hR (fun w hS => ld3 (hS.2.2.1)) hS ?_;refine wW 9 (.func (.func 98) #[] #[pw Bh 0]) 10 (pw Bm 2) hR hS ?_;refine wM 11 (iv ((rwN N i).2.2)) hR (fun w hS => ld3 (hS.2.2.2)) hS ?_;refine wC 8 98 #[iv ((rwN N i).2.1), pw Bh 0] hR ((at_c _ B0 B7 hd (hki.1.1) (hki.1.2) (by omega)).mono ?_);rintro e D9 ⟨rfl, hb⟩;refine mv9 hb e0 B5 B6 B4 B0 Bc B8 B7 B1 fun e0 B5 B6 B4 B0 Bc B8 B7 B1=>?_;refine mv2 hb B2 B3 fun B2 B3=>?_;have Bs := hb.size;refine ⟨_, rfl, ⟨B0.1, B1.1, B2.1, B3.1⟩, ?_⟩;refine wC 12 98 #[iv ((rwN N i).2.2), pw Bh 0] hR ((at_c _ B0 B7 hd (hki.2.1) (hki.2.2) (by omega)).mono ?_);rintro e Da ⟨rfl, hb⟩;refine mv9 hb e0 B5 B6 B4 B0 Bc B8 B7 B1 fun e0 B5 B6 B4 B0 Bc B8 B7 B1=>?_;refine mv2 hb B2 B3 fun B2 B3=>?_;have Bt := hb.size;refine ⟨_, rfl, ⟨B0.1, B1.1, B2.1, B3.1⟩, ?_⟩;refine wC 13 88 #[pw B 0, iv e, iv (ix T2 (Bdd.dat (dens (N.take i)) (rwN N i).2.1)), iv (ix T2 (Bdd.dat (dens (N.take i)) (rwN N i).2.2))] hR ((node_c (e := e) (a := (Bdd.dat (dens (N.take i)) (rwN N i).2.1)) (b := (Bdd.dat (dens (N.take i)) (rwN N i).2.2)) _ Bc hlv.1 hlv.2.1 hlv.2.2 (hd.mem hki.1.2) (hd.mem hki.2.2) (by omega) hn).mono ?_);rintro e D5 ⟨D4, rfl, Ba, Bo⟩;replace e0 := Ba.wr.ext e0 (fun k q => q.elim (fun q => Tq (Tq (nr_ _) h0) (C4 k q)) (fun q => q.elim));replace B5 := Ba.wr.box (fun q => q.elim Bx id) B5;replace B6 := Ba.wr.box (fun q => q.elim Bx id) B6;replace B4 := Ba.wr.box (fun q => q.elim Bx id) B4;replace B0 := Ba.wr.box (fun q => q.elim C5 id) B0;replace B8 := B8.trans Ba;replace B7 := B7.wr Ba.wr (fun q => q.elim C6 id);have q9 := fun ⦃j : Nat⦄ ⦃v : Value⦄ (h : BoxAt _ Bm j v) => Ba.wr.box (fun q => q.elim (fun q => absurd (C1 _ q) (nn_ (nq_ Bg))) id) h
  replace B1 := q9 B1;replace B2 := q9 B2;replace B3 := q9 B3;clear q9;have Ci := Ba.nx C5 (by omega);have D3 := Ba.nx (fun q => absurd (C1 _ q) (nn_ (nq_ Bg))) (by omega);have Cj := Ba.nx Bx (by omega);have C8 := Ba.nx C6 (by omega);have Ce := Ba.wr.size;have Cq := Bo.lt;have Cp := Bo.ge;have hS := A4 B0.1 B1.1 B2.1 B3.1;refine ⟨_, rfl, hS, ?_⟩;refine wL 14 (pw O7 i) hR (fun w _ => ex_index (p := sv O7 0 ml ml) (i := iv i) rfl (by kernel_rfl) (by kernel_rfl) (ix24z (k := i) (by omega))) hS ?_;have hka := B7.at_ i (by omega);refine wS 15 hR (sn_set (O := O7) (j := i) (v := iv (ix (Bdd.add T2 (Bdd.mk e (Bdd.dat (dens (N.take i)) (rwN N i).2.1) (Bdd.dat (dens (N.take i)) (rwN N i).2.2))) (Bdd.mk e (Bdd.dat (dens (N.take i)) (rwN N i).2.1) (Bdd.dat (dens (N.take i)) (rwN N i).2.2)))) (ex_store (p := pw O7 i) (v := iv (ix (Bdd.add T2 (Bdd.mk e (Bdd.dat (dens (N.take i)) (rwN N i).2.1) (Bdd.dat (dens (N.take i)) (rwN N i).2.2))) (Bdd.mk e (Bdd.dat (dens (N.take i)) (rwN N i).2.1) (Bdd.dat (dens (N.take i)) (rwN N i).2.2)))) rfl (by kernel_rfl) (by kernel_rfl) (st3 hka.1 hka.2)) hka ?_);intro Cy ho C3 hk;have Cb := B7.set ho C3 hk;replace e0 := ho.ext e0 (Tq (Tq Cd C2) (nq_ C0));refine mq3 (ho.bx O3 (by omega)) B5 B6 B4 fun B5 B6 B4=>?_;replace B0 := ho.box (by omega) B0;replace B8 := B8.turn ho (.inr (Tq C2 (nq_ C0)));refine mq3 (ho.bx Bm (by omega)) B1 B2 B3 fun B1 B2 B3=>?_;replace Bo := Bo.turn ho C8;have Cf := nq_ ho.size.symm;clear ho hka C3 hk;refine ⟨⟨B0.1, B1.1, B2.1, B3.1⟩, ?_⟩;have Cc := hd.step (by omega) he (t := Bdd.mk e (Bdd.dat (dens (N.take i)) (rwN N i).2.1) (Bdd.dat (dens (N.take i)) (rwN N i).2.2)) rfl (f' := upd f2 i (ix (Bdd.add T2 (Bdd.mk e (Bdd.dat (dens (N.take i)) (rwN N i).2.1) (Bdd.dat (dens (N.take i)) (rwN N i).2.2))) (Bdd.mk e (Bdd.dat (dens (N.take i)) (rwN N i).2.1) (Bdd.dat (dens (N.take i)) (rwN N i).2.2)))) (fun j => rfl);refine we hL hR hK ?_;refine qw_block (zq (cK [0,3,5,6,15,16,17] (fun L => ?_)));refine zp (pU (nv (i + 1)) (ew (by omega) (by omega)) ?_);refine pT (nv (i + 1)) ?_;refine pl_nil (zr [0, 3, 5, 6, 15, 16, 17] _ ?_ ⟨(i + 1), D4, ((Bdd.add T2 (Bdd.mk e (Bdd.dat (dens (N.take i)) (rwN N i).2.1) (Bdd.dat (dens (N.take i)) (rwN N i).2.2)))), (upd f2 i (ix (Bdd.add T2 (Bdd.mk e (Bdd.dat (dens (N.take i)) (rwN N i).2.1) (Bdd.dat (dens (N.take i)) (rwN N i).2.2))) (Bdd.mk e (Bdd.dat (dens (N.take i)) (rwN N i).2.1) (Bdd.dat (dens (N.take i)) (rwN N i).2.2)))), rfl, rfl, (by omega), e0, B5, B6, B4, B0, Bo, B8, Cb, by omega, Cc, Ci, Cj, C8⟩);omega
 ·
  have hin : i = ml := by omega
  refine zc (zp (pU (.bool false) (en (((i : Nat) : Int) < ((ml : Nat) : Int)) (by omega)) ?_));refine zn (zc (zf ?_));refine cx_ (qx (qx (qo (zq (zc (zp (pD (.func (.func 98) #[] #[pw Bh 0]) (pw O3 1) ?_)))))));refine pU (iv S) (xl (ld3 (B6.1))) ?_;refine pS (sc 98 #[iv S, pw Bh 0] ((at_c _ B0 Co hd hstr.s.1 (Int.le_trans hstr.s.2 (by omega)) hi).mono ?_));rintro e Db ⟨rfl, hb⟩;replace Be := Be.trans hb;have D1 := hb.size;refine ⟨_, rfl, pT (iv (ix T2 (Bdd.dat (dens (N.take i)) S))) ?_⟩;refine zn (ct_ (zR (iv (ix T2 (Bdd.dat (dens (N.take i)) S))) ?_));have htk : N.take i = N := by rw [hin, ← hln, List.take_length]
  have hmm := hd.mem (s := S) (Int.le_trans hstr.s.2 (by omega));rw [htk] at hmm;exact ⟨_, _, by rw [htk]; rfl, (Cn.ext Be), (C9.ext Be), hmm, hd.p, (by have := hd.l; omega)⟩
end Go.Proofs.YtpfajhcdfgpgmaaGreatDoor

/- Contract of package machine: the nodes of a machine, in order. -/
namespace Go.Proofs.YtpfajhcdfgpgmaaGreatDoor
open Go.RowKit

def Placed (T P : List Bdd.D) (L : List (Int × Int)) : Prop := ∀ t, Bdd.Mem T t → getM (Bdd.ix T t) L = if Bdd.Mem P t then some (Bdd.ix P t) else none
theorem Placed.put {T P : List Bdd.D} {L : List (Int × Int)} (h : Placed T P L) {e : Nat} {a b : Bdd.D} (ht : Bdd.Mem T (.nd e a b)) (hn : ¬ Bdd.D.nd e a b ∈ P) : Placed T (P ++ [.nd e a b]) (updM (Bdd.ix T (.nd e a b)) ((P.length : Nat) : Int) L) := fun u hu => by
  rw [getM_updM]
  by_cases q : Bdd.ix T (.nd e a b) = Bdd.ix T u
  · obtain rfl := Bdd.ix_inj ht hu q
    rw [if_pos rfl, if_pos (show Bdd.Mem _ (Bdd.D.nd e a b) from List.mem_append_right _ (List.mem_singleton.2 rfl)), Bdd.ix_new hn]
  · rw [if_neg q, h u hu]
    by_cases hm : Bdd.Mem P u
    · rw [if_pos hm, if_pos (hm.app _), Bdd.ix_app hm]
    · rw [if_neg hm, if_neg]
      intro hm2
      match u, hm, hm2 with
      | .leaf _, hm, _ => exact hm trivial
      | .nd f c d, hm, hm2 =>
        rcases List.mem_append.1 (show Bdd.D.nd f c d ∈ P ++ [.nd e a b] from hm2) with z | z
        · exact hm z
        · rw [List.mem_singleton] at z; exact q (by rw [z])
structure Mac (w : World) (n₀ OB PM n : Nat) (v : Value) (T P : List Bdd.D) : Prop where
  b0 : BoxAt w OB 0 (.int .i64 ((n : Nat) : Int))
  b1 : BoxAt w OB 1 (.int .i64 0)
  b2 : BoxAt w OB 2 v
  own : OwnL nodR n₀ 56 3 v w (Bdd.rows P)
  map : ∃ L, MapS intV intV w PM L ∧ Placed T P L
  cl : Bdd.Cl n P
  sub : ∀ x ∈ P, x ∈ T
  nv : v.ownBlock ≠ some OB
  lb : n₀ ≤ OB
  lk : n₀ ≤ PM
theorem Mac.wr {X : Nat → Prop} {w w' : World} {n₀ OB PM n : Nat} {v : Value} {T P : List Bdd.D} (h : Mac w n₀ OB PM n v T P) (hw : Wr X w w') (hx : ∀ k, BX OB PM v k → ¬ X k) : Mac w' n₀ OB PM n v T P :=
  ⟨hw.box (hx _ (.inl rfl)) h.b0, hw.box (hx _ (.inl rfl)) h.b1, hw.box (hx _ (.inl rfl)) h.b2, hw.own (fun b hb => hx _ (.inr (.inr hb))) (fun _ _ _ q b hb => by rw [q.2] at hb; cases hb) h.own, by
    obtain ⟨L, h1, h2⟩ := h.map
    exact ⟨L, hw.map (hx _ (.inr (.inl rfl))) h1, h2⟩, h.cl, h.sub, h.nv, h.lb, h.lk⟩
theorem Mac.ext {w w' : World} {n₀ OB PM n : Nat} {v : Value} {T P : List Bdd.D} (h : Mac w n₀ OB PM n v T P) (e : Ext w w') : Mac w' n₀ OB PM n v T P := h.wr (X := fun _ => False) (Wr.of_ext e) fun _ _ q => q
theorem Mac.turn {O : Nat} {w w' : World} {n₀ OB PM n : Nat} {v : Value} {T P : List Bdd.D} (h : Mac w n₀ OB PM n v T P) (t : Turns O w w') (hO : ¬ BX OB PM v O) : Mac w' n₀ OB PM n v T P := h.wr (Wr.of_turns t) fun k hk q => hO ((show k = O from q) ▸ hk)
theorem Mac.turnM {O : Nat} {w w' : World} {n₀ OB PM n : Nat} {v : Value} {T P : List Bdd.D} (h : Mac w n₀ OB PM n v T P) (t : TurnsM O w w') (hO : ¬ BX OB PM v O) : Mac w' n₀ OB PM n v T P := h.wr (Wr.of_turnsM t) fun k hk q => hO ((show k = O from q) ▸ hk)
theorem Mac.lt {w : World} {n₀ OB PM n : Nat} {v : Value} {T P : List Bdd.D} (h : Mac w n₀ OB PM n v T P) : ∀ k, BX OB PM v k → k < w.heap.size := fun k hk => by
  rcases hk with rfl | rfl | hk
  · exact h.b0.lt
  · obtain ⟨L, h1, _⟩ := h.map; exact h1.lt
  · exact h.own.lt k hk
theorem Mac.ge {w : World} {n₀ OB PM n : Nat} {v : Value} {T P : List Bdd.D} (h : Mac w n₀ OB PM n v T P) : ∀ k, BX OB PM v k → n₀ ≤ k := fun k hk => by
  rcases hk with rfl | rfl | hk
  · exact h.lb
  · exact h.lk
  · exact h.own.base k hk
theorem own_mapK {n₀ K : Nat} {κ β : Type} {kv : κ → Value} {vv : β → Value} {L : List (κ × β)} {v : Value} {w : World} {R : List Nod} (h : OwnL nodR n₀ 56 3 v w R) (hm : MapS kv vv w K L) : v.ownBlock ≠ some K := fun e => by
  obtain ⟨es, c, q⟩ := hm
  obtain ⟨cs, h1, h2, h3, h4⟩ := h
  rcases h3.2 with ⟨rfl, _⟩ | ⟨g, cap, cur, rfl, hb, hcur, _⟩
  · cases e
  · cases e
    have := q.at_
    rw [hcur] at this
    cases this
theorem own_sl {n₀ : Nat} {v : Value} {w : World} {R : List Nod} (h : OwnL nodR n₀ 56 3 v w R) : ∃ a c, v = .slice a R.length c ∧ R.length ≤ c := by
  obtain ⟨cs, h1, h2, h3, h4⟩ := h
  rcases h3.2 with ⟨q, q2⟩ | ⟨g, cap, cur, q, hb, hcur, hc, rest⟩
  · exact ⟨none, 0, by rw [q]; congr 1; exact q2.symm, by omega⟩
  · exact ⟨_, cap, q, hc⟩
theorem Bdd.place_len {n : Nat} {T P : List Bdd.D} (h : Bdd.Cl n P) (hs : ∀ x ∈ P, x ∈ T) : P.length ≤ T.length := Bdd.nodup_len h.nd hs
theorem ex_ins {P : Program} {ev : Operand → Value} {o : Oper} {w X : World} {t : TypeId} {m x y : Operand} {mv kx vx : Value} (hop : o.op = .insert t m x y) (hm : ev m = mv) (hx : ev x = kx) (hy : ev y = vx) (h : (Instr.mapUpdate t mv kx vx).run P w = .ok () X) : (execOp ev o).run P w = .ok .skip X := by
  simp [execOp, hop, hm, hx, hy, h, Result.andThen]
structure MC (w : World) (B OB PM PB BB CJ : Nat) : Prop where
  cp : BoxAt w PB 0 (.map (some PM))
  cb : BoxAt w BB 0 (.pointer (some ⟨B, 0, none⟩))
  cj : BoxAt w CJ 0 (.func (.func 97) #[] #[.pointer (some ⟨PB, 0, none⟩), .pointer (some ⟨BB, 0, none⟩), .pointer (some ⟨CJ, 0, none⟩), .pointer (some ⟨OB, 0, none⟩)])
structure MX (OB PM : Nat) (v : Value) (PB BB CJ : Nat) : Prop where
  p : ¬ BX OB PM v PB
  b : ¬ BX OB PM v BB
  j : ¬ BX OB PM v CJ
section
variable {OB PM : Nat} {v v' v'' : Value} {w w' X : World}
theorem BS.turnX {O : Nat} (h : BS No OB PM v w v' w') (t : Turns O w' X) (hO : BX OB PM v' O) : BS No OB PM v w v' X := h.trans ⟨(Wr.of_turns t).mono fun k q => .inl ((show k = O from q) ▸ hO), fun _ q => .inl q⟩
theorem BS.turnXM {O : Nat} (h : BS No OB PM v w v' w') (t : TurnsM O w' X) (hO : BX OB PM v' O) : BS No OB PM v w v' X := h.trans ⟨(Wr.of_turnsM t).mono fun k q => .inl ((show k = O from q) ▸ hO), fun _ q => .inl q⟩
theorem BS.appX {r : Option Nat} (h : BS No OB PM v w v' w') (g : w'.grownBy X r) (hr : ∀ k, r = some k → BX OB PM v' k) : BS No OB PM v w v' X := h.trans ⟨(Wr.of_grown g).mono fun k q => .inl (hr k q), fun _ q => .inl q⟩
theorem BS.nwX {u : Value} {W : World} (h : BS No OB PM v w v' w') (hv : v' = u) (hn : ∀ k, v''.ownBlock = some k → u.ownBlock = some k ∨ W.heap.size ≤ k) (hW : w.heap.size ≤ W.heap.size) : BS No OB PM v w v'' w' := ⟨h.wr, fun k q => (hn k q).elim (fun z => h.nw k (hv ▸ z)) fun z => .inr (Nat.le_trans hW z)⟩
end
set_option maxRecDepth 1000000 in
set_option maxHeartbeats 4000000 in
theorem come_c : ∀ (mm : Nat) {t : Bdd.D} {nb n0 B K OB PM PB BB CJ n : Nat} {vb v : Value} {T P : List Bdd.D} {w0 w : World} (_hB : Bld w0 nb B K n vb T) (_e0 : Ext w0 w) (_h0 : w0.heap.size ≤ n0) (_hM : Mac w n0 OB PM n v T P) (_hC : MC w B OB PM PB BB CJ) (_hX : MX OB PM v PB BB CJ) (_mt : Bdd.Mem T t) (_hsz : Bdd.sz t < mm) (_hT : T.length ≤ 1000000000000) (_hn : n ≤ 16), Calls Tryz.prog 97 #[.int .i64 (Bdd.ix T t), .pointer (some ⟨PB, 0, none⟩), .pointer (some ⟨BB, 0, none⟩), .pointer (some ⟨CJ, 0, none⟩), .pointer (some ⟨OB, 0, none⟩)] w fun e w' => ∃ v', e = .returned (.int .i64 (Bdd.ix (Bdd.post P t) t)) ∧ BS No OB PM v w v' w' ∧ Mac w' n0 OB PM n v' T (Bdd.post P t) := by
  intro mm
  induction mm with
  | zero => intro t nb n0 B K OB PM PB BB CJ n vb v T P w0 w hB e0 h0 hM hC hX mt hsz; omega
  | succ mm ih =>
    intro t nb n0 B K OB PM PB BB CJ n vb v T P w0 w hB e0 h0 hM hC hX mt hsz hT hn
    have hs0 := e0.size
    have hpl := Bdd.place_len hM.cl hM.sub
    obtain ⟨sa, sc, rfl, hsc, hcB⟩ := hB.sl
    have hlB := hB.b0.lt
    have hlPB := (hC.cp).lt
    have hlBB := (hC.cb).lt
    have hlCJ := (hC.cj).lt
    have hlOB := (hM.b0).lt
    have hnePB := Lib.hid (show OB ≠ PB from fun q => hX.p (.inl q.symm))
    have hneBB := Lib.hid (show OB ≠ BB from fun q => hX.b (.inl q.symm))
    have hneCJ := Lib.hid (show OB ≠ CJ from fun q => hX.j (.inl q.symm))
    have hS9 : BS No OB PM v w v w := BS.refl _ _ _ _ _
    have hXl1 := hM.lt
    have hXg2 := hM.ge
    have hPB := hC.cp
    have hBB := hC.cb
    have hCJ := hC.cj
    refine calls_cw 49 [(4, .pointer (some ⟨OB, 0, none⟩)), (3, .pointer (some ⟨CJ, 0, none⟩)), (2, .pointer (some ⟨BB, 0, none⟩)), (1, .pointer (some ⟨PB, 0, none⟩)), (0, .int .i64 (Bdd.ix T t : Int))] Tryz.func97 rfl Tryz.ntmps97 (by kernel_rfl) (by kernel_rfl) (fun L => ?_)
    have hE : Ext w w := Ext.refl w
    refine cw_seq ?_
    refine cw_plain ?_
    refine pl_take (.int .i64 0) rfl (by kernel_rfl) (by kernel_rfl) (by kernel_rfl) (by kernel_rfl) ?_
    refine pl_nil ?_
    refine qw_then ?_
    refine cw_seq ?_
    refine cw_seq ?_
    by_cases hm : Bdd.Mem P t
    ·
      obtain ⟨L3, hMp4, hPl5⟩ := (hM).map
      refine cw_plain ?_
      refine pl_take (.map (some PM)) rfl (by kernel_rfl) (by kernel_rfl) (by kernel_rfl) (ex_load rfl (by kernel_rfl) (ld133 (hPB.1))) ?_
      refine pl_take (.int .i64 (Bdd.ix T t : Int)) rfl (by kernel_rfl) (by kernel_rfl) (by kernel_rfl) (by kernel_rfl) ?_
      refine pl_take (.tuple #[.int .i64 (Bdd.ix P t : Int), .bool true]) rfl (by kernel_rfl) (by kernel_rfl) (by kernel_rfl) (ex_lookup rfl (by kernel_rfl) (by kernel_rfl) (lookup_is2 (run_lookup2 Tryz.underlying133 hMp4 int_law (Bdd.ix T t : Int) (zero_int _)) ((hPl5 t mt).trans (if_pos hm)))) ?_
      refine pl_take (.tuple #[.int .i64 (Bdd.ix P t : Int), .bool true]) rfl (by kernel_rfl) (by kernel_rfl) (by kernel_rfl) (by kernel_rfl) ?_
      refine pl_take (.int .i64 (Bdd.ix P t : Int)) rfl (by kernel_rfl) (by kernel_rfl) (by kernel_rfl) (by kernel_rfl) ?_
      refine pl_take (.bool true) rfl (by kernel_rfl) (by kernel_rfl) (by kernel_rfl) (by kernel_rfl) ?_
      refine pl_take (.int .i64 (Bdd.ix P t : Int)) rfl (by kernel_rfl) (by kernel_rfl) (by kernel_rfl) (by kernel_rfl) ?_
      refine pl_take (.bool true) rfl (by kernel_rfl) (by kernel_rfl) (by kernel_rfl) (by kernel_rfl) ?_
      refine pl_nil ?_
      refine qw_then ?_
      refine cw_seq ?_
      refine cw_plain ?_
      refine pl_take (.bool true) rfl (by kernel_rfl) (by kernel_rfl) (by kernel_rfl) (by kernel_rfl) ?_
      refine pl_nil ?_
      refine qw_then ?_
      refine cw_clean [0, 1, 2, 3, 4, 7, 16] (ws' := [(0, .int .i64 (Bdd.ix T t : Int)), (1, .pointer (some ⟨PB, 0, none⟩)), (2, .pointer (some ⟨BB, 0, none⟩)), (3, .pointer (some ⟨CJ, 0, none⟩)), (4, .pointer (some ⟨OB, 0, none⟩)), (7, .int .i64 (Bdd.ix P t : Int)), (16, .bool true)]) (by kernel_rfl) (fun L => ?_)
      refine cw_t (by kernel_rfl) ?_
      refine cw_seq ?_
      refine cw_plain ?_
      refine pl_take (.int .i64 (Bdd.ix P t : Int)) rfl (by kernel_rfl) (by kernel_rfl) (by kernel_rfl) (by kernel_rfl) ?_
      refine pl_take (.int .i64 (Bdd.ix P t : Int)) rfl (by kernel_rfl) (by kernel_rfl) (by kernel_rfl) (by kernel_rfl) ?_
      refine pl_nil ?_
      refine qw_then ?_
      refine cw_ret ?_
      refine qw_then_ret ?_
      refine qw_ret [.int .i64 (Bdd.ix P t : Int)] rfl ⟨(by kernel_rfl), trivial⟩ ?_
      rw [Bdd.post_of hm]
      exact ⟨_, rfl, hS9, hM⟩
    ·
      match t, mt, hm, hsz with
      | .leaf b, _, hm, _ => exact absurd trivial hm
      | .nd e a b, mt, hm, hsz =>
        obtain ⟨i, hix, hit, hig⟩ := Bdd.ix_nd mt
        obtain ⟨g, rfl, hcB2⟩ := hcB (by omega)
        obtain ⟨hg0, hg1, hg2⟩ := hcB2 i (Bdd.row T (.nd e a b)) (by unfold Bdd.rows; rw [List.getElem?_map, hig]; rfl)
        have hgl := World.block_lt_of_cell? _ _ hg0
        have hnm : ¬ Bdd.D.nd e a b ∈ P := hm
        have hka := hB.cl.kids mt
        simp only [Bdd.sz] at hsz
        obtain ⟨L6, hMp7, hPl8⟩ := (hM).map
        refine cw_plain ?_
        refine pl_take (.map (some PM)) rfl (by kernel_rfl) (by kernel_rfl) (by kernel_rfl) (ex_load rfl (by kernel_rfl) (ld133 (hPB.1))) ?_
        refine pl_take (.int .i64 (Bdd.ix T (.nd e a b) : Int)) rfl (by kernel_rfl) (by kernel_rfl) (by kernel_rfl) (by kernel_rfl) ?_
        refine pl_take (.tuple #[.int .i64 0, .bool false]) rfl (by kernel_rfl) (by kernel_rfl) (by kernel_rfl) (ex_lookup rfl (by kernel_rfl) (by kernel_rfl) (lookup_is2 (run_lookup2 Tryz.underlying133 hMp7 int_law (Bdd.ix T (.nd e a b) : Int) (zero_int _)) ((hPl8 _ mt).trans (if_neg hm)))) ?_
        refine pl_take (.tuple #[.int .i64 0, .bool false]) rfl (by kernel_rfl) (by kernel_rfl) (by kernel_rfl) (by kernel_rfl) ?_
        refine pl_take (.int .i64 0) rfl (by kernel_rfl) (by kernel_rfl) (by kernel_rfl) (by kernel_rfl) ?_
        refine pl_take (.bool false) rfl (by kernel_rfl) (by kernel_rfl) (by kernel_rfl) (by kernel_rfl) ?_
        refine pl_take (.int .i64 0) rfl (by kernel_rfl) (by kernel_rfl) (by kernel_rfl) (by kernel_rfl) ?_
        refine pl_take (.bool false) rfl (by kernel_rfl) (by kernel_rfl) (by kernel_rfl) (by kernel_rfl) ?_
        refine pl_nil ?_
        refine qw_then ?_
        refine cw_seq ?_
        refine cw_plain ?_
        refine pl_take (.bool false) rfl (by kernel_rfl) (by kernel_rfl) (by kernel_rfl) (by kernel_rfl) ?_
        refine pl_nil ?_
        refine qw_then ?_
        refine cw_clean [0, 1, 2, 3, 4, 7, 16] (ws' := [(0, .int .i64 (Bdd.ix T (.nd e a b) : Int)), (1, .pointer (some ⟨PB, 0, none⟩)), (2, .pointer (some ⟨BB, 0, none⟩)), (3, .pointer (some ⟨CJ, 0, none⟩)), (4, .pointer (some ⟨OB, 0, none⟩)), (7, .int .i64 0), (16, .bool false)]) (by kernel_rfl) (fun L => ?_)
        refine cw_f (by kernel_rfl) ?_
        refine cw_skip ?_
        refine qw_then ?_
        refine cw_seq ?_
        rw [hix]
        refine cw_plain ?_
        refine pl_take (.pointer (some ⟨B, 0, none⟩)) rfl (by kernel_rfl) (by kernel_rfl) (by kernel_rfl) (ex_load rfl (by kernel_rfl) (ld81 (hBB.1))) ?_
        refine pl_take (.pointer (some ⟨B, 0, none⟩)) rfl (by kernel_rfl) (by kernel_rfl) (by kernel_rfl) (by kernel_rfl) ?_
        refine pl_take (.pointer (some ⟨B, 1, none⟩)) rfl (by kernel_rfl) (by kernel_rfl) (by kernel_rfl) (by kernel_rfl) ?_
        refine pl_take (.slice (some ⟨g, 0, none⟩) T.length sc) rfl (by kernel_rfl) (by kernel_rfl) (by kernel_rfl) (ex_load rfl (by kernel_rfl) (ld40 ((BoxAt.ext e0 hB.b1).1))) ?_
        refine pl_take (.int .i64 (((i : Nat) : Int) : Int)) rfl (by kernel_rfl) (by kernel_rfl) (by kernel_rfl) (by kernel_rfl) ?_
        refine pl_take (.pointer (some ⟨g, i * 3, none⟩)) rfl (by kernel_rfl) (by kernel_rfl) (by kernel_rfl) (ex_index (p := .slice (some ⟨g, 0, none⟩) T.length sc) (i := .int .i64 ((i : Nat) : Int)) rfl (by kernel_rfl) (by kernel_rfl) (ix40z (k := i) (by omega))) ?_
        refine pl_take (.agg #[.int .i64 (((e : Nat) : Int) : Int), .int .i64 (Bdd.ix T a : Int), .int .i64 (Bdd.ix T b : Int)]) rfl (by kernel_rfl) (by kernel_rfl) (by kernel_rfl) (ex_load rfl (by kernel_rfl) (ld56 ((e0.cell hg0)) ((e0.cell hg1)) ((e0.cell hg2)))) ?_
        refine pl_step rfl (by kernel_rfl) (by kernel_rfl) (by kernel_rfl) (sn_new (us := #[.int .i64 0, .int .i64 0, .int .i64 0]) (t := 56) (by kernel_rfl) ?_)
        intro O9 X10 hO hOs hb hbx
        have hzO9 := hO; have hyO9 := hOs; clear hO hOs
        have bO9_0 : BoxAt X10 O9 0 (.int .i64 0) := hbx 0 _ rfl
        have bO9_1 : BoxAt X10 O9 1 (.int .i64 0) := hbx 1 _ rfl
        have bO9_2 : BoxAt X10 O9 2 (.int .i64 0) := hbx 2 _ rfl
        clear hbx
        replace e0 := e0.trans hb
        replace hM := hM.ext hb
        replace hS9 := hS9.ext hb
        replace hPB := BoxAt.ext hb hPB
        replace hBB := BoxAt.ext hb hBB
        replace hCJ := BoxAt.ext hb hCJ
        have hs11 := hb.size
        clear hb
        have lt12 := bO9_0.lt
        refine pl_put rfl (by kernel_rfl) (by kernel_rfl) (sn_setK3 (O := O9) (j := 0) (v0 := .int .i64 (((e : Nat) : Int) : Int)) (v1 := .int .i64 (Bdd.ix T a : Int)) (v2 := .int .i64 (Bdd.ix T b : Int)) (ex_store (p := .pointer (some ⟨O9, 0, none⟩)) (v := .agg #[.int .i64 (((e : Nat) : Int) : Int), .int .i64 (Bdd.ix T a : Int), .int .i64 (Bdd.ix T b : Int)]) rfl (by kernel_rfl) (by kernel_rfl) (st56 bO9_0.1 bO9_0.2 bO9_1.1 bO9_1.2 bO9_2.1 bO9_2.2)) bO9_0 bO9_1 bO9_2 ?_)
        intro X13 ho hv0 hv1 hv2 hk
        replace e0 := ho.ext e0 (Nat.le_trans hs0 (Nat.le_of_eq hzO9))
        replace hM := hM.turn ho (fun q => absurd (hXl1 _ q) (Nat.not_lt_of_le (Nat.le_of_eq hzO9)))
        replace hS9 := hS9.turn ho (.inr (Nat.le_of_eq hzO9))
        replace hPB := ho.box (Nat.ne_of_gt (Nat.lt_of_lt_of_le hlPB (Nat.le_of_eq hzO9))) hPB
        replace hBB := ho.box (Nat.ne_of_gt (Nat.lt_of_lt_of_le hlBB (Nat.le_of_eq hzO9))) hBB
        replace hCJ := ho.box (Nat.ne_of_gt (Nat.lt_of_lt_of_le hlCJ (Nat.le_of_eq hzO9))) hCJ
        have hs14 : X10.heap.size ≤ X13.heap.size := Nat.le_of_eq ho.size.symm
        clear ho hk bO9_0 bO9_1 bO9_2
        have bO9_0 := hv0; clear hv0
        have bO9_1 := hv1; clear hv1
        have bO9_2 := hv2; clear hv2
        refine pl_nil ?_
        refine qw_then ?_
        refine cw_clean [0, 1, 3, 4, 9] (ws' := [(0, .int .i64 (((i : Nat) : Int) : Int)), (1, .pointer (some ⟨PB, 0, none⟩)), (3, .pointer (some ⟨CJ, 0, none⟩)), (4, .pointer (some ⟨OB, 0, none⟩)), (9, .pointer (some ⟨O9, 0, none⟩))]) (by kernel_rfl) (fun L => ?_)
        refine cw_seq ?_
        refine cw_plain ?_
        refine pl_take (.func (.func 97) #[] #[.pointer (some ⟨PB, 0, none⟩), .pointer (some ⟨BB, 0, none⟩), .pointer (some ⟨CJ, 0, none⟩), .pointer (some ⟨OB, 0, none⟩)]) rfl (by kernel_rfl) (by kernel_rfl) (by kernel_rfl) (ex_load rfl (by kernel_rfl) (ld87 (hCJ.1))) ?_
        refine pl_take (.pointer (some ⟨O9, 1, none⟩)) rfl (by kernel_rfl) (by kernel_rfl) (by kernel_rfl) (by kernel_rfl) ?_
        refine pl_take (.int .i64 (Bdd.ix T a : Int)) rfl (by kernel_rfl) (by kernel_rfl) (by kernel_rfl) (ex_load rfl (by kernel_rfl) (ld3 (bO9_1.1))) ?_
        have hc18 := ih hB e0 h0 hM ⟨hPB, hBB, hCJ⟩ ⟨hX.p, hX.b, hX.j⟩ hka.1 (by omega) hT hn
        refine pl_step rfl (by kernel_rfl) (by kernel_rfl) (by kernel_rfl) (sn_call (f := 97) (args := #[.int .i64 (Bdd.ix T a : Int), .pointer (some ⟨PB, 0, none⟩), .pointer (some ⟨BB, 0, none⟩), .pointer (some ⟨CJ, 0, none⟩), .pointer (some ⟨OB, 0, none⟩)]) (by kernel_rfl) ((hc18).mono ?_))
        rintro e w20 ⟨v15, rfl, hs16, hM17⟩
        replace e0 := hs16.wr.ext e0 (fun k q => q.elim (fun q => Nat.le_trans (Nat.le_trans (Nat.le_refl _) h0) (hXg2 k q)) (fun q => q.elim))
        replace hS9 := hS9.trans hs16
        replace hPB := hs16.wr.box (fun q => q.elim hX.p id) hPB
        replace hBB := hs16.wr.box (fun q => q.elim hX.b id) hBB
        replace hCJ := hs16.wr.box (fun q => q.elim hX.j id) hCJ
        replace bO9_0 := hs16.wr.box (fun q => q.elim (fun q => absurd (hXl1 _ q) (Nat.not_lt_of_le (Nat.le_of_eq hzO9))) id) bO9_0
        replace bO9_1 := hs16.wr.box (fun q => q.elim (fun q => absurd (hXl1 _ q) (Nat.not_lt_of_le (Nat.le_of_eq hzO9))) id) bO9_1
        replace bO9_2 := hs16.wr.box (fun q => q.elim (fun q => absurd (hXl1 _ q) (Nat.not_lt_of_le (Nat.le_of_eq hzO9))) id) bO9_2
        have nx21 := hs16.nx (fun q => absurd (hXg2 _ q) (Nat.not_le_of_lt (Nat.lt_of_lt_of_le (Nat.lt_of_lt_of_le hlB (Nat.le_refl _)) h0))) (Nat.lt_of_lt_of_le hlB (Nat.le_trans hs0 (Nat.le_trans hs11 hs14)))
        have nx22 := hs16.nx hX.b (Nat.lt_of_lt_of_le hlBB (Nat.le_trans hs11 hs14))
        have nx23 := hs16.nx hX.j (Nat.lt_of_lt_of_le hlCJ (Nat.le_trans hs11 hs14))
        have nx24 := hs16.nx (fun q => absurd (hXl1 _ q) (Nat.not_lt_of_le (Nat.le_of_eq hzO9))) (Nat.lt_of_lt_of_le lt12 hs14)
        have nx25 := hs16.nx hX.p (Nat.lt_of_lt_of_le hlPB (Nat.le_trans hs11 hs14))
        have nx26 := hs16.nx (fun q => absurd (hXg2 _ q) (Nat.not_le_of_lt (Nat.lt_of_lt_of_le (Nat.lt_of_lt_of_le hgl (Nat.le_refl _)) h0))) (Nat.lt_of_lt_of_le hgl (Nat.le_trans hs0 (Nat.le_trans hs11 hs14)))
        have hs27 := hs16.wr.size
        have hXl28 := hM17.lt
        have hXg29 := hM17.ge
        refine ⟨_, rfl, ?_⟩
        refine pl_take (.pointer (some ⟨O9, 1, none⟩)) rfl (by kernel_rfl) (by kernel_rfl) (by kernel_rfl) (by kernel_rfl) ?_
        refine pl_put rfl (by kernel_rfl) (by kernel_rfl) (sn_set (O := O9) (j := 1) (v := .int .i64 (Bdd.ix (Bdd.post P a) a : Int)) (ex_store (p := .pointer (some ⟨O9, 1, none⟩)) (v := .int .i64 (Bdd.ix (Bdd.post P a) a : Int)) rfl (by kernel_rfl) (by kernel_rfl) (st3 bO9_1.1 bO9_1.2)) bO9_1 ?_)
        intro X30 ho hv0 hk
        replace e0 := ho.ext e0 (Nat.le_trans hs0 (Nat.le_of_eq hzO9))
        replace hS9 := hS9.turn ho (.inr (Nat.le_of_eq hzO9))
        replace hPB := ho.box (Nat.ne_of_gt (Nat.lt_of_lt_of_le hlPB (Nat.le_of_eq hzO9))) hPB
        replace hBB := ho.box (Nat.ne_of_gt (Nat.lt_of_lt_of_le hlBB (Nat.le_of_eq hzO9))) hBB
        replace hCJ := ho.box (Nat.ne_of_gt (Nat.lt_of_lt_of_le hlCJ (Nat.le_of_eq hzO9))) hCJ
        replace bO9_0 := hk 0 _ (by omega) bO9_0
        replace bO9_2 := hk 2 _ (by omega) bO9_2
        replace hM17 := hM17.turn ho nx24
        have hs31 : w20.heap.size ≤ X30.heap.size := Nat.le_of_eq ho.size.symm
        clear ho hk bO9_1
        have bO9_1 := hv0; clear hv0
        refine pl_nil ?_
        refine qw_then ?_
        refine cw_seq ?_
        refine cw_plain ?_
        refine pl_take (.func (.func 97) #[] #[.pointer (some ⟨PB, 0, none⟩), .pointer (some ⟨BB, 0, none⟩), .pointer (some ⟨CJ, 0, none⟩), .pointer (some ⟨OB, 0, none⟩)]) rfl (by kernel_rfl) (by kernel_rfl) (by kernel_rfl) (ex_load rfl (by kernel_rfl) (ld87 (hCJ.1))) ?_
        refine pl_take (.pointer (some ⟨O9, 2, none⟩)) rfl (by kernel_rfl) (by kernel_rfl) (by kernel_rfl) (by kernel_rfl) ?_
        refine pl_take (.int .i64 (Bdd.ix T b : Int)) rfl (by kernel_rfl) (by kernel_rfl) (by kernel_rfl) (ex_load rfl (by kernel_rfl) (ld3 (bO9_2.1))) ?_
        have hc35 := ih hB e0 h0 hM17 ⟨hPB, hBB, hCJ⟩ ⟨nx25, nx22, nx23⟩ hka.2 (by omega) hT hn
        refine pl_step rfl (by kernel_rfl) (by kernel_rfl) (by kernel_rfl) (sn_call (f := 97) (args := #[.int .i64 (Bdd.ix T b : Int), .pointer (some ⟨PB, 0, none⟩), .pointer (some ⟨BB, 0, none⟩), .pointer (some ⟨CJ, 0, none⟩), .pointer (some ⟨OB, 0, none⟩)]) (by kernel_rfl) ((hc35).mono ?_))
        rintro e w37 ⟨v32, rfl, hs33, hM34⟩
        replace e0 := hs33.wr.ext e0 (fun k q => q.elim (fun q => Nat.le_trans (Nat.le_trans (Nat.le_refl _) h0) (hXg29 k q)) (fun q => q.elim))
        replace hS9 := hS9.trans hs33
        replace hPB := hs33.wr.box (fun q => q.elim nx25 id) hPB
        replace hBB := hs33.wr.box (fun q => q.elim nx22 id) hBB
        replace hCJ := hs33.wr.box (fun q => q.elim nx23 id) hCJ
        replace bO9_0 := hs33.wr.box (fun q => q.elim nx24 id) bO9_0
        replace bO9_2 := hs33.wr.box (fun q => q.elim nx24 id) bO9_2
        replace bO9_1 := hs33.wr.box (fun q => q.elim nx24 id) bO9_1
        have nx38 := hs33.nx nx21 (Nat.lt_of_lt_of_le hlB (Nat.le_trans hs0 (Nat.le_trans hs11 (Nat.le_trans hs14 (Nat.le_trans hs27 hs31)))))
        have nx39 := hs33.nx nx22 (Nat.lt_of_lt_of_le hlBB (Nat.le_trans hs11 (Nat.le_trans hs14 (Nat.le_trans hs27 hs31))))
        have nx40 := hs33.nx nx23 (Nat.lt_of_lt_of_le hlCJ (Nat.le_trans hs11 (Nat.le_trans hs14 (Nat.le_trans hs27 hs31))))
        have nx41 := hs33.nx nx24 (Nat.lt_of_lt_of_le lt12 (Nat.le_trans hs14 (Nat.le_trans hs27 hs31)))
        have nx42 := hs33.nx nx25 (Nat.lt_of_lt_of_le hlPB (Nat.le_trans hs11 (Nat.le_trans hs14 (Nat.le_trans hs27 hs31))))
        have nx43 := hs33.nx nx26 (Nat.lt_of_lt_of_le hgl (Nat.le_trans hs0 (Nat.le_trans hs11 (Nat.le_trans hs14 (Nat.le_trans hs27 hs31)))))
        have hs44 := hs33.wr.size
        have hXl45 := hM34.lt
        have hXg46 := hM34.ge
        refine ⟨_, rfl, ?_⟩
        refine pl_take (.pointer (some ⟨O9, 2, none⟩)) rfl (by kernel_rfl) (by kernel_rfl) (by kernel_rfl) (by kernel_rfl) ?_
        refine pl_put rfl (by kernel_rfl) (by kernel_rfl) (sn_set (O := O9) (j := 2) (v := .int .i64 (Bdd.ix (Bdd.post (Bdd.post P a) b) b : Int)) (ex_store (p := .pointer (some ⟨O9, 2, none⟩)) (v := .int .i64 (Bdd.ix (Bdd.post (Bdd.post P a) b) b : Int)) rfl (by kernel_rfl) (by kernel_rfl) (st3 bO9_2.1 bO9_2.2)) bO9_2 ?_)
        intro X47 ho hv0 hk
        replace e0 := ho.ext e0 (Nat.le_trans hs0 (Nat.le_of_eq hzO9))
        replace hS9 := hS9.turn ho (.inr (Nat.le_of_eq hzO9))
        replace hPB := ho.box (Nat.ne_of_gt (Nat.lt_of_lt_of_le hlPB (Nat.le_of_eq hzO9))) hPB
        replace hBB := ho.box (Nat.ne_of_gt (Nat.lt_of_lt_of_le hlBB (Nat.le_of_eq hzO9))) hBB
        replace hCJ := ho.box (Nat.ne_of_gt (Nat.lt_of_lt_of_le hlCJ (Nat.le_of_eq hzO9))) hCJ
        replace bO9_0 := hk 0 _ (by omega) bO9_0
        replace bO9_1 := hk 1 _ (by omega) bO9_1
        replace hM34 := hM34.turn ho nx41
        have hs48 : w37.heap.size ≤ X47.heap.size := Nat.le_of_eq ho.size.symm
        clear ho hk bO9_2
        have bO9_2 := hv0; clear hv0
        refine pl_nil ?_
        refine qw_then ?_
        refine cw_clean [0, 1, 4, 9] (ws' := [(0, .int .i64 (((i : Nat) : Int) : Int)), (1, .pointer (some ⟨PB, 0, none⟩)), (4, .pointer (some ⟨OB, 0, none⟩)), (9, .pointer (some ⟨O9, 0, none⟩))]) (by kernel_rfl) (fun L => ?_)
        refine cw_seq ?_
        have hnn : ¬ Bdd.D.nd e a b ∈ (Bdd.post (Bdd.post P a) b) := Bdd.nd_new hnm
        have hma9 : Bdd.Mem (Bdd.post P a) a := Bdd.post_mem P a
        have hmb9 : Bdd.Mem (Bdd.post (Bdd.post P a) b) b := Bdd.post_mem _ b
        have hma8 : Bdd.Mem (Bdd.post (Bdd.post P a) b) a := hma9.mono (Bdd.post_old _ _)
        have hxa9 : Bdd.ix (Bdd.post (Bdd.post P a) b) a = Bdd.ix (Bdd.post P a) a := by
          obtain ⟨S, hS, _⟩ := Bdd.post_pre (Bdd.post P a) b
          rw [hS, Bdd.ix_app hma9]
        have hM7 := hM34
        obtain ⟨a9, c9, hv9, hc9⟩ := own_sl hM7.own
        rw [Bdd.rows_len] at hv9 hc9
        have hpl9 := Bdd.place_len hM7.cl hM7.sub
        obtain ⟨L9, hL9, hP9⟩ := hM7.map
        have hOP : OB ≠ PM := fun q => box_map (q ▸ hM7.b0) hL9
        have hq0 := hM7.b0
        have hq1 := hM7.b1
        have hq2 := hM7.b2
        rw [hv9] at hq2
        have hO7 := hM7.own
        rw [hv9] at hO7
        have hO7k := hO7.lt
        have hnv7 := hM7.nv
        rw [hv9] at hnv7
        refine cw_plain ?_
        refine pl_take (.map (some PM)) rfl (by kernel_rfl) (by kernel_rfl) (by kernel_rfl) (ex_load rfl (by kernel_rfl) (ld133 (hPB.1))) ?_
        refine pl_take (.int .i64 (((i : Nat) : Int) : Int)) rfl (by kernel_rfl) (by kernel_rfl) (by kernel_rfl) (by kernel_rfl) ?_
        refine pl_take (.pointer (some ⟨OB, 2, none⟩)) rfl (by kernel_rfl) (by kernel_rfl) (by kernel_rfl) (by kernel_rfl) ?_
        refine pl_take (.slice a9 ((Bdd.post (Bdd.post P a) b).length) c9) rfl (by kernel_rfl) (by kernel_rfl) (by kernel_rfl) (ex_load rfl (by kernel_rfl) (ld40 (hq2.1))) ?_
        refine pl_take (.int .i64 ((((Bdd.post (Bdd.post P a) b).length : Nat) : Int) : Int)) rfl (by kernel_rfl) (by kernel_rfl) (by kernel_rfl) (by kernel_rfl) ?_
        obtain ⟨X50, hr51, hm52, ht53⟩ := run_update Tryz.underlying133 hL9 int_law (((i : Nat) : Int) : Int) ((((Bdd.post (Bdd.post P a) b).length : Nat) : Int) : Int)
        refine pl_put rfl (by kernel_rfl) (by kernel_rfl) (sn_skp (ex_mapU rfl (by kernel_rfl) (by kernel_rfl) (by kernel_rfl) hr51) ?_)
        have hB.bt54 := (BoxAt.ext e0 hB.b0)
        have hB.bt55 := (BoxAt.ext e0 hB.b1)
        have hB.bt56 := (BoxAt.ext e0 hB.b2)
        have hgt57 := (e0.cell hg0)
        have hgt58 := (e0.cell hg1)
        have hgt59 := (e0.cell hg2)
        replace hS9 := hS9.turnXM ht53 (.inr (.inl rfl))
        replace hPB := (ht53.mv0).box hPB
        replace hBB := (ht53.mv0).box hBB
        replace hCJ := (ht53.mv0).box hCJ
        replace hB.bt54 := (ht53.mv0).box hB.bt54
        replace hB.bt55 := (ht53.mv0).box hB.bt55
        replace hB.bt56 := (ht53.mv0).box hB.bt56
        replace hgt57 := (ht53.mv0).cell hgt57
        replace hgt58 := (ht53.mv0).cell hgt58
        replace hgt59 := (ht53.mv0).cell hgt59
        replace bO9_0 := (ht53.mv0).box bO9_0
        replace bO9_1 := (ht53.mv0).box bO9_1
        replace bO9_2 := (ht53.mv0).box bO9_2
        replace hq0 := (ht53.mv0).box hq0
        replace hq1 := (ht53.mv0).box hq1
        replace hq2 := (ht53.mv0).box hq2
        replace hO7 := (ht53.mv0).own hO7
        have hs60 : X47.heap.size ≤ X50.heap.size := Nat.le_of_eq ht53.size.symm
        have lt61 := hm52.lt
        refine pl_nil ?_
        refine qw_then ?_
        refine cw_seq ?_
        refine cw_plain ?_
        refine pl_take (.pointer (some ⟨OB, 2, none⟩)) rfl (by kernel_rfl) (by kernel_rfl) (by kernel_rfl) (by kernel_rfl) ?_
        refine pl_take (.slice a9 ((Bdd.post (Bdd.post P a) b).length) c9) rfl (by kernel_rfl) (by kernel_rfl) (by kernel_rfl) (ex_load rfl (by kernel_rfl) (ld40 (hq2.1))) ?_
        refine pl_take (.agg #[.int .i64 (((e : Nat) : Int) : Int), .int .i64 (Bdd.ix (Bdd.post P a) a : Int), .int .i64 (Bdd.ix (Bdd.post (Bdd.post P a) b) b : Int)]) rfl (by kernel_rfl) (by kernel_rfl) (by kernel_rfl) (ex_load rfl (by kernel_rfl) (ld56 (bO9_0.1) (bO9_1.1) (bO9_2.1))) ?_
        refine pl_step rfl (by kernel_rfl) (by kernel_rfl) (by kernel_rfl) (sn_newS (us := #[.int .i64 (((e : Nat) : Int) : Int), .int .i64 (Bdd.ix (Bdd.post P a) a : Int), .int .i64 (Bdd.ix (Bdd.post (Bdd.post P a) b) b : Int)]) (t := 56) (k := 1) (c := 1) (by kernel_rfl) ?_)
        intro O62 X63 hO hOs hb hbx
        have hzO62 := hO; have hyO62 := hOs; clear hO hOs
        have bO62_0 : BoxAt X63 O62 0 (.int .i64 (((e : Nat) : Int) : Int)) := hbx 0 _ rfl
        have bO62_1 : BoxAt X63 O62 1 (.int .i64 (Bdd.ix (Bdd.post P a) a : Int)) := hbx 1 _ rfl
        have bO62_2 : BoxAt X63 O62 2 (.int .i64 (Bdd.ix (Bdd.post (Bdd.post P a) b) b : Int)) := hbx 2 _ rfl
        clear hbx
        replace hS9 := hS9.ext hb
        replace hPB := BoxAt.ext hb hPB
        replace hBB := BoxAt.ext hb hBB
        replace hCJ := BoxAt.ext hb hCJ
        replace hB.bt54 := BoxAt.ext hb hB.bt54
        replace hB.bt55 := BoxAt.ext hb hB.bt55
        replace hB.bt56 := BoxAt.ext hb hB.bt56
        replace hgt57 := hb.cell hgt57
        replace hgt58 := hb.cell hgt58
        replace hgt59 := hb.cell hgt59
        replace bO9_0 := BoxAt.ext hb bO9_0
        replace bO9_1 := BoxAt.ext hb bO9_1
        replace bO9_2 := BoxAt.ext hb bO9_2
        replace hq0 := BoxAt.ext hb hq0
        replace hq1 := BoxAt.ext hb hq1
        replace hq2 := BoxAt.ext hb hq2
        replace hO7 := hO7.ext hb
        replace hm52 := hm52.ext hb
        have hs64 := hb.size
        clear hb
        have lt65 := bO62_0.lt
        have hbs77 := hO7.base
        obtain ⟨g67, cap68, w69, hrun70, own71, hgr72, hgb73, hor66⟩ := own_app1h (P := Tryz.prog) (ty := 40) nodT (hO7) (Nat.le_trans (Nat.le_trans hM.lb (Nat.le_of_lt hlOB)) (Nat.le_trans hs11 (Nat.le_trans hs14 (Nat.le_trans hs27 (Nat.le_trans hs31 (Nat.le_trans hs44 (Nat.le_trans hs48 (Nat.le_trans hs60 hs64)))))))) (k := (Bdd.post (Bdd.post P a) b).length) (Bdd.rows_len _) (O := O62) (c := 1) (x := (((e : Nat) : Int), Bdd.ix (Bdd.post P a) a, Bdd.ix (Bdd.post (Bdd.post P a) b) b)) (d := [.int .i64 (((e : Nat) : Int) : Int), .int .i64 (Bdd.ix (Bdd.post P a) a : Int), .int .i64 (Bdd.ix (Bdd.post (Bdd.post P a) b) b : Int)]) (F := []) rfl (cells3 (bO62_0.1) (bO62_1.1) (bO62_2.1)) (by simp [Value.oneCell']) ⟨rfl, rfl⟩ (fun b hb => by cases hb) (by omega) (by omega)
        refine pl_step rfl (by kernel_rfl) (by kernel_rfl) (by kernel_rfl) (sn_eff (v := .slice (some ⟨g67, 0, none⟩) ((Bdd.post (Bdd.post P a) b).length + 1) cap68) (w' := w69) (ex_append rfl (by kernel_rfl) (by kernel_rfl) hrun70) ?_)
        replace hS9 := hS9.appX hgb73 (fun k q => .inr (.inr (hv9.symm ▸ q)))
        replace hPB := BoxAt.grownR hPB hgb73 (fun q => nx42 (.inr (.inr (hv9.symm ▸ q))))
        replace hBB := BoxAt.grownR hBB hgb73 (fun q => nx39 (.inr (.inr (hv9.symm ▸ q))))
        replace hCJ := BoxAt.grownR hCJ hgb73 (fun q => nx40 (.inr (.inr (hv9.symm ▸ q))))
        replace hq0 := BoxAt.grownR hq0 hgb73 hnv7
        replace hq1 := BoxAt.grownR hq1 hgb73 hnv7
        replace hq2 := BoxAt.grownR hq2 hgb73 hnv7
        replace hm52 := hm52.grownM hgb73 (fun e => (own_mapK hO7 hm52) e.symm)
        replace bO62_0 := BoxAt.grownR bO62_0 hgb73 (own_not2 hO7k (Nat.le_trans hs60 (Nat.le_of_eq hzO62)))
        replace bO62_1 := BoxAt.grownR bO62_1 hgb73 (own_not2 hO7k (Nat.le_trans hs60 (Nat.le_of_eq hzO62)))
        replace bO62_2 := BoxAt.grownR bO62_2 hgb73 (own_not2 hO7k (Nat.le_trans hs60 (Nat.le_of_eq hzO62)))
        have hs74 := hgr72.size
        have hl75 := own71.base g67 rfl; have hh76 := own71.lt g67 rfl
        have hbk79 := own71.lt
        have hnw80 := fun k q => (app1_blk (v := .slice a9 (Bdd.post (Bdd.post P a) b).length c9) (k := (Bdd.post (Bdd.post P a) b).length + 1) (c := cap68) hor66 k q).imp id (Nat.le_trans (Nat.le_trans hs60 hs64))
        have hnv81 : (Value.slice (some ⟨g67, 0, none⟩) ((Bdd.post (Bdd.post P a) b).length + 1) cap68).ownBlock ≠ some OB := fun q => (hnw80 OB q).elim hnv7 fun z => absurd (Nat.lt_of_lt_of_le hlOB (Nat.le_trans hs11 (Nat.le_trans hs14 (Nat.le_trans hs27 (Nat.le_trans hs31 (Nat.le_trans hs44 hs48)))))) (Nat.not_lt_of_le z)
        refine pl_take (.pointer (some ⟨OB, 2, none⟩)) rfl (by kernel_rfl) (by kernel_rfl) (by kernel_rfl) (by kernel_rfl) ?_
        refine pl_put rfl (by kernel_rfl) (by kernel_rfl) (sn_set (O := OB) (j := 2) (v := .slice (some ⟨g67, 0, none⟩) ((Bdd.post (Bdd.post P a) b).length + 1) cap68) (ex_store (p := .pointer (some ⟨OB, 2, none⟩)) (v := .slice (some ⟨g67, 0, none⟩) ((Bdd.post (Bdd.post P a) b).length + 1) cap68) rfl (by kernel_rfl) (by kernel_rfl) (st40 hq2.1 hq2.2)) hq2 ?_)
        intro X82 ho hv0 hk
        replace hS9 := hS9.turnX ho (.inl rfl)
        replace hPB := ho.box hnePB.out hPB
        replace hBB := ho.box hneBB.out hBB
        replace hCJ := ho.box hneCJ.out hCJ
        replace hq0 := hk 0 _ (by omega) hq0
        replace hq1 := hk 1 _ (by omega) hq1
        replace hm52 := hm52.block (ho.heap' _ (by show PM ≠ OB; omega))
        replace bO62_0 := ho.box (Nat.ne_of_lt (Nat.lt_of_lt_of_le hlOB (Nat.le_trans (Nat.le_trans hs11 (Nat.le_trans hs14 (Nat.le_trans hs27 (Nat.le_trans hs31 (Nat.le_trans hs44 (Nat.le_trans hs48 hs60)))))) (Nat.le_of_eq hzO62)))) bO62_0
        replace bO62_1 := ho.box (Nat.ne_of_lt (Nat.lt_of_lt_of_le hlOB (Nat.le_trans (Nat.le_trans hs11 (Nat.le_trans hs14 (Nat.le_trans hs27 (Nat.le_trans hs31 (Nat.le_trans hs44 (Nat.le_trans hs48 hs60)))))) (Nat.le_of_eq hzO62)))) bO62_1
        replace bO62_2 := ho.box (Nat.ne_of_lt (Nat.lt_of_lt_of_le hlOB (Nat.le_trans (Nat.le_trans hs11 (Nat.le_trans hs14 (Nat.le_trans hs27 (Nat.le_trans hs31 (Nat.le_trans hs44 (Nat.le_trans hs48 hs60)))))) (Nat.le_of_eq hzO62)))) bO62_2
        replace own71 := own71.turn ho hnv81 (fun _ _ _ h => by rw [h.2]; exact fun b hb => by cases hb)
        have hs83 : w69.heap.size ≤ X82.heap.size := Nat.le_of_eq ho.size.symm
        clear ho hk hq2
        have hq2 := hv0; clear hv0
        refine pl_nil ?_
        refine qw_then ?_
        refine cw_clean [0, 1] (ws' := [(0, .int .i64 (((i : Nat) : Int) : Int)), (1, .pointer (some ⟨PB, 0, none⟩))]) (by kernel_rfl) (fun L => ?_)
        refine cw_seq ?_
        refine cw_plain ?_
        refine pl_take (.map (some PM)) rfl (by kernel_rfl) (by kernel_rfl) (by kernel_rfl) (ex_load rfl (by kernel_rfl) (ld133 (hPB.1))) ?_
        refine pl_take (.int .i64 (((i : Nat) : Int) : Int)) rfl (by kernel_rfl) (by kernel_rfl) (by kernel_rfl) (by kernel_rfl) ?_
        refine pl_take (.int .i64 ((((Bdd.post (Bdd.post P a) b).length : Nat) : Int) : Int)) rfl (by kernel_rfl) (by kernel_rfl) (by kernel_rfl) (ex_lookup rfl (by kernel_rfl) (by kernel_rfl) (lookup_is1 (run_lookup1 Tryz.underlying133 hm52 int_law (((i : Nat) : Int) : Int) (zero_int _)) (by rw [getM_updM, if_pos rfl]))) ?_
        refine pl_take (.int .i64 ((((Bdd.post (Bdd.post P a) b).length : Nat) : Int) : Int)) rfl (by kernel_rfl) (by kernel_rfl) (by kernel_rfl) (by kernel_rfl) ?_
        refine pl_nil ?_
        refine qw_then ?_
        refine cw_ret ?_
        refine qw_ret [.int .i64 ((((Bdd.post (Bdd.post P a) b).length : Nat) : Int) : Int)] rfl ⟨(by kernel_rfl), trivial⟩ ?_
        have hpo : Bdd.post P (.nd e a b) = (Bdd.post (Bdd.post P a) b) ++ [.nd e a b] := by rw [Bdd.post, if_neg hnm]
        have hrs := Bdd.rows_snoc hM7.cl (e := e) hma8 hmb9
        rw [hxa9] at hrs
        have how9 := own71
        rw [← hrs] at how9
        rw [hpo, Bdd.ix_new hnn]
        refine ⟨_, rfl, hS9.nwX hv9 hnw80 (Nat.le_trans hs11 (Nat.le_trans hs14 (Nat.le_trans hs27 (Nat.le_trans hs31 (Nat.le_trans hs44 hs48))))), ⟨hq0, hq1, hq2, how9, ⟨_, hm52, (by have z := hP9.put mt hnn; rw [hix] at z; exact z)⟩, hM7.cl.snoc (hB.cl.ok (t := .nd e a b) mt) hma8 hmb9 hnn, ?_, hnv81, hM.lb, hM.lk⟩⟩
        intro x hx
        rcases List.mem_append.1 hx with q | q
        · exact hM7.sub x q
        · rw [List.mem_singleton] at q; rw [q]; exact mt

instance {w w' : World} {n₀ OB PM n : Nat} {v : Value} {T P : List Bdd.D} : MvC w w' (Mac w n₀ OB PM n v T P) (Mac w' n₀ OB PM n v T P) := ⟨fun e h => h.ext e⟩
end Go.Proofs.YtpfajhcdfgpgmaaGreatDoor

/- Contracts of package machine: machine, done. -/
namespace Go.Proofs.YtpfajhcdfgpgmaaGreatDoor
open Go.RowKit

theorem Placed.start (T : List Bdd.D) : Placed T [] (updM (-2 : Int) (-2 : Int) (updM (-1 : Int) (-1 : Int) [])) := fun t ht => by
  match t, ht with
  | .leaf true, _ => rfl
  | .leaf false, _ => rfl
  | .nd e a b, ht =>
    obtain ⟨i, h1, _⟩ := Bdd.ix_nd ht
    rw [getM_updM, getM_updM, h1, if_neg (by omega), if_neg (by omega), if_neg (by intro q; cases q)]
    rfl
theorem NdsAt.turn {O : Nat} {w w' : World} {a : Option Addr} {m : Nat} {N : List Nod} (h : NdsAt w a m N) (t : Turns O w w') (hO : ∀ ad, a = some ad → ad.block ≠ O) : NdsAt w' a m N :=
  ⟨h.len, h.max, h.at_.imp id fun ⟨b, o, ha, hx⟩ => ⟨b, o, ha, ⟨fun i x hi => by
    obtain ⟨h0, h1, h2⟩ := hx.at_ i x hi
    have hb : O ≠ b := fun e => hO _ ha e.symm
    exact ⟨t.cell hb h0, t.cell hb h1, t.cell hb h2⟩⟩⟩⟩
theorem own_neB {a : Option Addr} {m c O : Nat} (h : (Value.slice a m c).ownBlock ≠ some O) : ∀ ad, a = some ad → ad.block ≠ O := fun ad e q => h (by subst e; subst q; rfl)
theorem own_ge {n₀ : Nat} {w : World} {a : Option Addr} {m c : Nat} {R : List Nod} (h : OwnL nodR n₀ 56 3 (.slice a m c) w R) : ∀ ad, a = some ad → n₀ ≤ ad.block := fun ad e => h.base _ (by subst e; rfl)
def OptM (lo : Nat) (w : World) (o : Option (Int × Int × List Nod)) (E S : Int) (a : Option Addr) (m c : Nat) (er : Int) : Prop :=
  (∃ N, o = some (E, S, N) ∧ er = 0 ∧ NdsAt w a m N ∧ m ≤ c ∧ ∀ ad, a = some ad → lo ≤ ad.block) ∨ (o = none ∧ E = 0 ∧ S = 0 ∧ a = none ∧ m = 0 ∧ c = 0 ∧ er = 140)
theorem OptM.ext {lo : Nat} {w w' : World} {o : Option (Int × Int × List Nod)} {E S : Int} {a : Option Addr} {m c : Nat} {er : Int} (h : OptM lo w o E S a m c er) (e : Ext w w') : OptM lo w' o E S a m c er := h.imp (fun ⟨N, h1, h2, h3, h4⟩ => ⟨N, h1, h2, h3.ext e, h4⟩) id
theorem OptM.mono {lo lo' : Nat} {w : World} {o : Option (Int × Int × List Nod)} {E S : Int} {a : Option Addr} {m c : Nat} {er : Int} (h : OptM lo w o E S a m c er) (hl : lo' ≤ lo) : OptM lo' w o E S a m c er := h.imp (fun ⟨N, h1, h2, h3, h4, h5⟩ => ⟨N, h1, h2, h3, h4, fun ad e => Nat.le_trans hl (h5 ad e)⟩) id
theorem OptM.turn {lo O : Nat} {w w' : World} {o : Option (Int × Int × List Nod)} {E S : Int} {a : Option Addr} {m c : Nat} {er : Int} (h : OptM lo w o E S a m c er) (t : Turns O w w') (hO : O < lo) : OptM lo w' o E S a m c er := h.imp (fun ⟨N, h1, h2, h3, h4, h5⟩ => ⟨N, h1, h2, h3.turn t (fun ad e => Nat.ne_of_gt (Nat.lt_of_lt_of_le hO (h5 ad e))), h4, h5⟩) id
namespace Bdd
def machO (n : Nat) (t : D) : Option (Int × Int × List Nod) := if (nodes t).length ≤ 2000 then some (((n : Nat) : Int), start t, nodes t) else none
end Bdd
set_option maxRecDepth 1000000 in
set_option maxHeartbeats 4000000 in
theorem machine_c {n0 B K n : Nat} {v : Value} {T : List Bdd.D} {t : Bdd.D} (w : World) (hB : Bld w n0 B K n v T) (mt : Bdd.Mem T t) (hT : T.length ≤ 1000000000000) (hn : n ≤ 16) : Calls Tryz.prog 56 #[.pointer (some ⟨B, 0, none⟩), .int .i64 (Bdd.ix T t)] w fun e w' => ∃ a c, e = .returned (.agg #[.int .i64 ((n : Nat) : Int), .int .i64 (Bdd.start t), .slice a (Bdd.nodes t).length c]) ∧ NdsAt w' a (Bdd.nodes t).length (Bdd.nodes t) ∧ (Bdd.nodes t).length ≤ c ∧ (∀ ad, a = some ad → w.heap.size ≤ ad.block) ∧ Ext w w' := by
  obtain ⟨sa, sc, rfl, hsc, hcB⟩ := hB.sl
  have hlB := hB.b0.lt
  refine calls_cw 21 [(1, .int .i64 (Bdd.ix T t : Int)), (0, .pointer (some ⟨B, 0, none⟩))] Tryz.func56 rfl Tryz.ntmps56 (by kernel_rfl) (by kernel_rfl) (fun L => ?_)
  have hE : Ext w w := Ext.refl w
  refine cw_seq ?_
  refine cw_plain ?_
  refine pl_step rfl (by kernel_rfl) (by kernel_rfl) (by kernel_rfl) (sn_new (us := #[.pointer (some ⟨B, 0, none⟩)]) (t := 81) (by kernel_rfl) ?_)
  intro O1 X2 hO hOs hb hbx
  have hzO1 := hO; have hyO1 := hOs; clear hO hOs
  have bO1_0 : BoxAt X2 O1 0 (.pointer (some ⟨B, 0, none⟩)) := hbx 0 _ rfl
  clear hbx
  replace hE := hE.trans hb
  have hs3 := hb.size
  clear hb
  have lt4 := bO1_0.lt
  refine pl_step rfl (by kernel_rfl) (by kernel_rfl) (by kernel_rfl) (sn_new (us := #[.int .i64 0, .int .i64 0, .slice none 0 0]) (t := 42) (by kernel_rfl) ?_)
  intro O5 X6 hO hOs hb hbx
  have hzO5 := hO; have hyO5 := hOs; clear hO hOs
  have bO5_0 : BoxAt X6 O5 0 (.int .i64 0) := hbx 0 _ rfl
  have bO5_1 : BoxAt X6 O5 1 (.int .i64 0) := hbx 1 _ rfl
  have bO5_2 : BoxAt X6 O5 2 (.slice none 0 0) := hbx 2 _ rfl
  clear hbx
  replace hE := hE.trans hb
  replace bO1_0 := BoxAt.ext hb bO1_0
  have hs7 := hb.size
  clear hb
  have lt8 := bO5_0.lt
  refine pl_nil ?_
  refine qw_then ?_
  refine cw_seq ?_
  refine cw_plain ?_
  refine pl_take (.pointer (some ⟨B, 0, none⟩)) rfl (by kernel_rfl) (by kernel_rfl) (by kernel_rfl) (ex_load rfl (by kernel_rfl) (ld81 (bO1_0.1))) ?_
  refine pl_take (.pointer (some ⟨B, 0, none⟩)) rfl (by kernel_rfl) (by kernel_rfl) (by kernel_rfl) (by kernel_rfl) ?_
  refine pl_take (.pointer (some ⟨B, 0, none⟩)) rfl (by kernel_rfl) (by kernel_rfl) (by kernel_rfl) (by kernel_rfl) ?_
  refine pl_take (.int .i64 (((n : Nat) : Int) : Int)) rfl (by kernel_rfl) (by kernel_rfl) (by kernel_rfl) (ex_load rfl (by kernel_rfl) (ld3 ((BoxAt.ext hE hB.b0).1))) ?_
  refine pl_take (.agg #[.int .i64 (((n : Nat) : Int) : Int), .int .i64 0, .slice none 0 0]) rfl (by kernel_rfl) (by kernel_rfl) (by kernel_rfl) (by kernel_rfl) ?_
  refine pl_step rfl (by kernel_rfl) (by kernel_rfl) (by kernel_rfl) (sn_new (us := #[.int .i64 0, .int .i64 0, .slice none 0 0]) (t := 42) (by kernel_rfl) ?_)
  intro O9 X10 hO hOs hb hbx
  have hzO9 := hO; have hyO9 := hOs; clear hO hOs
  have bO9_0 : BoxAt X10 O9 0 (.int .i64 0) := hbx 0 _ rfl
  have bO9_1 : BoxAt X10 O9 1 (.int .i64 0) := hbx 1 _ rfl
  have bO9_2 : BoxAt X10 O9 2 (.slice none 0 0) := hbx 2 _ rfl
  clear hbx
  replace hE := hE.trans hb
  replace bO1_0 := BoxAt.ext hb bO1_0
  replace bO5_0 := BoxAt.ext hb bO5_0
  replace bO5_1 := BoxAt.ext hb bO5_1
  replace bO5_2 := BoxAt.ext hb bO5_2
  have hs11 := hb.size
  clear hb
  have lt12 := bO9_0.lt
  refine pl_put rfl (by kernel_rfl) (by kernel_rfl) (sn_setK3 (O := O9) (j := 0) (v0 := .int .i64 (((n : Nat) : Int) : Int)) (v1 := .int .i64 0) (v2 := .slice none 0 0) (ex_store (p := .pointer (some ⟨O9, 0, none⟩)) (v := .agg #[.int .i64 (((n : Nat) : Int) : Int), .int .i64 0, .slice none 0 0]) rfl (by kernel_rfl) (by kernel_rfl) (st42 bO9_0.1 bO9_0.2 bO9_1.1 bO9_1.2 bO9_2.1 bO9_2.2)) bO9_0 bO9_1 bO9_2 ?_)
  intro X13 ho hv0 hv1 hv2 hk
  replace hE := ho.ext hE (Nat.le_trans (Nat.le_trans hs3 hs7) (Nat.le_of_eq hzO9))
  replace bO1_0 := ho.box (Nat.ne_of_gt (Nat.lt_of_lt_of_le lt4 (Nat.le_trans hs7 (Nat.le_of_eq hzO9)))) bO1_0
  replace bO5_0 := ho.box (Nat.ne_of_gt (Nat.lt_of_lt_of_le lt8 (Nat.le_of_eq hzO9))) bO5_0
  replace bO5_1 := ho.box (Nat.ne_of_gt (Nat.lt_of_lt_of_le lt8 (Nat.le_of_eq hzO9))) bO5_1
  replace bO5_2 := ho.box (Nat.ne_of_gt (Nat.lt_of_lt_of_le lt8 (Nat.le_of_eq hzO9))) bO5_2
  have hs14 : X10.heap.size ≤ X13.heap.size := Nat.le_of_eq ho.size.symm
  clear ho hk bO9_0 bO9_1 bO9_2
  have bO9_0 := hv0; clear hv0
  have bO9_1 := hv1; clear hv1
  have bO9_2 := hv2; clear hv2
  refine pl_nil ?_
  refine qw_then ?_
  refine cw_seq ?_
  refine cw_plain ?_
  refine pl_step rfl (by kernel_rfl) (by kernel_rfl) (by kernel_rfl) (sn_map intV intV (by kernel_rfl) ?_)
  intro O15 X16 hO hOs hb hm17
  have hzO15 := hO; have hyO15 := hOs; clear hO hOs
  replace hE := hE.trans hb
  replace bO1_0 := BoxAt.ext hb bO1_0
  replace bO5_0 := BoxAt.ext hb bO5_0
  replace bO5_1 := BoxAt.ext hb bO5_1
  replace bO5_2 := BoxAt.ext hb bO5_2
  replace bO9_0 := BoxAt.ext hb bO9_0
  replace bO9_1 := BoxAt.ext hb bO9_1
  replace bO9_2 := BoxAt.ext hb bO9_2
  have hs18 := hb.size
  clear hb
  have lt19 := hm17.lt
  obtain ⟨X20, hr21, hm22, ht23⟩ := run_update Tryz.underlying133 hm17 int_law (-1 : Int) (-1 : Int)
  refine pl_put rfl (by kernel_rfl) (by kernel_rfl) (sn_skp (ex_ins rfl (by kernel_rfl) (by kernel_rfl) (by kernel_rfl) hr21) ?_)
  replace hE := ht23.ext hE (Nat.le_trans (Nat.le_trans hs3 (Nat.le_trans hs7 (Nat.le_trans hs11 hs14))) (Nat.le_of_eq hzO15))
  replace bO1_0 := (ht23.mv0).box bO1_0
  replace bO5_0 := (ht23.mv0).box bO5_0
  replace bO5_1 := (ht23.mv0).box bO5_1
  replace bO5_2 := (ht23.mv0).box bO5_2
  replace bO9_0 := (ht23.mv0).box bO9_0
  replace bO9_1 := (ht23.mv0).box bO9_1
  replace bO9_2 := (ht23.mv0).box bO9_2
  have hs24 : X16.heap.size ≤ X20.heap.size := Nat.le_of_eq ht23.size.symm
  have lt25 := hm22.lt
  obtain ⟨X26, hr27, hm28, ht29⟩ := run_update Tryz.underlying133 hm22 int_law (-2 : Int) (-2 : Int)
  refine pl_put rfl (by kernel_rfl) (by kernel_rfl) (sn_skp (ex_ins rfl (by kernel_rfl) (by kernel_rfl) (by kernel_rfl) hr27) ?_)
  replace hE := ht29.ext hE (Nat.le_trans (Nat.le_trans hs3 (Nat.le_trans hs7 (Nat.le_trans hs11 hs14))) (Nat.le_of_eq hzO15))
  replace bO1_0 := (ht29.mv0).box bO1_0
  replace bO5_0 := (ht29.mv0).box bO5_0
  replace bO5_1 := (ht29.mv0).box bO5_1
  replace bO5_2 := (ht29.mv0).box bO5_2
  replace bO9_0 := (ht29.mv0).box bO9_0
  replace bO9_1 := (ht29.mv0).box bO9_1
  replace bO9_2 := (ht29.mv0).box bO9_2
  have hs30 : X20.heap.size ≤ X26.heap.size := Nat.le_of_eq ht29.size.symm
  have lt31 := hm28.lt
  refine pl_take (.map (some O15)) rfl (by kernel_rfl) (by kernel_rfl) (by kernel_rfl) (by kernel_rfl) ?_
  refine pl_step rfl (by kernel_rfl) (by kernel_rfl) (by kernel_rfl) (sn_new (us := #[.map none]) (t := 133) (by kernel_rfl) ?_)
  intro O32 X33 hO hOs hb hbx
  have hzO32 := hO; have hyO32 := hOs; clear hO hOs
  have bO32_0 : BoxAt X33 O32 0 (.map none) := hbx 0 _ rfl
  clear hbx
  replace hE := hE.trans hb
  replace bO1_0 := BoxAt.ext hb bO1_0
  replace bO5_0 := BoxAt.ext hb bO5_0
  replace bO5_1 := BoxAt.ext hb bO5_1
  replace bO5_2 := BoxAt.ext hb bO5_2
  replace bO9_0 := BoxAt.ext hb bO9_0
  replace bO9_1 := BoxAt.ext hb bO9_1
  replace bO9_2 := BoxAt.ext hb bO9_2
  replace hm28 := hm28.ext hb
  have hs34 := hb.size
  clear hb
  have lt35 := bO32_0.lt
  refine pl_put rfl (by kernel_rfl) (by kernel_rfl) (sn_set (O := O32) (j := 0) (v := .map (some O15)) (ex_store (p := .pointer (some ⟨O32, 0, none⟩)) (v := .map (some O15)) rfl (by kernel_rfl) (by kernel_rfl) (st133 bO32_0.1 bO32_0.2)) bO32_0 ?_)
  intro X36 ho hv0 hk
  replace hE := ho.ext hE (Nat.le_trans (Nat.le_trans hs3 (Nat.le_trans hs7 (Nat.le_trans hs11 (Nat.le_trans hs14 (Nat.le_trans hs18 (Nat.le_trans hs24 hs30)))))) (Nat.le_of_eq hzO32))
  replace bO1_0 := ho.box (Nat.ne_of_gt (Nat.lt_of_lt_of_le lt4 (Nat.le_trans (Nat.le_trans hs7 (Nat.le_trans hs11 (Nat.le_trans hs14 (Nat.le_trans hs18 (Nat.le_trans hs24 hs30))))) (Nat.le_of_eq hzO32)))) bO1_0
  replace bO5_0 := ho.box (Nat.ne_of_gt (Nat.lt_of_lt_of_le lt8 (Nat.le_trans (Nat.le_trans hs11 (Nat.le_trans hs14 (Nat.le_trans hs18 (Nat.le_trans hs24 hs30)))) (Nat.le_of_eq hzO32)))) bO5_0
  replace bO5_1 := ho.box (Nat.ne_of_gt (Nat.lt_of_lt_of_le lt8 (Nat.le_trans (Nat.le_trans hs11 (Nat.le_trans hs14 (Nat.le_trans hs18 (Nat.le_trans hs24 hs30)))) (Nat.le_of_eq hzO32)))) bO5_1
  replace bO5_2 := ho.box (Nat.ne_of_gt (Nat.lt_of_lt_of_le lt8 (Nat.le_trans (Nat.le_trans hs11 (Nat.le_trans hs14 (Nat.le_trans hs18 (Nat.le_trans hs24 hs30)))) (Nat.le_of_eq hzO32)))) bO5_2
  replace bO9_0 := ho.box (Nat.ne_of_gt (Nat.lt_of_lt_of_le lt12 (Nat.le_trans (Nat.le_trans hs14 (Nat.le_trans hs18 (Nat.le_trans hs24 hs30))) (Nat.le_of_eq hzO32)))) bO9_0
  replace bO9_1 := ho.box (Nat.ne_of_gt (Nat.lt_of_lt_of_le lt12 (Nat.le_trans (Nat.le_trans hs14 (Nat.le_trans hs18 (Nat.le_trans hs24 hs30))) (Nat.le_of_eq hzO32)))) bO9_1
  replace bO9_2 := ho.box (Nat.ne_of_gt (Nat.lt_of_lt_of_le lt12 (Nat.le_trans (Nat.le_trans hs14 (Nat.le_trans hs18 (Nat.le_trans hs24 hs30))) (Nat.le_of_eq hzO32)))) bO9_2
  replace hm28 := hm28.block (ho.heap' _ (Nat.ne_of_lt (Nat.lt_of_lt_of_le lt19 (Nat.le_trans (Nat.le_trans hs24 hs30) (Nat.le_of_eq hzO32)))))
  have hs37 : X33.heap.size ≤ X36.heap.size := Nat.le_of_eq ho.size.symm
  clear ho hk bO32_0
  have bO32_0 := hv0; clear hv0
  refine pl_nil ?_
  refine qw_then ?_
  refine cw_seq ?_
  refine cw_plain ?_
  refine pl_step rfl (by kernel_rfl) (by kernel_rfl) (by kernel_rfl) (sn_new (us := #[.nilFunc]) (t := 87) (by kernel_rfl) ?_)
  intro O38 X39 hO hOs hb hbx
  have hzO38 := hO; have hyO38 := hOs; clear hO hOs
  have bO38_0 : BoxAt X39 O38 0 (.nilFunc) := hbx 0 _ rfl
  clear hbx
  replace hE := hE.trans hb
  replace bO1_0 := BoxAt.ext hb bO1_0
  replace bO5_0 := BoxAt.ext hb bO5_0
  replace bO5_1 := BoxAt.ext hb bO5_1
  replace bO5_2 := BoxAt.ext hb bO5_2
  replace bO9_0 := BoxAt.ext hb bO9_0
  replace bO9_1 := BoxAt.ext hb bO9_1
  replace bO9_2 := BoxAt.ext hb bO9_2
  replace hm28 := hm28.ext hb
  replace bO32_0 := BoxAt.ext hb bO32_0
  have hs40 := hb.size
  clear hb
  have lt41 := bO38_0.lt
  refine pl_nil ?_
  refine qw_then ?_
  refine cw_seq ?_
  refine cw_plain ?_
  refine pl_take (.func (.func 97) #[] #[.pointer (some ⟨O32, 0, none⟩), .pointer (some ⟨O1, 0, none⟩), .pointer (some ⟨O38, 0, none⟩), .pointer (some ⟨O9, 0, none⟩)]) rfl (by kernel_rfl) (by kernel_rfl) (by kernel_rfl) (by kernel_rfl) ?_
  refine pl_put rfl (by kernel_rfl) (by kernel_rfl) (sn_set (O := O38) (j := 0) (v := .func (.func 97) #[] #[.pointer (some ⟨O32, 0, none⟩), .pointer (some ⟨O1, 0, none⟩), .pointer (some ⟨O38, 0, none⟩), .pointer (some ⟨O9, 0, none⟩)]) (ex_store (p := .pointer (some ⟨O38, 0, none⟩)) (v := .func (.func 97) #[] #[.pointer (some ⟨O32, 0, none⟩), .pointer (some ⟨O1, 0, none⟩), .pointer (some ⟨O38, 0, none⟩), .pointer (some ⟨O9, 0, none⟩)]) rfl (by kernel_rfl) (by kernel_rfl) (st87 bO38_0.1 bO38_0.2)) bO38_0 ?_)
  intro X42 ho hv0 hk
  replace hE := ho.ext hE (Nat.le_trans (Nat.le_trans hs3 (Nat.le_trans hs7 (Nat.le_trans hs11 (Nat.le_trans hs14 (Nat.le_trans hs18 (Nat.le_trans hs24 (Nat.le_trans hs30 (Nat.le_trans hs34 hs37)))))))) (Nat.le_of_eq hzO38))
  replace bO1_0 := ho.box (Nat.ne_of_gt (Nat.lt_of_lt_of_le lt4 (Nat.le_trans (Nat.le_trans hs7 (Nat.le_trans hs11 (Nat.le_trans hs14 (Nat.le_trans hs18 (Nat.le_trans hs24 (Nat.le_trans hs30 (Nat.le_trans hs34 hs37))))))) (Nat.le_of_eq hzO38)))) bO1_0
  replace bO5_0 := ho.box (Nat.ne_of_gt (Nat.lt_of_lt_of_le lt8 (Nat.le_trans (Nat.le_trans hs11 (Nat.le_trans hs14 (Nat.le_trans hs18 (Nat.le_trans hs24 (Nat.le_trans hs30 (Nat.le_trans hs34 hs37)))))) (Nat.le_of_eq hzO38)))) bO5_0
  replace bO5_1 := ho.box (Nat.ne_of_gt (Nat.lt_of_lt_of_le lt8 (Nat.le_trans (Nat.le_trans hs11 (Nat.le_trans hs14 (Nat.le_trans hs18 (Nat.le_trans hs24 (Nat.le_trans hs30 (Nat.le_trans hs34 hs37)))))) (Nat.le_of_eq hzO38)))) bO5_1
  replace bO5_2 := ho.box (Nat.ne_of_gt (Nat.lt_of_lt_of_le lt8 (Nat.le_trans (Nat.le_trans hs11 (Nat.le_trans hs14 (Nat.le_trans hs18 (Nat.le_trans hs24 (Nat.le_trans hs30 (Nat.le_trans hs34 hs37)))))) (Nat.le_of_eq hzO38)))) bO5_2
  replace bO9_0 := ho.box (Nat.ne_of_gt (Nat.lt_of_lt_of_le lt12 (Nat.le_trans (Nat.le_trans hs14 (Nat.le_trans hs18 (Nat.le_trans hs24 (Nat.le_trans hs30 (Nat.le_trans hs34 hs37))))) (Nat.le_of_eq hzO38)))) bO9_0
  replace bO9_1 := ho.box (Nat.ne_of_gt (Nat.lt_of_lt_of_le lt12 (Nat.le_trans (Nat.le_trans hs14 (Nat.le_trans hs18 (Nat.le_trans hs24 (Nat.le_trans hs30 (Nat.le_trans hs34 hs37))))) (Nat.le_of_eq hzO38)))) bO9_1
  replace bO9_2 := ho.box (Nat.ne_of_gt (Nat.lt_of_lt_of_le lt12 (Nat.le_trans (Nat.le_trans hs14 (Nat.le_trans hs18 (Nat.le_trans hs24 (Nat.le_trans hs30 (Nat.le_trans hs34 hs37))))) (Nat.le_of_eq hzO38)))) bO9_2
  replace hm28 := hm28.block (ho.heap' _ (Nat.ne_of_lt (Nat.lt_of_lt_of_le lt19 (Nat.le_trans (Nat.le_trans hs24 (Nat.le_trans hs30 (Nat.le_trans hs34 hs37))) (Nat.le_of_eq hzO38)))))
  replace bO32_0 := ho.box (Nat.ne_of_gt (Nat.lt_of_lt_of_le lt35 (Nat.le_trans hs37 (Nat.le_of_eq hzO38)))) bO32_0
  have hs43 : X39.heap.size ≤ X42.heap.size := Nat.le_of_eq ho.size.symm
  clear ho hk bO38_0
  have bO38_0 := hv0; clear hv0
  refine pl_nil ?_
  refine qw_then ?_
  refine cw_clean [1, 4, 5, 7] (ws' := [(1, .int .i64 (Bdd.ix T t : Int)), (4, .pointer (some ⟨O5, 0, none⟩)), (5, .pointer (some ⟨O9, 0, none⟩)), (7, .pointer (some ⟨O38, 0, none⟩))]) (by kernel_rfl) (fun L => ?_)
  refine cw_seq ?_
  refine cw_plain ?_
  refine pl_take (.func (.func 97) #[] #[.pointer (some ⟨O32, 0, none⟩), .pointer (some ⟨O1, 0, none⟩), .pointer (some ⟨O38, 0, none⟩), .pointer (some ⟨O9, 0, none⟩)]) rfl (by kernel_rfl) (by kernel_rfl) (by kernel_rfl) (ex_load rfl (by kernel_rfl) (ld87 (bO38_0.1))) ?_
  refine pl_take (.int .i64 (Bdd.ix T t : Int)) rfl (by kernel_rfl) (by kernel_rfl) (by kernel_rfl) (by kernel_rfl) ?_
  have hnp : ¬ BX O9 O15 (.slice none 0 0) O32 := by
    rintro (q | q | q)
    · exact absurd q (Nat.ne_of_gt (Nat.lt_of_lt_of_le lt12 (Nat.le_trans (Nat.le_trans hs14 (Nat.le_trans hs18 (Nat.le_trans hs24 hs30))) (Nat.le_of_eq hzO32))))
    · exact box_map (q ▸ bO32_0) hm28
    · cases q
  have hnb : ¬ BX O9 O15 (.slice none 0 0) O1 := by
    rintro (q | q | q)
    · exact absurd q (Nat.ne_of_lt (Nat.lt_of_lt_of_le lt4 (Nat.le_trans hs7 (Nat.le_of_eq hzO9))))
    · exact box_map (q ▸ bO1_0) hm28
    · cases q
  have hnj : ¬ BX O9 O15 (.slice none 0 0) O38 := by
    rintro (q | q | q)
    · exact absurd q (Nat.ne_of_gt (Nat.lt_of_lt_of_le lt12 (Nat.le_trans (Nat.le_trans hs14 (Nat.le_trans hs18 (Nat.le_trans hs24 (Nat.le_trans hs30 (Nat.le_trans hs34 hs37))))) (Nat.le_of_eq hzO38))))
    · exact box_map (q ▸ bO38_0) hm28
    · cases q
  have hn4 : ¬ BX O9 O15 (.slice none 0 0) O5 := by
    rintro (q | q | q)
    · exact absurd q (Nat.ne_of_lt (Nat.lt_of_lt_of_le lt8 (Nat.le_of_eq hzO9)))
    · exact box_map (q ▸ bO5_0) hm28
    · cases q
  have hMac : Mac X42 X6.heap.size O9 O15 n (.slice none 0 0) T [] := ⟨bO9_0, bO9_1, bO9_2, OwnL.nil _ _ _ _ _, ⟨_, hm28, Placed.start T⟩, Bdd.Cl.nil n, (fun x h => by cases h), (fun h => by cases h), (Nat.le_of_eq hzO9), (Nat.le_trans (Nat.le_trans hs11 hs14) (Nat.le_of_eq hzO15))⟩
  have hw0n : w.heap.size ≤ X6.heap.size := (Nat.le_trans hs3 hs7)
  have hc47 := come_c (Bdd.sz t + 1) hB hE hw0n hMac ⟨bO32_0, bO1_0, bO38_0⟩ ⟨hnp, hnb, hnj⟩ mt (Nat.lt_succ_self _) hT hn
  refine pl_step rfl (by kernel_rfl) (by kernel_rfl) (by kernel_rfl) (sn_call (f := 97) (args := #[.int .i64 (Bdd.ix T t : Int), .pointer (some ⟨O32, 0, none⟩), .pointer (some ⟨O1, 0, none⟩), .pointer (some ⟨O38, 0, none⟩), .pointer (some ⟨O9, 0, none⟩)]) (by kernel_rfl) ((hc47).mono ?_))
  rintro e w54 ⟨v44, rfl, hs45, hM46⟩
  replace hE := hs45.wr.ext hE (fun k q => Nat.le_trans hw0n (hMac.ge k (q.elim id False.elim)))
  have hb455 := hs45.wr.box (fun q => q.elim hn4 id) bO5_0
  have hb456 := hs45.wr.box (fun q => q.elim hn4 id) bO5_1
  have hb457 := hs45.wr.box (fun q => q.elim hn4 id) bO5_2
  have hs58 := hs45.wr.size
  obtain ⟨a48, c49, rfl, hcp51⟩ : ∃ a c, v44 = .slice a (Bdd.nodes t).length c ∧ (Bdd.nodes t).length ≤ c := own_sl hM46.own
  have hge52 := own_ge hM46.own
  have hne53 := own_neB hM46.nv
  have hN50 : NdsAt w54 a48 (Bdd.nodes t).length (Bdd.nodes t) := own_nds hM46.own rfl (Nat.le_trans (Nat.le_of_eq (Bdd.rows_len _)) (Nat.le_trans (Bdd.place_len hM46.cl hM46.sub) (Nat.le_trans hT (by decide))))
  have hq0 := hM46.b0
  have hq1 := hM46.b1
  have hq2 := hM46.b2
  have hl59 := hq0.lt
  refine ⟨_, rfl, ?_⟩
  refine pl_take (.pointer (some ⟨O9, 1, none⟩)) rfl (by kernel_rfl) (by kernel_rfl) (by kernel_rfl) (by kernel_rfl) ?_
  refine pl_put rfl (by kernel_rfl) (by kernel_rfl) (sn_set (O := O9) (j := 1) (v := .int .i64 (Bdd.start t : Int)) (ex_store (p := .pointer (some ⟨O9, 1, none⟩)) (v := .int .i64 (Bdd.start t : Int)) rfl (by kernel_rfl) (by kernel_rfl) (st3 hq1.1 hq1.2)) hq1 ?_)
  intro X60 ho hv0 hk
  replace hE := ho.ext hE (Nat.le_trans (Nat.le_trans hs3 hs7) (Nat.le_of_eq hzO9))
  replace hb455 := ho.box (Nat.ne_of_gt (Nat.lt_of_lt_of_le lt8 (Nat.le_of_eq hzO9))) hb455
  replace hb456 := ho.box (Nat.ne_of_gt (Nat.lt_of_lt_of_le lt8 (Nat.le_of_eq hzO9))) hb456
  replace hb457 := ho.box (Nat.ne_of_gt (Nat.lt_of_lt_of_le lt8 (Nat.le_of_eq hzO9))) hb457
  replace hq0 := hk 0 _ (by omega) hq0
  replace hq2 := hk 2 _ (by omega) hq2
  replace hN50 := hN50.turn ho (hne53)
  have hs61 : w54.heap.size ≤ X60.heap.size := Nat.le_of_eq ho.size.symm
  clear ho hk hq1
  have hq1 := hv0; clear hv0
  refine pl_nil ?_
  refine qw_then ?_
  refine cw_seq ?_
  refine cw_plain ?_
  refine pl_take (.agg #[.int .i64 (((n : Nat) : Int) : Int), .int .i64 (Bdd.start t : Int), .slice a48 ((Bdd.nodes t).length) c49]) rfl (by kernel_rfl) (by kernel_rfl) (by kernel_rfl) (ex_load rfl (by kernel_rfl) (ld42 (hq0.1) (hq1.1) (hq2.1))) ?_
  refine pl_put rfl (by kernel_rfl) (by kernel_rfl) (sn_setK3 (O := O5) (j := 0) (v0 := .int .i64 (((n : Nat) : Int) : Int)) (v1 := .int .i64 (Bdd.start t : Int)) (v2 := .slice a48 ((Bdd.nodes t).length) c49) (ex_store (p := .pointer (some ⟨O5, 0, none⟩)) (v := .agg #[.int .i64 (((n : Nat) : Int) : Int), .int .i64 (Bdd.start t : Int), .slice a48 ((Bdd.nodes t).length) c49]) rfl (by kernel_rfl) (by kernel_rfl) (st42 hb455.1 hb455.2 hb456.1 hb456.2 hb457.1 hb457.2)) hb455 hb456 hb457 ?_)
  intro X62 ho hv0 hv1 hv2 hk
  replace hE := ho.ext hE (Nat.le_trans hs3 (Nat.le_of_eq hzO5))
  replace hq0 := ho.box (Nat.ne_of_lt (Nat.lt_of_lt_of_le lt8 (Nat.le_of_eq hzO9))) hq0
  replace hq2 := ho.box (Nat.ne_of_lt (Nat.lt_of_lt_of_le lt8 (Nat.le_of_eq hzO9))) hq2
  replace hN50 := hN50.turn ho (fun ad e => Nat.ne_of_gt (Nat.lt_of_lt_of_le (Nat.lt_of_lt_of_le lt8 (Nat.le_refl _)) (hge52 ad e)))
  replace hq1 := ho.box (Nat.ne_of_lt (Nat.lt_of_lt_of_le lt8 (Nat.le_of_eq hzO9))) hq1
  have hs63 : X60.heap.size ≤ X62.heap.size := Nat.le_of_eq ho.size.symm
  clear ho hk hb455 hb456 hb457
  have hb455 := hv0; clear hv0
  have hb456 := hv1; clear hv1
  have hb457 := hv2; clear hv2
  refine pl_nil ?_
  refine qw_then ?_
  refine cw_ret ?_
  refine qw_ret [.agg #[.int .i64 (((n : Nat) : Int) : Int), .int .i64 (Bdd.start t : Int), .slice a48 ((Bdd.nodes t).length) c49]] rfl ⟨⟨_, by kernel_rfl, res_ld (ld42 (hb455.1) (hb456.1) (hb457.1))⟩, trivial⟩ ?_
  exact ⟨_, _, rfl, hN50, hcp51, (fun ad e => Nat.le_trans hw0n (hge52 ad e)), hE⟩
set_option maxRecDepth 1000000 in
set_option maxHeartbeats 4000000 in
theorem done_c {n0 B K n : Nat} {v : Value} {T : List Bdd.D} {t : Bdd.D} (w : World) (hB : Bld w n0 B K n v T) (mt : Bdd.Mem T t) (hT : T.length ≤ 1000000000000) (hn : n ≤ 16) : Calls Tryz.prog 46 #[.pointer (some ⟨B, 0, none⟩), .int .i64 (Bdd.ix T t)] w fun e w' => ∃ E' S' a' m' c' er, e = .returned (.tuple #[.agg #[.int .i64 E', .int .i64 S', .slice a' m' c'], .int .i64 er]) ∧ OptM w.heap.size w' (Bdd.machO n t) E' S' a' m' c' er ∧ Ext w w' := by
  refine calls_cw 16 [(1, .int .i64 (Bdd.ix T t : Int)), (0, .pointer (some ⟨B, 0, none⟩))] Tryz.func46 rfl Tryz.ntmps46 (by kernel_rfl) (by kernel_rfl) (fun L => ?_)
  have hE : Ext w w := Ext.refl w
  refine cw_seq ?_
  refine cw_plain ?_
  refine pl_step rfl (by kernel_rfl) (by kernel_rfl) (by kernel_rfl) (sn_new (us := #[.int .i64 0, .int .i64 0, .slice none 0 0]) (t := 42) (by kernel_rfl) ?_)
  intro O1 X2 hO hOs hb hbx
  have hzO1 := hO; have hyO1 := hOs; clear hO hOs
  have bO1_0 : BoxAt X2 O1 0 (.int .i64 0) := hbx 0 _ rfl
  have bO1_1 : BoxAt X2 O1 1 (.int .i64 0) := hbx 1 _ rfl
  have bO1_2 : BoxAt X2 O1 2 (.slice none 0 0) := hbx 2 _ rfl
  clear hbx
  replace hE := hE.trans hb
  have hs3 := hb.size
  clear hb
  have lt4 := bO1_0.lt
  refine pl_take (.int .i64 0) rfl (by kernel_rfl) (by kernel_rfl) (by kernel_rfl) (by kernel_rfl) ?_
  refine pl_nil ?_
  refine qw_then ?_
  refine cw_seq ?_
  refine cw_plain ?_
  refine pl_take (.pointer (some ⟨B, 0, none⟩)) rfl (by kernel_rfl) (by kernel_rfl) (by kernel_rfl) (by kernel_rfl) ?_
  refine pl_take (.int .i64 (Bdd.ix T t : Int)) rfl (by kernel_rfl) (by kernel_rfl) (by kernel_rfl) (by kernel_rfl) ?_
  refine pl_step rfl (by kernel_rfl) (by kernel_rfl) (by kernel_rfl) (sn_call (f := 56) (args := #[.pointer (some ⟨B, 0, none⟩), .int .i64 (Bdd.ix T t : Int)]) (by kernel_rfl) ((machine_c _ (hB.ext hE) mt hT hn).mono ?_))
  rintro e w10 ⟨a5, c6, rfl, hN7, hcp8, hge9, hb⟩
  replace hE := hE.trans hb
  replace bO1_0 := BoxAt.ext hb bO1_0
  replace bO1_1 := BoxAt.ext hb bO1_1
  replace bO1_2 := BoxAt.ext hb bO1_2
  have hs11 := hb.size
  clear hb
  have hX12 : Ext w10 w10 := Ext.refl _
  refine ⟨_, rfl, ?_⟩
  refine pl_step rfl (by kernel_rfl) (by kernel_rfl) (by kernel_rfl) (sn_new (us := #[.int .i64 0, .int .i64 0, .slice none 0 0]) (t := 42) (by kernel_rfl) ?_)
  intro O13 X14 hO hOs hb hbx
  have hzO13 := hO; have hyO13 := hOs; clear hO hOs
  have bO13_0 : BoxAt X14 O13 0 (.int .i64 0) := hbx 0 _ rfl
  have bO13_1 : BoxAt X14 O13 1 (.int .i64 0) := hbx 1 _ rfl
  have bO13_2 : BoxAt X14 O13 2 (.slice none 0 0) := hbx 2 _ rfl
  clear hbx
  replace hE := hE.trans hb
  replace hX12 := hX12.trans hb
  have hs15 := hb.size
  clear hb
  have lt16 := bO13_0.lt
  refine pl_put rfl (by kernel_rfl) (by kernel_rfl) (sn_setK3 (O := O13) (j := 0) (v0 := .int .i64 (((n : Nat) : Int) : Int)) (v1 := .int .i64 (Bdd.start t : Int)) (v2 := .slice a5 ((Bdd.nodes t).length) c6) (ex_store (p := .pointer (some ⟨O13, 0, none⟩)) (v := .agg #[.int .i64 (((n : Nat) : Int) : Int), .int .i64 (Bdd.start t : Int), .slice a5 ((Bdd.nodes t).length) c6]) rfl (by kernel_rfl) (by kernel_rfl) (st42 bO13_0.1 bO13_0.2 bO13_1.1 bO13_1.2 bO13_2.1 bO13_2.2)) bO13_0 bO13_1 bO13_2 ?_)
  intro X17 ho hv0 hv1 hv2 hk
  replace hE := ho.ext hE (Nat.le_trans (Nat.le_trans hs3 hs11) (Nat.le_of_eq hzO13))
  replace hX12 := ho.ext hX12 (Nat.le_of_eq hzO13)
  have hs18 : X14.heap.size ≤ X17.heap.size := Nat.le_of_eq ho.size.symm
  clear ho hk bO13_0 bO13_1 bO13_2
  have bO13_0 := hv0; clear hv0
  have bO13_1 := hv1; clear hv1
  have bO13_2 := hv2; clear hv2
  refine pl_nil ?_
  refine qw_then ?_
  refine cw_seq ?_
  refine cw_seq ?_
  have hX19 : Ext X17 X17 := Ext.refl _
  by_cases hbig : (Bdd.nodes t).length ≤ 2000
  ·
    refine cw_plain ?_
    refine pl_take (.pointer (some ⟨O13, 2, none⟩)) rfl (by kernel_rfl) (by kernel_rfl) (by kernel_rfl) (by kernel_rfl) ?_
    refine pl_take (.slice a5 ((Bdd.nodes t).length) c6) rfl (by kernel_rfl) (by kernel_rfl) (by kernel_rfl) (ex_load rfl (by kernel_rfl) (ld40 (bO13_2.1))) ?_
    refine pl_take (.int .i64 ((((Bdd.nodes t).length : Nat) : Int) : Int)) rfl (by kernel_rfl) (by kernel_rfl) (by kernel_rfl) (by kernel_rfl) ?_
    refine pl_take (.bool false) rfl (by kernel_rfl) (by kernel_rfl) (by kernel_rfl) (ev_ndec (show _ = Result.ok (Next.value (Value.bool (decide (((((Bdd.nodes t).length : Nat) : Int) : Int) > (2000 : Int))))) _ from by kernel_rfl) (by omega)) ?_
    refine pl_nil ?_
    refine qw_then ?_
    refine cw_f (by kernel_rfl) ?_
    refine cw_skip ?_
    refine qw_then ?_
    refine cw_seq ?_
    refine cw_plain ?_
    refine pl_take (.agg #[.int .i64 (((n : Nat) : Int) : Int), .int .i64 (Bdd.start t : Int), .slice a5 ((Bdd.nodes t).length) c6]) rfl (by kernel_rfl) (by kernel_rfl) (by kernel_rfl) (ex_load rfl (by kernel_rfl) (ld42 (bO13_0.1) (bO13_1.1) (bO13_2.1))) ?_
    have bO1_t21 := (BoxAt.ext hX12 bO1_0)
    have bO1_t22 := (BoxAt.ext hX12 bO1_1)
    have bO1_t23 := (BoxAt.ext hX12 bO1_2)
    have hNt24 := (hN7.ext hX12)
    have bO13_t25 := bO13_0
    have bO13_t26 := bO13_1
    have bO13_t27 := bO13_2
    refine pl_put rfl (by kernel_rfl) (by kernel_rfl) (sn_setK3 (O := O1) (j := 0) (v0 := .int .i64 (((n : Nat) : Int) : Int)) (v1 := .int .i64 (Bdd.start t : Int)) (v2 := .slice a5 ((Bdd.nodes t).length) c6) (ex_store (p := .pointer (some ⟨O1, 0, none⟩)) (v := .agg #[.int .i64 (((n : Nat) : Int) : Int), .int .i64 (Bdd.start t : Int), .slice a5 ((Bdd.nodes t).length) c6]) rfl (by kernel_rfl) (by kernel_rfl) (st42 bO1_t21.1 bO1_t21.2 bO1_t22.1 bO1_t22.2 bO1_t23.1 bO1_t23.2)) bO1_t21 bO1_t22 bO1_t23 ?_)
    intro X20 ho hv0 hv1 hv2 hk
    replace hE := ho.ext hE (Nat.le_of_eq hzO1)
    replace hNt24 := hNt24.turn ho (fun ad e => Nat.ne_of_gt (Nat.lt_of_lt_of_le (Nat.lt_of_lt_of_le lt4 (Nat.le_refl _)) (hge9 ad e)))
    replace bO13_t25 := ho.box (Nat.ne_of_lt (Nat.lt_of_lt_of_le lt4 (Nat.le_trans hs11 (Nat.le_of_eq hzO13)))) bO13_t25
    replace bO13_t26 := ho.box (Nat.ne_of_lt (Nat.lt_of_lt_of_le lt4 (Nat.le_trans hs11 (Nat.le_of_eq hzO13)))) bO13_t26
    replace bO13_t27 := ho.box (Nat.ne_of_lt (Nat.lt_of_lt_of_le lt4 (Nat.le_trans hs11 (Nat.le_of_eq hzO13)))) bO13_t27
    have hs28 : X17.heap.size ≤ X20.heap.size := Nat.le_of_eq ho.size.symm
    clear ho hk bO1_t21 bO1_t22 bO1_t23
    have bO1_t21 := hv0; clear hv0
    have bO1_t22 := hv1; clear hv1
    have bO1_t23 := hv2; clear hv2
    refine pl_take (.int .i64 0) rfl (by kernel_rfl) (by kernel_rfl) (by kernel_rfl) (by kernel_rfl) ?_
    refine pl_nil ?_
    refine qw_then ?_
    refine cw_ret ?_
    refine qw_ret [.agg #[.int .i64 (((n : Nat) : Int) : Int), .int .i64 (Bdd.start t : Int), .slice a5 ((Bdd.nodes t).length) c6], .int .i64 0] rfl ⟨⟨_, by kernel_rfl, res_ld (ld42 (bO1_t21.1) (bO1_t22.1) (bO1_t23.1))⟩, (by kernel_rfl), trivial⟩ ?_
    exact ⟨_, _, _, _, _, _, rfl, .inl ⟨_, if_pos hbig, rfl, hNt24, hcp8, (fun ad e => Nat.le_trans hs3 (hge9 ad e))⟩, hE⟩
  ·
    refine cw_plain ?_
    refine pl_take (.pointer (some ⟨O13, 2, none⟩)) rfl (by kernel_rfl) (by kernel_rfl) (by kernel_rfl) (by kernel_rfl) ?_
    refine pl_take (.slice a5 ((Bdd.nodes t).length) c6) rfl (by kernel_rfl) (by kernel_rfl) (by kernel_rfl) (ex_load rfl (by kernel_rfl) (ld40 (bO13_2.1))) ?_
    refine pl_take (.int .i64 ((((Bdd.nodes t).length : Nat) : Int) : Int)) rfl (by kernel_rfl) (by kernel_rfl) (by kernel_rfl) (by kernel_rfl) ?_
    refine pl_take (.bool true) rfl (by kernel_rfl) (by kernel_rfl) (by kernel_rfl) (ev_dec (show _ = Result.ok (Next.value (Value.bool (decide (((((Bdd.nodes t).length : Nat) : Int) : Int) > (2000 : Int))))) _ from by kernel_rfl) (by omega)) ?_
    refine pl_nil ?_
    refine qw_then ?_
    refine cw_t (by kernel_rfl) ?_
    refine cw_seq ?_
    refine cw_plain ?_
    refine pl_take (.agg #[.int .i64 0, .int .i64 0, .slice none 0 0]) rfl (by kernel_rfl) (by kernel_rfl) (by kernel_rfl) (by kernel_rfl) ?_
    have bO1_t30 := (BoxAt.ext hX12 bO1_0)
    have bO1_t31 := (BoxAt.ext hX12 bO1_1)
    have bO1_t32 := (BoxAt.ext hX12 bO1_2)
    have hNt33 := (hN7.ext hX12)
    have bO13_t34 := bO13_0
    have bO13_t35 := bO13_1
    have bO13_t36 := bO13_2
    refine pl_put rfl (by kernel_rfl) (by kernel_rfl) (sn_setK3 (O := O1) (j := 0) (v0 := .int .i64 0) (v1 := .int .i64 0) (v2 := .slice none 0 0) (ex_store (p := .pointer (some ⟨O1, 0, none⟩)) (v := .agg #[.int .i64 0, .int .i64 0, .slice none 0 0]) rfl (by kernel_rfl) (by kernel_rfl) (st42 bO1_t30.1 bO1_t30.2 bO1_t31.1 bO1_t31.2 bO1_t32.1 bO1_t32.2)) bO1_t30 bO1_t31 bO1_t32 ?_)
    intro X29 ho hv0 hv1 hv2 hk
    replace hE := ho.ext hE (Nat.le_of_eq hzO1)
    replace hNt33 := hNt33.turn ho (fun ad e => Nat.ne_of_gt (Nat.lt_of_lt_of_le (Nat.lt_of_lt_of_le lt4 (Nat.le_refl _)) (hge9 ad e)))
    replace bO13_t34 := ho.box (Nat.ne_of_lt (Nat.lt_of_lt_of_le lt4 (Nat.le_trans hs11 (Nat.le_of_eq hzO13)))) bO13_t34
    replace bO13_t35 := ho.box (Nat.ne_of_lt (Nat.lt_of_lt_of_le lt4 (Nat.le_trans hs11 (Nat.le_of_eq hzO13)))) bO13_t35
    replace bO13_t36 := ho.box (Nat.ne_of_lt (Nat.lt_of_lt_of_le lt4 (Nat.le_trans hs11 (Nat.le_of_eq hzO13)))) bO13_t36
    have hs37 : X17.heap.size ≤ X29.heap.size := Nat.le_of_eq ho.size.symm
    clear ho hk bO1_t30 bO1_t31 bO1_t32
    have bO1_t30 := hv0; clear hv0
    have bO1_t31 := hv1; clear hv1
    have bO1_t32 := hv2; clear hv2
    refine pl_take (.int .i64 140) rfl (by kernel_rfl) (by kernel_rfl) (by kernel_rfl) (by kernel_rfl) ?_
    refine pl_nil ?_
    refine qw_then ?_
    refine cw_ret ?_
    refine qw_then_ret ?_
    refine qw_ret [.agg #[.int .i64 0, .int .i64 0, .slice none 0 0], .int .i64 140] rfl ⟨⟨_, by kernel_rfl, res_ld (ld42 (bO1_t30.1) (bO1_t31.1) (bO1_t32.1))⟩, (by kernel_rfl), trivial⟩ ?_
    exact ⟨_, _, _, _, _, _, rfl, .inr ⟨if_neg hbig, rfl, rfl, rfl, rfl, rfl, rfl⟩, hE⟩

instance {lo : Nat} {w w' : World} {o : Option (Int × Int × List Nod)} {E S : Int} {a : Option Addr} {m c : Nat} {er : Int} : MvC w w' (OptM lo w o E S a m c er) (OptM lo w' o E S a m c er) := ⟨fun e h => h.ext e⟩
end Go.Proofs.YtpfajhcdfgpgmaaGreatDoor

namespace Go.Proofs.YtpfajhcdfgpgmaaGreatDoor
open Bdd (rwN)
variable {N1 N2 : List Nod} {w1 w2 : World} {a1 a2 : Option Addr} {m1 m2 : Nat} {E1 E2 S1 S2 : Int}
set_option maxRecDepth 1000000
set_option maxHeartbeats 4000000
set_option synthInstance.maxHeartbeats 0
set_option synthInstance.maxSize 9999
open Go.RowKit
theorem nods_ext (hl : N1.length = N2.length) (h : ∀ j, j < N1.length → rwN N1 j = rwN N2 j) : N1 = N2 := List.ext_getElem? fun i => by
 rcases Nat.lt_or_ge i N1.length with q | q
 · rw [Bdd.rwN_at q, Bdd.rwN_at (hl ▸ q), h i q]
 · rw [List.getElem?_eq_none q, List.getElem?_eq_none (hl ▸ q)]
theorem Equal_c (c1 c2 : Nat) (w : World) (H1 : NdsAt w1 a1 m1 N1) (e1 : Ext w1 w) (H2 : NdsAt w2 a2 m2 N2) (e2 : Ext w2 w) : Calls Tryz.prog 72 #[.slice a1 m1 c1, .slice a2 m2 c2] w fun e w' => e = .returned (.bool (decide (N1 = N2))) ∧ Ext w w' := by
 replace H1 := H1.ext e1;clear e1;replace H2 := H2.ext e2;clear e2;obtain ⟨b1, o1, B5, B2, B0⟩ := H1.parts;have Ba := H1.len;obtain ⟨b2, o2, B6, B3, B1⟩ := H2.parts;have Bc := H2.len;have Be := H1.max;have Bf := H2.max;refine calls_cw 26 [(1, .slice a2 m2 c2), (0, .slice a1 m1 c1)] Tryz.func72 rfl Tryz.ntmps72 (by kernel_rfl) (by kernel_rfl) (fun L => ?_);have hE := er_ w;refine zc (zp (pT (.bool false) ?_));refine zn (zc (zc (zp (pD (.slice a1 m1 c1) (iv m1) ?_))));refine pD (.slice a2 m2 c2) (iv m2) ?_
 by_cases B4 : ((m1 : Nat) : Int) = ((m2 : Nat) : Int)
 ·
  refine pU (.bool false) (ev_nne (show _ = Result.ok (Next.value (Value.bool (((m1 : Nat) : Int) != ((m2 : Nat) : Int)))) _ from by kernel_rfl) (B4)) ?_;refine zn (zf ?_);refine cs_ (zq (zc (zc (zp (pD (.slice a1 m1 c1) (iv m1) ?_)))));refine pT (iv 0) ?_;refine zn (cb_ ?_);refine cw_loop [0, 1, 12, 13] (fun ws' wr m => ∃ i : Nat, ws' = [(0, .slice a1 m1 c1), (1, .slice a2 m2 c2), (12, iv m1), (13, iv i)] ∧ m = m1 - i ∧ w.heap.size ≤ wr.heap.size ∧ Ext w wr ∧ i ≤ m1 ∧ (∀ j, j < i → rwN N1 j = rwN N2 j)) (ws0 := [(0, .slice a1 m1 c1), (1, .slice a2 m2 c2), (12, iv m1), (13, iv 0)]) (by kernel_rfl) _ ⟨0, rfl, rfl, nr_ _, hE, Nat.zero_le _, (fun j hj => absurd hj (Nat.not_lt_zero j))⟩ ?_;clear hE;rintro m4 L ws w3 ⟨i, rfl, rfl, Bg, hE, hi, hq⟩
  by_cases hlt : i < m1
  ·
   obtain rfl := B5 (by omega);have B7 := B2 (by omega);obtain rfl := B6 (by omega);have B8 := B3 (by omega);refine zc (zp (pU (.bool true) (ed (((i : Nat) : Int) < ((m1 : Nat) : Int)) (by omega)) ?_));refine zn (zc (zt ?_));refine cs_ (zq (zc (cb_ ?_)));refine zc (zp (pD (iv i) (iv i) ?_));refine zn (cw_seq ?_)
   by_cases heq : rwN N1 i = rwN N2 i
   ·
    refine dT (fun w' => w'.cell? ⟨b1, o1 + i * 3, none⟩ = some (iv ((rwN N1 i).1)) ∧ w'.cell? ⟨b1, o1 + i * 3 + 1, none⟩ = some (iv ((rwN N1 i).2.1)) ∧ w'.cell? ⟨b1, o1 + i * 3 + 2, none⟩ = some (iv ((rwN N1 i).2.2)) ∧ w'.cell? ⟨b2, o2 + i * 3, none⟩ = some (iv ((rwN N2 i).1)) ∧ w'.cell? ⟨b2, o2 + i * 3 + 1, none⟩ = some (iv ((rwN N2 i).2.1)) ∧ w'.cell? ⟨b2, o2 + i * 3 + 2, none⟩ = some (iv ((rwN N2 i).2.2))) (⟨(B0.ext hE).c0 (i := i) (by omega), (B0.ext hE).c1 (i := i) (by omega), (B0.ext hE).c2 (i := i) (by omega), (B1.ext hE).c0 (i := i) (by omega), (B1.ext hE).c1 (i := i) (by omega), (B1.ext hE).c2 (i := i) (by omega)⟩) (fun ops Q X5 hb hL hR hK => ?_);replace hE := hE.trans hb;have Bh := hb.size;have hS := A6 ((B0.ext hE).c0 (i := i) (by omega)) ((B0.ext hE).c1 (i := i) (by omega)) ((B0.ext hE).c2 (i := i) (by omega)) ((B1.ext hE).c0 (i := i) (by omega)) ((B1.ext hE).c1 (i := i) (by omega)) ((B1.ext hE).c2 (i := i) (by omega));refine wW 0 (sv b1 o1 m1 c1) 1 (iv i) hR hS ?_;refine wL 2 (pw b1 (o1 + i * 3)) hR (fun w _ => ex_index (p := sv b1 o1 m1 c1) (i := iv i) rfl (by kernel_rfl) (by kernel_rfl) (ix40 (k := i) (by omega))) hS ?_;refine wM 3 (nw ((rwN N1 i).1) ((rwN N1 i).2.1) ((rwN N1 i).2.2)) hR (fun w hS => ld56 (hS.1) (hS.2.1) (hS.2.2.1)) hS ?_;refine wW 4 (sv b2 o2 m2 c2) 5 (iv i) hR hS ?_;refine wL 6 (pw b2 (o2 + i * 3)) hR (fun w _ => ex_index (p := sv b2 o2 m2 c2) (i := iv i) rfl (by kernel_rfl) (by kernel_rfl) (ix40 (k := i) (by omega))) hS ?_;refine wM 7 (nw ((rwN N2 i).1) ((rwN N2 i).2.1) ((rwN N2 i).2.2)) hR (fun w hS => ld56 (hS.2.2.2.1) (hS.2.2.2.2.1) (hS.2.2.2.2.2)) hS ?_;refine wL 8 (.bool false) hR (fun w _ => ex_binV (a := nw ((rwN N1 i).1) ((rwN N1 i).2.1) ((rwN N1 i).2.2)) (b := nw ((rwN N2 i).1) ((rwN N2 i).2.1) ((rwN N2 i).2.2)) rfl (by kernel_rfl) (by kernel_rfl) (eqG_agg (by kernel_rfl)) (bin_nqv_t (nod_eq _ ((((rwN N1 i).1, (rwN N1 i).2.1, (rwN N1 i).2.2) : Nod)) ((((rwN N2 i).1, (rwN N2 i).2.1, (rwN N2 i).2.2) : Nod))) heq)) hS ?_;refine we hL hR hK ?_;refine zq (cK [0,1,12,13,24] (fun L => ?_));refine zf ?_;refine cs_ (qw_block (zq (zp (pU (nv (i + 1)) (ew (by omega) (by omega)) ?_))));refine pT (nv (i + 1)) ?_;refine pl_nil (zr [0, 1, 12, 13] _ ?_ ⟨(i + 1), rfl, rfl, (Tq Bg Bh), hE, by omega, (fun j hj => by rcases Nat.lt_succ_iff_lt_or_eq.1 hj with h | h; exact hq j h; rw [h]; exact heq)⟩);omega
   ·
    refine dT (fun w' => w'.cell? ⟨b1, o1 + i * 3, none⟩ = some (iv ((rwN N1 i).1)) ∧ w'.cell? ⟨b1, o1 + i * 3 + 1, none⟩ = some (iv ((rwN N1 i).2.1)) ∧ w'.cell? ⟨b1, o1 + i * 3 + 2, none⟩ = some (iv ((rwN N1 i).2.2)) ∧ w'.cell? ⟨b2, o2 + i * 3, none⟩ = some (iv ((rwN N2 i).1)) ∧ w'.cell? ⟨b2, o2 + i * 3 + 1, none⟩ = some (iv ((rwN N2 i).2.1)) ∧ w'.cell? ⟨b2, o2 + i * 3 + 2, none⟩ = some (iv ((rwN N2 i).2.2))) (⟨(B0.ext hE).c0 (i := i) (by omega), (B0.ext hE).c1 (i := i) (by omega), (B0.ext hE).c2 (i := i) (by omega), (B1.ext hE).c0 (i := i) (by omega), (B1.ext hE).c1 (i := i) (by omega), (B1.ext hE).c2 (i := i) (by omega)⟩) (fun ops Q X7 hb hL hR hK => ?_);replace hE := hE.trans hb;have Bi := hb.size;have hS := A6 ((B0.ext hE).c0 (i := i) (by omega)) ((B0.ext hE).c1 (i := i) (by omega)) ((B0.ext hE).c2 (i := i) (by omega)) ((B1.ext hE).c0 (i := i) (by omega)) ((B1.ext hE).c1 (i := i) (by omega)) ((B1.ext hE).c2 (i := i) (by omega));refine wW 0 (sv b1 o1 m1 c1) 1 (iv i) hR hS ?_;refine wL 2 (pw b1 (o1 + i * 3)) hR (fun w _ => ex_index (p := sv b1 o1 m1 c1) (i := iv i) rfl (by kernel_rfl) (by kernel_rfl) (ix40 (k := i) (by omega))) hS ?_;refine wM 3 (nw ((rwN N1 i).1) ((rwN N1 i).2.1) ((rwN N1 i).2.2)) hR (fun w hS => ld56 (hS.1) (hS.2.1) (hS.2.2.1)) hS ?_;refine wW 4 (sv b2 o2 m2 c2) 5 (iv i) hR hS ?_;refine wL 6 (pw b2 (o2 + i * 3)) hR (fun w _ => ex_index (p := sv b2 o2 m2 c2) (i := iv i) rfl (by kernel_rfl) (by kernel_rfl) (ix40 (k := i) (by omega))) hS ?_;refine wM 7 (nw ((rwN N2 i).1) ((rwN N2 i).2.1) ((rwN N2 i).2.2)) hR (fun w hS => ld56 (hS.2.2.2.1) (hS.2.2.2.2.1) (hS.2.2.2.2.2)) hS ?_;refine wL 8 (.bool true) hR (fun w _ => ex_binV (a := nw ((rwN N1 i).1) ((rwN N1 i).2.1) ((rwN N1 i).2.2)) (b := nw ((rwN N2 i).1) ((rwN N2 i).2.1) ((rwN N2 i).2.2)) rfl (by kernel_rfl) (by kernel_rfl) (eqG_agg (by kernel_rfl)) (bin_nqv_f (nod_eq _ ((((rwN N1 i).1, (rwN N1 i).2.1, (rwN N1 i).2.2) : Nod)) ((((rwN N2 i).1, (rwN N2 i).2.1, (rwN N2 i).2.2) : Nod))) heq)) hS ?_;refine we hL hR hK ?_;refine zq (cK [0,1,12,13,24] (fun L => ?_));refine zt ?_;refine zc (zp (pT (.bool false) ?_));refine zn (ct_ (qb (qt (qt (qb (qt (zR (.bool false) ?_)))))));exact ⟨congrArg (fun z => Ending.returned (Value.bool z)) (decide_eq_false (fun q => heq (by rw [q]))).symm, hE⟩
  ·
   refine zc (zp (pU (.bool false) (en (((i : Nat) : Int) < ((m1 : Nat) : Int)) (by omega)) ?_));refine zn (zc (zf ?_));refine cx_ (qx (qx (qo (zq (zc (zp (pT (.bool true) ?_)))))));refine zn (ct_ (zR (.bool true) ?_));exact ⟨congrArg (fun z => Ending.returned (Value.bool z)) (decide_eq_true (nods_ext (by omega) fun j hj => hq j (by omega))).symm, hE⟩
 ·
  refine pU (.bool true) (eM ((m1 : Nat) : Int) ((m2 : Nat) : Int) (B4)) ?_;refine zn (zt ?_);refine zc (zp (pT (.bool false) ?_));refine zn (ct_ (qt (zR (.bool false) ?_)));exact ⟨congrArg (fun z => Ending.returned (Value.bool z)) (decide_eq_false (fun q => by subst q; omega)).symm, hE⟩
theorem Same_c (c1 c2 : Nat) (w : World) (H1 : NdsAt w1 a1 m1 N1) (e1 : Ext w1 w) (H2 : NdsAt w2 a2 m2 N2) (e2 : Ext w2 w) : Calls Tryz.prog 34 #[mw E1 S1 a1 m1 c1, mw E2 S2 a2 m2 c2] w fun e w' => e = .returned (.bool (decide (E1 = E2 ∧ S1 = S2 ∧ N1 = N2))) ∧ Ext w w' := by
 replace H1 := H1.ext e1;clear e1;replace H2 := H2.ext e2;clear e2;refine calls_cw 24 [(1, mw E2 S2 a2 m2 c2), (0, mw E1 S1 a1 m1 c1)] Tryz.func34 rfl Tryz.ntmps34 (by kernel_rfl) (by kernel_rfl) (fun L => ?_);have hE := er_ w;refine zc (zp (pS (sw 42 #[iv E1, iv S1, .slice a1 m1 c1] ?_)));intro O1 X2 Be Ba hb hbx;have ⟨B0, B1, B2⟩ := bq3 hbx;replace hE := hE.trans hb;have Bg := hb.size;have Bi := B0.lt;refine pS (sw 42 #[iv E2, iv S2, .slice a2 m2 c2] ?_);intro O5 X6 Bf Bc hb hbx;have ⟨B3, B4, B5⟩ := bq3 hbx;refine mv4 hb hE B0 B1 B2 fun hE B0 B1 B2=>?_;have Bh := hb.size;have Bj := B3.lt;refine pT (.bool false) ?_;refine zn (zc (zp (pT (pw O1 0) ?_)));refine pU (iv E1) (xl (ld3 (B0.1))) ?_;refine pT (pw O5 0) ?_;refine pU (iv E2) (xl (ld3 (B3.1))) ?_
 by_cases B7 : (E1 : Int) = (E2 : Int)
 ·
  refine pU (.bool true) (eE (E1 : Int) (E2 : Int) (B7)) ?_;refine pD (.bool true) (pw O1 1) ?_;refine pU (iv S1) (xl (ld3 (B1.1))) ?_;refine pT (pw O5 1) ?_;refine pU (iv S2) (xl (ld3 (B4.1))) ?_
  by_cases B6 : (S1 : Int) = (S2 : Int)
  ·
   refine pU (.bool true) (eE (S1 : Int) (S2 : Int) (B6)) ?_;refine pD (.bool true) (.bool true) ?_;refine pT (pw O1 2) ?_;refine pU (.slice a1 m1 c1) (xl (ld40 (B2.1))) ?_;refine pT (pw O5 2) ?_;refine pU (.slice a2 m2 c2) (xl (ld40 (B5.1))) ?_;refine pS (sc 72 #[.slice a1 m1 c1, .slice a2 m2 c2] ((Equal_c _ _ _ (H1.ext hE) (er_ _) (H2.ext hE) (er_ _)).mono ?_));rintro e Bk ⟨rfl, hb⟩;replace hE := hE.trans hb;have B8 := hb.size;refine ⟨_, rfl, pD (.bool (decide (N1 = N2))) (.bool (decide (N1 = N2))) ?_⟩;refine zn (cK [4] (fun L => ?_));refine ct_ (zR (.bool (decide (N1 = N2))) ?_);exact ⟨congrArg (fun z => Ending.returned (Value.bool z)) (decide_eq_decide.2 ⟨fun q => ⟨B7, B6, q⟩, fun q => q.2.2⟩), hE⟩
  ·
   refine pU (.bool false) (eN (S1 : Int) (S2 : Int) (B6)) ?_;refine pD (.bool false) (.bool false) ?_;refine pK ?_;refine pK ?_;refine pK ?_;refine pK ?_;refine pK ?_;refine pD (.bool false) (.bool false) ?_;refine zn (cK [4] (fun L => ?_));refine ct_ (zR (.bool false) ?_);exact ⟨congrArg (fun z => Ending.returned (Value.bool z)) (decide_eq_false (fun q => B6 q.2.1)).symm, hE⟩
 ·
  refine pU (.bool false) (eN (E1 : Int) (E2 : Int) (B7)) ?_;refine pT (.bool false) ?_;refine pK ?_;refine pK ?_;refine pK ?_;refine pK ?_;refine pK ?_;refine pD (.bool false) (.bool false) ?_;refine pK ?_;refine pK ?_;refine pK ?_;refine pK ?_;refine pK ?_;refine pD (.bool false) (.bool false) ?_;refine zn (cK [4] (fun L => ?_));refine ct_ (zR (.bool false) ?_);exact ⟨congrArg (fun z => Ending.returned (Value.bool z)) (decide_eq_false (fun q => B7 q.1)).symm, hE⟩
theorem rmSame_c (c1 c2 : Nat) (w : World) (H1 : NdsAt w1 a1 m1 N1) (e1 : Ext w1 w) (H2 : NdsAt w2 a2 m2 N2) (e2 : Ext w2 w) : Calls Tryz.prog 12 #[mw E1 S1 a1 m1 c1, mw E2 S2 a2 m2 c2] w fun e w' => e = .returned (.bool (decide (E1 = E2 ∧ S1 = S2 ∧ N1 = N2))) ∧ Ext w w' := by
 replace H1 := H1.ext e1;clear e1;replace H2 := H2.ext e2;clear e2;obtain ⟨b1, o1, Bj, Be, B4⟩ := H1.parts;have Bo := H1.len;obtain ⟨b2, o2, Bk, Bf, B5⟩ := H2.parts;have Bp := H2.len;have Bq := H1.max;have Br := H2.max;refine calls_cw 45 [(1, mw E2 S2 a2 m2 c2), (0, mw E1 S1 a1 m1 c1)] Tryz.func12 rfl Tryz.ntmps12 (by kernel_rfl) (by kernel_rfl) (fun L => ?_);have hE := er_ w;refine zc (zp (pS (sw 42 #[iv E1, iv S1, .slice a1 m1 c1] ?_)));intro O1 X2 Bv Bt hb hbx;have ⟨B3, B6, B1⟩ := bq3 hbx;replace hE := hE.trans hb;have C0 := hb.size;have C2 := B3.lt;refine pS (sw 42 #[iv E2, iv S2, .slice a2 m2 c2] ?_);intro O5 X6 Bw Bu hb hbx;have ⟨B7, B8, B2⟩ := bq3 hbx;refine mv4 hb hE B3 B6 B1 fun hE B3 B6 B1=>?_;have C1 := hb.size;have C3 := B7.lt;refine pT (.bool false) ?_;refine zn (zc (zc (zp (pT (pw O1 0) ?_))));refine pU (iv E1) (xl (ld3 (B3.1))) ?_;refine pT (pw O5 0) ?_;refine pU (iv E2) (xl (ld3 (B7.1))) ?_
 by_cases Bi : (E1 : Int) = (E2 : Int)
 ·
  refine pU (.bool false) (ev_nne (show _ = Result.ok (Next.value (Value.bool ((E1 : Int) != (E2 : Int)))) _ from by kernel_rfl) (Bi)) ?_;refine pD (.bool false) (pw O1 1) ?_;refine pU (iv S1) (xl (ld3 (B6.1))) ?_;refine pT (pw O5 1) ?_;refine pU (iv S2) (xl (ld3 (B8.1))) ?_
  by_cases Ba : (S1 : Int) = (S2 : Int)
  ·
   refine pU (.bool false) (ev_nne (show _ = Result.ok (Next.value (Value.bool ((S1 : Int) != (S2 : Int)))) _ from by kernel_rfl) (Ba)) ?_;refine pD (.bool false) (.bool false) ?_;refine pT (pw O1 2) ?_;refine pU (.slice a1 m1 c1) (xl (ld40 (B1.1))) ?_;refine pD (iv m1) (pw O5 2) ?_;refine pU (.slice a2 m2 c2) (xl (ld40 (B2.1))) ?_;refine pT (iv m2) ?_
   by_cases Bc : ((m1 : Nat) : Int) = ((m2 : Nat) : Int)
   ·
    refine pU (.bool false) (ev_nne (show _ = Result.ok (Next.value (Value.bool (((m1 : Nat) : Int) != ((m2 : Nat) : Int)))) _ from by kernel_rfl) (Bc)) ?_;refine pT (.bool false) ?_;refine zn (cK [2,3,26] (fun L => ?_));refine zf ?_;refine cs_ (zq (zc (zc (zp (pT (iv 0) ?_)))));refine zn (cb_ ?_);have B0 := er_ X6;refine cw_loop [2, 3, 5] (fun ws' wr m => ∃ i : Nat, ws' = [(2, pw O1 0), (3, pw O5 0), (5, iv i)] ∧ m = m1 - i ∧ X6.heap.size ≤ wr.heap.size ∧ Ext w wr ∧ Ext X6 wr ∧ i ≤ m1 ∧ (∀ j, j < i → rwN N1 j = rwN N2 j)) (ws0 := [(2, pw O1 0), (3, pw O5 0), (5, iv 0)]) (by kernel_rfl) _ ⟨0, rfl, rfl, nr_ _, hE, B0, Nat.zero_le _, (fun j hj => absurd hj (Nat.not_lt_zero j))⟩ ?_;clear hE B0;rintro C4 L ws C5 ⟨i, rfl, rfl, Bg, hE, B0, hi, hq⟩
    by_cases hlt : i < m1
    ·
     obtain rfl := Bj (by omega);have Bl := Be (by omega);obtain rfl := Bk (by omega);have Bm := Bf (by omega);refine zc (zc (zp (pD (iv i) (pw O1 2) ?_)));refine pU (sv b1 o1 m1 c1) (xl (ld40 (B1.c B0))) ?_;refine pT (iv m1) ?_;refine pU (.bool true) (ed (((i : Nat) : Int) < ((m1 : Nat) : Int)) (by omega)) ?_;refine zn (zt ?_);refine cs_ (zq (zc (cb_ ?_)));refine cw_seq ?_
     by_cases heq : rwN N1 i = rwN N2 i
     ·
      refine dT (fun w' => w'.cell? ⟨O1, 2, none⟩ = some (sv b1 o1 m1 c1) ∧ w'.cell? ⟨b1, o1 + i * 3, none⟩ = some (iv ((rwN N1 i).1)) ∧ w'.cell? ⟨b1, o1 + i * 3 + 1, none⟩ = some (iv ((rwN N1 i).2.1)) ∧ w'.cell? ⟨b1, o1 + i * 3 + 2, none⟩ = some (iv ((rwN N1 i).2.2)) ∧ w'.cell? ⟨O5, 2, none⟩ = some (sv b2 o2 m2 c2) ∧ w'.cell? ⟨b2, o2 + i * 3, none⟩ = some (iv ((rwN N2 i).1)) ∧ w'.cell? ⟨b2, o2 + i * 3 + 1, none⟩ = some (iv ((rwN N2 i).2.1)) ∧ w'.cell? ⟨b2, o2 + i * 3 + 2, none⟩ = some (iv ((rwN N2 i).2.2))) (⟨(B1.x B0).1, (B4.ext hE).c0 (i := i) (by omega), (B4.ext hE).c1 (i := i) (by omega), (B4.ext hE).c2 (i := i) (by omega), (B2.x B0).1, (B5.ext hE).c0 (i := i) (by omega), (B5.ext hE).c1 (i := i) (by omega), (B5.ext hE).c2 (i := i) (by omega)⟩) (fun ops Q Bx hb hL hR hK => ?_);refine mv2 hb hE B0 fun hE B0=>?_;have Bh := hb.size;have hS := A8 (B1.c B0) ((B4.ext hE).c0 (i := i) (by omega)) ((B4.ext hE).c1 (i := i) (by omega)) ((B4.ext hE).c2 (i := i) (by omega)) (B2.c B0) ((B5.ext hE).c0 (i := i) (by omega)) ((B5.ext hE).c1 (i := i) (by omega)) ((B5.ext hE).c2 (i := i) (by omega));refine wV 0 (pw O1 2) hR hS ?_;refine wM 1 (sv b1 o1 m1 c1) hR (fun w hS => ld40 (hS.1)) hS ?_;refine wV 2 (iv i) hR hS ?_;refine wL 3 (pw b1 (o1 + i * 3)) hR (fun w _ => ex_index (p := sv b1 o1 m1 c1) (i := iv i) rfl (by kernel_rfl) (by kernel_rfl) (ix40 (k := i) (by omega))) hS ?_;refine wM 4 (nw ((rwN N1 i).1) ((rwN N1 i).2.1) ((rwN N1 i).2.2)) hR (fun w hS => ld56 (hS.2.1) (hS.2.2.1) (hS.2.2.2.1)) hS ?_;refine wV 5 (pw O5 2) hR hS ?_;refine wM 6 (sv b2 o2 m2 c2) hR (fun w hS => ld40 (hS.2.2.2.2.1)) hS ?_;refine wV 7 (iv i) hR hS ?_;refine wL 8 (pw b2 (o2 + i * 3)) hR (fun w _ => ex_index (p := sv b2 o2 m2 c2) (i := iv i) rfl (by kernel_rfl) (by kernel_rfl) (ix40 (k := i) (by omega))) hS ?_;refine wM 9 (nw ((rwN N2 i).1) ((rwN N2 i).2.1) ((rwN N2 i).2.2)) hR (fun w hS => ld56 (hS.2.2.2.2.2.1) (hS.2.2.2.2.2.2.1) (hS.2.2.2.2.2.2.2)) hS ?_;refine wL 10 (.bool false) hR (fun w _ => ex_binV (a := nw ((rwN N1 i).1) ((rwN N1 i).2.1) ((rwN N1 i).2.2)) (b := nw ((rwN N2 i).1) ((rwN N2 i).2.1) ((rwN N2 i).2.2)) rfl (by kernel_rfl) (by kernel_rfl) (eqG_agg (by kernel_rfl)) (bin_nqv_t (nod_eq _ ((((rwN N1 i).1, (rwN N1 i).2.1, (rwN N1 i).2.2) : Nod)) ((((rwN N2 i).1, (rwN N2 i).2.1, (rwN N2 i).2.2) : Nod))) heq)) hS ?_;refine we hL hR hK ?_;refine zq (cK [2,3,5,44] (fun L => ?_));refine zf ?_;refine cs_ (qw_block (zq (zp (pT (iv i) ?_))));refine pU (nv (i + 1)) (ew (by omega) (by omega)) ?_;refine pT (nv (i + 1)) ?_;refine pl_nil (zr [2, 3, 5] _ ?_ ⟨(i + 1), rfl, rfl, (Tq Bg Bh), hE, B0, by omega, (fun j hj => by rcases Nat.lt_succ_iff_lt_or_eq.1 hj with h | h; exact hq j h; rw [h]; exact heq)⟩);omega
     ·
      refine dT (fun w' => w'.cell? ⟨O1, 2, none⟩ = some (sv b1 o1 m1 c1) ∧ w'.cell? ⟨b1, o1 + i * 3, none⟩ = some (iv ((rwN N1 i).1)) ∧ w'.cell? ⟨b1, o1 + i * 3 + 1, none⟩ = some (iv ((rwN N1 i).2.1)) ∧ w'.cell? ⟨b1, o1 + i * 3 + 2, none⟩ = some (iv ((rwN N1 i).2.2)) ∧ w'.cell? ⟨O5, 2, none⟩ = some (sv b2 o2 m2 c2) ∧ w'.cell? ⟨b2, o2 + i * 3, none⟩ = some (iv ((rwN N2 i).1)) ∧ w'.cell? ⟨b2, o2 + i * 3 + 1, none⟩ = some (iv ((rwN N2 i).2.1)) ∧ w'.cell? ⟨b2, o2 + i * 3 + 2, none⟩ = some (iv ((rwN N2 i).2.2))) (⟨(B1.x B0).1, (B4.ext hE).c0 (i := i) (by omega), (B4.ext hE).c1 (i := i) (by omega), (B4.ext hE).c2 (i := i) (by omega), (B2.x B0).1, (B5.ext hE).c0 (i := i) (by omega), (B5.ext hE).c1 (i := i) (by omega), (B5.ext hE).c2 (i := i) (by omega)⟩) (fun ops Q Bz hb hL hR hK => ?_);refine mv2 hb hE B0 fun hE B0=>?_;have Bs := hb.size;have hS := A8 (B1.c B0) ((B4.ext hE).c0 (i := i) (by omega)) ((B4.ext hE).c1 (i := i) (by omega)) ((B4.ext hE).c2 (i := i) (by omega)) (B2.c B0) ((B5.ext hE).c0 (i := i) (by omega)) ((B5.ext hE).c1 (i := i) (by omega)) ((B5.ext hE).c2 (i := i) (by omega));refine wV 0 (pw O1 2) hR hS ?_;refine wM 1 (sv b1 o1 m1 c1) hR (fun w hS => ld40 (hS.1)) hS ?_;refine wV 2 (iv i) hR hS ?_;refine wL 3 (pw b1 (o1 + i * 3)) hR (fun w _ => ex_index (p := sv b1 o1 m1 c1) (i := iv i) rfl (by kernel_rfl) (by kernel_rfl) (ix40 (k := i) (by omega))) hS ?_;refine wM 4 (nw ((rwN N1 i).1) ((rwN N1 i).2.1) ((rwN N1 i).2.2)) hR (fun w hS => ld56 (hS.2.1) (hS.2.2.1) (hS.2.2.2.1)) hS ?_;refine wV 5 (pw O5 2) hR hS ?_;refine wM 6 (sv b2 o2 m2 c2) hR (fun w hS => ld40 (hS.2.2.2.2.1)) hS ?_;refine wV 7 (iv i) hR hS ?_;refine wL 8 (pw b2 (o2 + i * 3)) hR (fun w _ => ex_index (p := sv b2 o2 m2 c2) (i := iv i) rfl (by kernel_rfl) (by kernel_rfl) (ix40 (k := i) (by omega))) hS ?_;refine wM 9 (nw ((rwN N2 i).1) ((rwN N2 i).2.1) ((rwN N2 i).2.2)) hR (fun w hS => ld56 (hS.2.2.2.2.2.1) (hS.2.2.2.2.2.2.1) (hS.2.2.2.2.2.2.2)) hS ?_;refine wL 10 (.bool true) hR (fun w _ => ex_binV (a := nw ((rwN N1 i).1) ((rwN N1 i).2.1) ((rwN N1 i).2.2)) (b := nw ((rwN N2 i).1) ((rwN N2 i).2.1) ((rwN N2 i).2.2)) rfl (by kernel_rfl) (by kernel_rfl) (eqG_agg (by kernel_rfl)) (bin_nqv_f (nod_eq _ ((((rwN N1 i).1, (rwN N1 i).2.1, (rwN N1 i).2.2) : Nod)) ((((rwN N2 i).1, (rwN N2 i).2.1, (rwN N2 i).2.2) : Nod))) heq)) hS ?_;refine we hL hR hK ?_;refine zq (cK [2,3,5,44] (fun L => ?_));refine zt ?_;refine zc (zp (pT (.bool false) ?_));refine zn (ct_ (qb (qt (qt (qb (qt (zR (.bool false) ?_)))))));exact ⟨congrArg (fun z => Ending.returned (Value.bool z)) (decide_eq_false (fun q => heq (by rw [q.2.2]))).symm, hE⟩
    ·
     refine zc (zc (zp (pD (iv i) (pw O1 2) ?_)));refine pU (.slice a1 m1 c1) (xl (ld40 (B1.c B0))) ?_;refine pT (iv m1) ?_;refine pU (.bool false) (en (((i : Nat) : Int) < ((m1 : Nat) : Int)) (by omega)) ?_;refine zn (zf ?_);refine cx_ (qx (qx (qo (zq (zc (zp (pT (.bool true) ?_)))))));refine zn (ct_ (zR (.bool true) ?_));exact ⟨congrArg (fun z => Ending.returned (Value.bool z)) (decide_eq_true ⟨by omega, by omega, nods_ext (by omega) fun j hj => hq j (by omega)⟩).symm, hE⟩
   ·
    refine pU (.bool true) (eM ((m1 : Nat) : Int) ((m2 : Nat) : Int) (Bc)) ?_;refine pT (.bool true) ?_;refine zn (cK [2,3,26] (fun L => ?_));refine zt ?_;refine zc (zp (pT (.bool false) ?_));refine zn (ct_ (qt (zR (.bool false) ?_)));exact ⟨congrArg (fun z => Ending.returned (Value.bool z)) (decide_eq_false (fun q => by obtain ⟨q1, q2, q3⟩ := q; subst q3; omega)).symm, hE⟩
  ·
   refine pU (.bool true) (eM (S1 : Int) (S2 : Int) (Ba)) ?_;refine pD (.bool true) (.bool true) ?_;refine pK ?_;refine pK ?_;refine pK ?_;refine pK ?_;refine pK ?_;refine pK ?_;refine pK ?_;refine pT (.bool true) ?_;refine zn (cK [2,3,26] (fun L => ?_));refine zt ?_;refine zc (zp (pT (.bool false) ?_));refine zn (ct_ (qt (zR (.bool false) ?_)));exact ⟨congrArg (fun z => Ending.returned (Value.bool z)) (decide_eq_false (fun q => by obtain ⟨q1, q2, q3⟩ := q; subst q3; omega)).symm, hE⟩
 ·
  refine pU (.bool true) (eM (E1 : Int) (E2 : Int) (Bi)) ?_;refine pT (.bool true) ?_;refine pK ?_;refine pK ?_;refine pK ?_;refine pK ?_;refine pK ?_;refine pD (.bool true) (.bool true) ?_;refine pK ?_;refine pK ?_;refine pK ?_;refine pK ?_;refine pK ?_;refine pK ?_;refine pK ?_;refine pT (.bool true) ?_;refine zn (cK [2,3,26] (fun L => ?_));refine zt ?_;refine zc (zp (pT (.bool false) ?_));refine zn (ct_ (qt (zR (.bool false) ?_)));exact ⟨congrArg (fun z => Ending.returned (Value.bool z)) (decide_eq_false (fun q => by obtain ⟨q1, q2, q3⟩ := q; subst q3; omega)).symm, hE⟩
end Go.Proofs.YtpfajhcdfgpgmaaGreatDoor

namespace Go.Proofs.YtpfajhcdfgpgmaaGreatDoor
open Globe (inB)
variable {E S : Int} {i ml : Nat} {w0 : World} {a : Option Addr} {N : List Nod}
set_option maxRecDepth 1000000
set_option maxHeartbeats 4000000
set_option synthInstance.maxHeartbeats 0
set_option synthInstance.maxSize 9999
open Go.RowKit
namespace Bdd
def kid (N : List Row) (i j : Nat) : Int := if j = 0 then (rwN N i).2.1 else (rwN N i).2.2
def kidOk (N : List Row) (i j : Nat) : Prop := (-2 ≤ kid N i j ∧ kid N i j ≤ (i : Int) - 1) ∧ (0 ≤ kid N i j → (rwN N i).1 < (rwN N (kid N i j).toNat).1)
theorem okN_of {N : List Row} (h0 : kidOk N i 0) (h1 : kidOk N i 1) (h2 : 0 ≤ (rwN N i).1 ∧ (rwN N i).1 ≤ E - 1) (h3 : (rwN N i).2.1 ≠ (rwN N i).2.2) : okN E N i := ⟨h0, h1, h2, h3⟩
theorem valid_bad {N : List Row} (hi : i < N.length) (h : ¬ okN E N i) : validB E S N = false := decide_eq_false fun q => h (q.1.n i hi)
theorem kid_bad {N : List Row} {j : Nat} (hj : j < 2) (h : ¬ kidOk N i j) : ¬ okN E N i := fun q => h (by
 match j, hj with
 | 0, _ => exact q.1
 | 1, _ => exact q.2.1
 | j + 2, hj => omega)
theorem valid_str {N : List Row} (h : Str E S N) : validB E S N = decide (start (tree S N) = S ∧ nodes (tree S N) = N) := decide_eq_decide.2 ⟨fun q => q.2, fun q => ⟨h, q⟩⟩
end Bdd
theorem mValid_c (c : Nat) (w : World) (H : NdsAt w0 a ml N) (e0 : Ext w0 w) : Calls Tryz.prog 15 #[mw E S a ml c] w fun e w' => e = .returned (.bool (Bdd.validB E S N)) ∧ Ext w w' := by
 replace H := H.ext e0;clear e0;obtain ⟨b, o, ha, hbr, hx⟩ := H.parts;have hln := H.len;have hmx := H.max;refine calls_cw 90 [(0, mw E S a ml c)] Tryz.func15 rfl Tryz.ntmps15 (by kernel_rfl) (by kernel_rfl) (fun L => ?_);have hE := er_ w;refine zc (zp (pS (sw 42 #[iv E, iv S, .slice a ml c] ?_)));intro O1 X2 Dn Dm hb hbx;have ⟨B4, B5, B1⟩ := bq3 hbx;replace hE := hE.trans hb;have C7 := hb.size;have Cv := B4.lt;refine pT (.bool false) ?_;refine zn (zc (cw_seq ?_))
 by_cases C0 : 0 ≤ E ∧ E ≤ 16
 ·
  obtain ⟨n, rfl⟩ : ∃ n : Nat, E = (n : Int) := ⟨E.toNat, by omega⟩;have Bv : n ≤ 16 := by omega
  have Bt := Globe.inB_t.2 C0
  by_cases D2 : ml ≤ 2000
  ·
   by_cases Cj : -2 ≤ S ∧ S ≤ ((ml : Nat) : Int) - 1
   ·
    have C2 := Globe.inB_t.2 Cj;refine zp (pT (pw O1 0) ?_);refine pU (iv n) (xl (ld3 (B4.1))) ?_;refine pS (sc 53 #[iv n, iv 0, iv 16] ((misIn_r (r := true) _ _ _ _ Bt).mono ?_));rintro e w5 ⟨rfl, hb⟩;refine mv4 hb hE B4 B5 B1 fun hE B4 B5 B1=>?_;have Bw := hb.size;refine ⟨_, rfl, pD (.bool false) (.bool false) ?_⟩;refine pT (pw O1 2) ?_;refine pU (.slice a ml c) (xl (ld40 (B1.1))) ?_;refine pT (iv ml) ?_;refine pU (.bool false) (en (((ml : Nat) : Int) > (2000 : Int)) (by omega)) ?_;refine pD (.bool false) (.bool false) ?_;refine pT (pw O1 1) ?_;refine pU (iv S) (xl (ld3 (B5.1))) ?_;refine pT (pw O1 2) ?_;refine pU (.slice a ml c) (xl (ld40 (B1.1))) ?_;refine pT (iv ml) ?_;refine pU (iv (((ml : Nat) : Int) - 1 : Int)) (ew (by omega) (by omega)) ?_;refine pS (sc 53 #[iv S, iv (-2 : Int), iv (((ml : Nat) : Int) - 1 : Int)] ((misIn_r (r := true) _ _ _ _ C2).mono ?_));rintro e w7 ⟨rfl, hb⟩;refine mv4 hb hE B4 B5 B1 fun hE B4 B5 B1=>?_;have Bx := hb.size;refine ⟨_, rfl, pD (.bool false) (.bool false) ?_⟩;refine zn (cK [1,27] (fun L => ?_));refine zf ?_;refine cs_ (zq (zc (zc (zp (pT (pw O1 2) ?_)))));refine pU (.slice a ml c) (xl (ld40 (B1.1))) ?_;refine pD (iv ml) (iv 0) ?_;refine zn (cb_ ?_);have B2 := er_ w7;refine cw_loop [1, 29, 30, 31] (fun ws' wr m => ∃ i : Nat, ws' = [(1, pw O1 0), (29, .slice a ml c), (30, iv ml), (31, iv i)] ∧ m = 2 * ml - 2 * i ∧ w7.heap.size ≤ wr.heap.size ∧ Ext w wr ∧ Ext w7 wr ∧ i ≤ ml ∧ (∀ j, j < i → Bdd.okN ((n : Nat) : Int) N j)) (ws0 := [(1, pw O1 0), (29, .slice a ml c), (30, iv ml), (31, iv 0)]) (by kernel_rfl) _ ⟨0, rfl, rfl, nr_ _, hE, B2, Nat.zero_le _, (fun j hj => absurd hj (Nat.not_lt_zero j))⟩ ?_;clear hE B2;rintro E5 L ws Dq ⟨i, rfl, rfl, Bc, hE, B2, hi, hall⟩
    by_cases hlt : i < ml
    ·
     obtain rfl := ha (by omega);have hbl := hbr (by omega);refine zc (zp (pU (.bool true) (ed (((i : Nat) : Int) < ((ml : Nat) : Int)) (by omega)) ?_));refine zn (zc (zt ?_));refine cs_ (zq (zc (cb_ ?_)));refine zc (zp (pT (iv i) ?_));refine pU (pw b (o + i * 3)) (xi (sv b o ml c) (iv i) (ix40 (k := i) (by omega))) ?_;refine pU (nw ((Bdd.rwN N i).1) ((Bdd.rwN N i).2.1) ((Bdd.rwN N i).2.2)) (xl (ld56 ((hx.ext hE).c0 (i := i) (by omega)) ((hx.ext hE).c1 (i := i) (by omega)) ((hx.ext hE).c2 (i := i) (by omega)))) ?_;refine pS (sw 56 #[iv 0, iv 0, iv 0] ?_);intro B8 Cz Bo Cu hb hbx;have ⟨B3, B6, B7⟩ := bq3 hbx;refine mv2 hb hE B2 fun hE B2=>?_;have C4 := hb.size;have Do := B3.lt;refine pT (iv i) ?_;refine pP (sn_setK3 (O := B8) (j := 0) (v0 := iv ((Bdd.rwN N i).1)) (v1 := iv ((Bdd.rwN N i).2.1)) (v2 := iv ((Bdd.rwN N i).2.2)) (xt (pw B8 0) (nw ((Bdd.rwN N i).1) ((Bdd.rwN N i).2.1) ((Bdd.rwN N i).2.2)) (st56 B3.1 B3.2 B6.1 B6.2 B7.1 B7.2)) B3 B6 B7 ?_);intro Br ho B3 B6 B7 hk;replace hE := ho.ext hE (by omega);replace B2 := ho.ext B2 (Tq Bc (nq_ Bo));have C5 := nq_ ho.size.symm;clear ho hk;refine zn (zc (zc (zp (pT (pw B8 1) ?_))));refine pU (iv ((Bdd.rwN N i).2.1)) (xl (ld3 (B6.1))) ?_;refine pT (pw B8 2) ?_;refine pU (iv ((Bdd.rwN N i).2.2)) (xl (ld3 (B7.1))) ?_;refine pD (.agg #[iv ((Bdd.rwN N i).2.1), iv ((Bdd.rwN N i).2.2)]) (iv 0) ?_;refine zn (cK [1,3,4,29,30,31,40,41] (fun L => ?_));refine cb_ ?_;have B0 := er_ Br;refine cw_loop [1, 3, 4, 29, 30, 31, 40, 41] (fun ws' wr m => ∃ k : Nat, ws' = [(1, pw O1 0), (3, iv i), (4, pw B8 0), (29, sv b o ml c), (30, iv ml), (31, iv i), (40, .agg #[iv ((Bdd.rwN N i).2.1), iv ((Bdd.rwN N i).2.2)]), (41, iv k)] ∧ m = 2 - k ∧ Br.heap.size ≤ wr.heap.size ∧ Ext w wr ∧ Ext w7 wr ∧ Ext Br wr ∧ k ≤ 2 ∧ (∀ j, j < k → Bdd.kidOk N i j)) (ws0 := [(1, pw O1 0), (3, iv i), (4, pw B8 0), (29, sv b o ml c), (30, iv ml), (31, iv i), (40, .agg #[iv ((Bdd.rwN N i).2.1), iv ((Bdd.rwN N i).2.2)]), (41, iv 0)]) (by kernel_rfl) _ ⟨0, rfl, rfl, nr_ _, hE, B2, B0, Nat.zero_le _, (fun j hj => absurd hj (Nat.not_lt_zero j))⟩ ?_;clear hE B2 B0;rintro E6 L ws E8 ⟨k, rfl, rfl, Bj, hE, B2, B0, hk, Bq⟩;rcases (by omega : k = 0 ∨ k = 1 ∨ k = 2) with rfl | rfl | rfl
     ·
      refine zc (zp (pT (.bool true) ?_));refine zn (zc (zt ?_));refine cs_ (zq (zc (cb_ ?_)));refine zc (zp (pD (iv ((Bdd.rwN N i).2.1)) (iv ((Bdd.rwN N i).2.1)) ?_));refine zn (cw_seq ?_)
      by_cases Ba : -2 ≤ (Bdd.rwN N i).2.1 ∧ (Bdd.rwN N i).2.1 ≤ ((i : Nat) : Int) - 1
      ·
       have Bl := Globe.inB_t.2 Ba
       by_cases Bh : (Bdd.rwN N i).2.1 ≥ 0
       ·
        obtain ⟨j9, C3⟩ : ∃ j : Nat, (Bdd.rwN N i).2.1 = (j : Int) := ⟨((Bdd.rwN N i).2.1).toNat, by omega⟩;have hjl : j9 < N.length := by omega
        have Bp := Bl;rw [C3] at Bp ⊢
        by_cases Bi : (Bdd.rwN N j9).1 ≤ (Bdd.rwN N i).1
        ·
         have hko : ¬ Bdd.kidOk N i 0 := fun q => by
          have z := q.2 (by show (0 : Int) ≤ (Bdd.rwN N i).2.1; omega);have e : (Bdd.kid N i 0).toNat = j9 := by show ((Bdd.rwN N i).2.1).toNat = j9;omega
          rw [e] at z;omega
         refine dT (fun w' => w'.cell? ⟨O1, 2, none⟩ = some (sv b o ml c) ∧ w'.cell? ⟨b, o + j9 * 3, none⟩ = some (iv ((Bdd.rwN N j9).1)) ∧ w'.cell? ⟨B8, 0, none⟩ = some (iv ((Bdd.rwN N i).1))) (⟨(B1.x B2).1, (hx.ext hE).c0 (i := j9) (by omega), (B3.x B0).1⟩) (fun ops Q Dr hb hL hR hK => ?_);refine mv3 hb hE B2 B0 fun hE B2 B0=>?_;have D5 := hb.size;have hS := A3 (B1.c B2) ((hx.ext hE).c0 (i := j9) (by omega)) (B3.c B0);refine wW 0 (iv j9) 1 (iv i) hR hS ?_;refine wL 2 (iv (((i : Nat) : Int) - 1 : Int)) hR (fun w _ => ev_wrap (by kernel_rfl) (by omega) (by omega)) hS ?_;refine wC 3 53 #[iv j9, iv (-2 : Int), iv (((i : Nat) : Int) - 1 : Int)] hR ((misIn_r (r := true) _ _ _ _ Bp).mono ?_);rintro e E9 ⟨rfl, hb⟩;refine mv3 hb hE B2 B0 fun hE B2 B0=>?_;have D6 := hb.size;have hS := A3 (B1.c B2) ((hx.ext hE).c0 (i := j9) (by omega)) (B3.c B0);refine ⟨_, rfl, hS, ?_⟩;refine wW 4 (.bool false) 5 (.bool false) hR hS ?_;refine wV 6 (iv j9) hR hS ?_;refine wL 7 (.bool true) hR (fun w _ => ev_dec (show _ = Result.ok (Next.value (Value.bool (decide (((j9 : Nat) : Int) ≥ (0 : Int))))) _ from by kernel_rfl) (by omega)) hS ?_;refine wW 8 (.bool true) 9 (pw O1 2) hR hS ?_;refine wM 10 (sv b o ml c) hR (fun w hS => ld40 (hS.1)) hS ?_;refine wV 11 (iv j9) hR hS ?_;refine wL 12 (pw b (o + j9 * 3)) hR (fun w _ => ex_index (p := sv b o ml c) (i := iv j9) rfl (by kernel_rfl) (by kernel_rfl) (ix40 (k := j9) (by omega))) hS ?_;refine wV 13 (pw b (o + j9 * 3)) hR hS ?_;refine wM 14 (iv ((Bdd.rwN N j9).1)) hR (fun w hS => ld3 (hS.2.1)) hS ?_;refine wV 15 (pw B8 0) hR hS ?_;refine wM 16 (iv ((Bdd.rwN N i).1)) hR (fun w hS => ld3 (hS.2.2)) hS ?_;refine wL 17 (.bool true) hR (fun w _ => ev_dec (show _ = Result.ok (Next.value (Value.bool (decide (((Bdd.rwN N j9).1 : Int) ≤ ((Bdd.rwN N i).1 : Int))))) _ from by kernel_rfl) (Bi)) hS ?_;refine wW 18 (.bool true) 19 (.bool true) hR hS ?_;refine we hL hR hK ?_;refine zq (cK [1,3,4,29,30,31,40,41,63] (fun L => ?_));refine zt ?_;refine zc (zp (pT (.bool false) ?_));refine zn (ct_ (qb (qt (qt (qb (qt (qb (qt (qt (qb (qt (zR (.bool false) ?_))))))))))));exact ⟨congrArg (fun z => Ending.returned (Value.bool z)) (Bdd.valid_bad (by omega) (Bdd.kid_bad (by omega) hko)).symm, hE⟩
        ·
         have hko : Bdd.kidOk N i 0 := ⟨Ba, fun q => by
          have e : (Bdd.kid N i 0).toNat = j9 := by show ((Bdd.rwN N i).2.1).toNat = j9;omega
          rw [e];omega⟩
         refine dT (fun w' => w'.cell? ⟨O1, 2, none⟩ = some (sv b o ml c) ∧ w'.cell? ⟨b, o + j9 * 3, none⟩ = some (iv ((Bdd.rwN N j9).1)) ∧ w'.cell? ⟨B8, 0, none⟩ = some (iv ((Bdd.rwN N i).1))) (⟨(B1.x B2).1, (hx.ext hE).c0 (i := j9) (by omega), (B3.x B0).1⟩) (fun ops Q Dt hb hL hR hK => ?_);refine mv3 hb hE B2 B0 fun hE B2 B0=>?_;have C6 := hb.size;have hS := A3 (B1.c B2) ((hx.ext hE).c0 (i := j9) (by omega)) (B3.c B0);refine wW 0 (iv j9) 1 (iv i) hR hS ?_;refine wL 2 (iv (((i : Nat) : Int) - 1 : Int)) hR (fun w _ => ev_wrap (by kernel_rfl) (by omega) (by omega)) hS ?_;refine wC 3 53 #[iv j9, iv (-2 : Int), iv (((i : Nat) : Int) - 1 : Int)] hR ((misIn_r (r := true) _ _ _ _ Bp).mono ?_);rintro e Ea ⟨rfl, hb⟩;refine mv3 hb hE B2 B0 fun hE B2 B0=>?_;have C8 := hb.size;have hS := A3 (B1.c B2) ((hx.ext hE).c0 (i := j9) (by omega)) (B3.c B0);refine ⟨_, rfl, hS, ?_⟩;refine wW 4 (.bool false) 5 (.bool false) hR hS ?_;refine wV 6 (iv j9) hR hS ?_;refine wL 7 (.bool true) hR (fun w _ => ev_dec (show _ = Result.ok (Next.value (Value.bool (decide (((j9 : Nat) : Int) ≥ (0 : Int))))) _ from by kernel_rfl) (by omega)) hS ?_;refine wW 8 (.bool true) 9 (pw O1 2) hR hS ?_;refine wM 10 (sv b o ml c) hR (fun w hS => ld40 (hS.1)) hS ?_;refine wV 11 (iv j9) hR hS ?_;refine wL 12 (pw b (o + j9 * 3)) hR (fun w _ => ex_index (p := sv b o ml c) (i := iv j9) rfl (by kernel_rfl) (by kernel_rfl) (ix40 (k := j9) (by omega))) hS ?_;refine wV 13 (pw b (o + j9 * 3)) hR hS ?_;refine wM 14 (iv ((Bdd.rwN N j9).1)) hR (fun w hS => ld3 (hS.2.1)) hS ?_;refine wV 15 (pw B8 0) hR hS ?_;refine wM 16 (iv ((Bdd.rwN N i).1)) hR (fun w hS => ld3 (hS.2.2)) hS ?_;refine wL 17 (.bool false) hR (fun w _ => ev_ndec (show _ = Result.ok (Next.value (Value.bool (decide (((Bdd.rwN N j9).1 : Int) ≤ ((Bdd.rwN N i).1 : Int))))) _ from by kernel_rfl) (Bi)) hS ?_;refine wW 18 (.bool false) 19 (.bool false) hR hS ?_;refine we hL hR hK ?_;refine zq (cK [1,3,4,29,30,31,40,41,63] (fun L => ?_));refine zf ?_;refine cs_ (qw_block (zq (zp (pD (iv 1) (iv 1) ?_))));refine pl_nil (zr [1, 3, 4, 29, 30, 31, 40, 41] _ ?_ ⟨(0 + 1), rfl, rfl, (Tq Bj (Tq C6 C8)), hE, B2, B0, by omega, (fun j hj => by rcases Nat.lt_succ_iff_lt_or_eq.1 hj with h | h; exact Bq j h; rw [h]; exact hko)⟩);omega
       ·
        have hko : Bdd.kidOk N i 0 := ⟨Ba, fun q => absurd q Bh⟩;refine dT (fun w' => True) (trivial) (fun ops Q Du hb hL hR hK => ?_);refine mv3 hb hE B2 B0 fun hE B2 B0=>?_;have C9 := hb.size;have hS := trivial;refine wW 0 (iv ((Bdd.rwN N i).2.1)) 1 (iv i) hR hS ?_;refine wL 2 (iv (((i : Nat) : Int) - 1 : Int)) hR (fun w _ => ev_wrap (by kernel_rfl) (by omega) (by omega)) hS ?_;refine wC 3 53 #[iv ((Bdd.rwN N i).2.1), iv (-2 : Int), iv (((i : Nat) : Int) - 1 : Int)] hR ((misIn_r (r := true) _ _ _ _ Bl).mono ?_);rintro e Eb ⟨rfl, hb⟩;refine mv3 hb hE B2 B0 fun hE B2 B0=>?_;have Ca := hb.size;have hS := trivial;refine ⟨_, rfl, hS, ?_⟩;refine wW 4 (.bool false) 5 (.bool false) hR hS ?_;refine wV 6 (iv ((Bdd.rwN N i).2.1)) hR hS ?_;refine wL 7 (.bool false) hR (fun w _ => ev_ndec (show _ = Result.ok (Next.value (Value.bool (decide (((Bdd.rwN N i).2.1 : Int) ≥ (0 : Int))))) _ from by kernel_rfl) (Bh)) hS ?_;refine wV 8 (.bool false) hR hS ?_;refine wK 9 hR hS ?_;refine wK 10 hR hS ?_;refine wK 11 hR hS ?_;refine wK 12 hR hS ?_;refine wK 13 hR hS ?_;refine wK 14 hR hS ?_;refine wK 15 hR hS ?_;refine wK 16 hR hS ?_;refine wK 17 hR hS ?_;refine wW 18 (.bool false) 19 (.bool false) hR hS ?_;refine we hL hR hK ?_;refine zq (cK [1,3,4,29,30,31,40,41,63] (fun L => ?_));refine zf ?_;refine cs_ (qw_block (zq (zp (pD (iv 1) (iv 1) ?_))));refine pl_nil (zr [1, 3, 4, 29, 30, 31, 40, 41] _ ?_ ⟨(0 + 1), rfl, rfl, (Tq Bj (Tq C9 Ca)), hE, B2, B0, by omega, (fun j hj => by rcases Nat.lt_succ_iff_lt_or_eq.1 hj with h | h; exact Bq j h; rw [h]; exact hko)⟩);omega
      ·
       have Bl : inB ((Bdd.rwN N i).2.1) (-2) (((i : Nat) : Int) - 1) = false := Globe.inB_f.2 (by omega);have hko : ¬ Bdd.kidOk N i 0 := fun q => Ba q.1
       refine dT (fun w' => True) (trivial) (fun ops Q Dv hb hL hR hK => ?_);refine mv3 hb hE B2 B0 fun hE B2 B0=>?_;have D7 := hb.size;have hS := trivial;refine wW 0 (iv ((Bdd.rwN N i).2.1)) 1 (iv i) hR hS ?_;refine wL 2 (iv (((i : Nat) : Int) - 1 : Int)) hR (fun w _ => ev_wrap (by kernel_rfl) (by omega) (by omega)) hS ?_;refine wC 3 53 #[iv ((Bdd.rwN N i).2.1), iv (-2 : Int), iv (((i : Nat) : Int) - 1 : Int)] hR ((misIn_r (r := false) _ _ _ _ Bl).mono ?_);rintro e Ec ⟨rfl, hb⟩;refine mv3 hb hE B2 B0 fun hE B2 B0=>?_;have D8 := hb.size;have hS := trivial;refine ⟨_, rfl, hS, ?_⟩;refine wW 4 (.bool true) 5 (.bool true) hR hS ?_;refine wK 6 hR hS ?_;refine wK 7 hR hS ?_;refine wK 8 hR hS ?_;refine wK 9 hR hS ?_;refine wK 10 hR hS ?_;refine wK 11 hR hS ?_;refine wK 12 hR hS ?_;refine wK 13 hR hS ?_;refine wK 14 hR hS ?_;refine wK 15 hR hS ?_;refine wK 16 hR hS ?_;refine wK 17 hR hS ?_;refine wK 18 hR hS ?_;refine wV 19 (.bool true) hR hS ?_;refine we hL hR hK ?_;refine zq (cK [1,3,4,29,30,31,40,41,63] (fun L => ?_));refine zt ?_;refine zc (zp (pT (.bool false) ?_));refine zn (ct_ (qb (qt (qt (qb (qt (qb (qt (qt (qb (qt (zR (.bool false) ?_))))))))))));exact ⟨congrArg (fun z => Ending.returned (Value.bool z)) (Bdd.valid_bad (by omega) (Bdd.kid_bad (by omega) hko)).symm, hE⟩
     ·
      refine zc (zp (pT (.bool true) ?_));refine zn (zc (zt ?_));refine cs_ (zq (zc (cb_ ?_)));refine zc (zp (pD (iv ((Bdd.rwN N i).2.2)) (iv ((Bdd.rwN N i).2.2)) ?_));refine zn (cw_seq ?_)
      by_cases Ba : -2 ≤ (Bdd.rwN N i).2.2 ∧ (Bdd.rwN N i).2.2 ≤ ((i : Nat) : Int) - 1
      ·
       have Bl := Globe.inB_t.2 Ba
       by_cases Bh : (Bdd.rwN N i).2.2 ≥ 0
       ·
        obtain ⟨j9, C3⟩ : ∃ j : Nat, (Bdd.rwN N i).2.2 = (j : Int) := ⟨((Bdd.rwN N i).2.2).toNat, by omega⟩;have hjl : j9 < N.length := by omega
        have Bp := Bl;rw [C3] at Bp ⊢
        by_cases Bi : (Bdd.rwN N j9).1 ≤ (Bdd.rwN N i).1
        ·
         have hko : ¬ Bdd.kidOk N i 1 := fun q => by
          have z := q.2 (by show (0 : Int) ≤ (Bdd.rwN N i).2.2; omega);have e : (Bdd.kid N i 1).toNat = j9 := by show ((Bdd.rwN N i).2.2).toNat = j9;omega
          rw [e] at z;omega
         refine dT (fun w' => w'.cell? ⟨O1, 2, none⟩ = some (sv b o ml c) ∧ w'.cell? ⟨b, o + j9 * 3, none⟩ = some (iv ((Bdd.rwN N j9).1)) ∧ w'.cell? ⟨B8, 0, none⟩ = some (iv ((Bdd.rwN N i).1))) (⟨(B1.x B2).1, (hx.ext hE).c0 (i := j9) (by omega), (B3.x B0).1⟩) (fun ops Q Dw hb hL hR hK => ?_);refine mv3 hb hE B2 B0 fun hE B2 B0=>?_;have D9 := hb.size;have hS := A3 (B1.c B2) ((hx.ext hE).c0 (i := j9) (by omega)) (B3.c B0);refine wW 0 (iv j9) 1 (iv i) hR hS ?_;refine wL 2 (iv (((i : Nat) : Int) - 1 : Int)) hR (fun w _ => ev_wrap (by kernel_rfl) (by omega) (by omega)) hS ?_;refine wC 3 53 #[iv j9, iv (-2 : Int), iv (((i : Nat) : Int) - 1 : Int)] hR ((misIn_r (r := true) _ _ _ _ Bp).mono ?_);rintro e Ed ⟨rfl, hb⟩;refine mv3 hb hE B2 B0 fun hE B2 B0=>?_;have Da := hb.size;have hS := A3 (B1.c B2) ((hx.ext hE).c0 (i := j9) (by omega)) (B3.c B0);refine ⟨_, rfl, hS, ?_⟩;refine wW 4 (.bool false) 5 (.bool false) hR hS ?_;refine wV 6 (iv j9) hR hS ?_;refine wL 7 (.bool true) hR (fun w _ => ev_dec (show _ = Result.ok (Next.value (Value.bool (decide (((j9 : Nat) : Int) ≥ (0 : Int))))) _ from by kernel_rfl) (by omega)) hS ?_;refine wW 8 (.bool true) 9 (pw O1 2) hR hS ?_;refine wM 10 (sv b o ml c) hR (fun w hS => ld40 (hS.1)) hS ?_;refine wV 11 (iv j9) hR hS ?_;refine wL 12 (pw b (o + j9 * 3)) hR (fun w _ => ex_index (p := sv b o ml c) (i := iv j9) rfl (by kernel_rfl) (by kernel_rfl) (ix40 (k := j9) (by omega))) hS ?_;refine wV 13 (pw b (o + j9 * 3)) hR hS ?_;refine wM 14 (iv ((Bdd.rwN N j9).1)) hR (fun w hS => ld3 (hS.2.1)) hS ?_;refine wV 15 (pw B8 0) hR hS ?_;refine wM 16 (iv ((Bdd.rwN N i).1)) hR (fun w hS => ld3 (hS.2.2)) hS ?_;refine wL 17 (.bool true) hR (fun w _ => ev_dec (show _ = Result.ok (Next.value (Value.bool (decide (((Bdd.rwN N j9).1 : Int) ≤ ((Bdd.rwN N i).1 : Int))))) _ from by kernel_rfl) (Bi)) hS ?_;refine wW 18 (.bool true) 19 (.bool true) hR hS ?_;refine we hL hR hK ?_;refine zq (cK [1,3,4,29,30,31,40,41,63] (fun L => ?_));refine zt ?_;refine zc (zp (pT (.bool false) ?_));refine zn (ct_ (qb (qt (qt (qb (qt (qb (qt (qt (qb (qt (zR (.bool false) ?_))))))))))));exact ⟨congrArg (fun z => Ending.returned (Value.bool z)) (Bdd.valid_bad (by omega) (Bdd.kid_bad (by omega) hko)).symm, hE⟩
        ·
         have hko : Bdd.kidOk N i 1 := ⟨Ba, fun q => by
          have e : (Bdd.kid N i 1).toNat = j9 := by show ((Bdd.rwN N i).2.2).toNat = j9;omega
          rw [e];omega⟩
         refine dT (fun w' => w'.cell? ⟨O1, 2, none⟩ = some (sv b o ml c) ∧ w'.cell? ⟨b, o + j9 * 3, none⟩ = some (iv ((Bdd.rwN N j9).1)) ∧ w'.cell? ⟨B8, 0, none⟩ = some (iv ((Bdd.rwN N i).1))) (⟨(B1.x B2).1, (hx.ext hE).c0 (i := j9) (by omega), (B3.x B0).1⟩) (fun ops Q Dx hb hL hR hK => ?_);refine mv3 hb hE B2 B0 fun hE B2 B0=>?_;have Cb := hb.size;have hS := A3 (B1.c B2) ((hx.ext hE).c0 (i := j9) (by omega)) (B3.c B0);refine wW 0 (iv j9) 1 (iv i) hR hS ?_;refine wL 2 (iv (((i : Nat) : Int) - 1 : Int)) hR (fun w _ => ev_wrap (by kernel_rfl) (by omega) (by omega)) hS ?_;refine wC 3 53 #[iv j9, iv (-2 : Int), iv (((i : Nat) : Int) - 1 : Int)] hR ((misIn_r (r := true) _ _ _ _ Bp).mono ?_);rintro e Ee ⟨rfl, hb⟩;refine mv3 hb hE B2 B0 fun hE B2 B0=>?_;have Cc := hb.size;have hS := A3 (B1.c B2) ((hx.ext hE).c0 (i := j9) (by omega)) (B3.c B0);refine ⟨_, rfl, hS, ?_⟩;refine wW 4 (.bool false) 5 (.bool false) hR hS ?_;refine wV 6 (iv j9) hR hS ?_;refine wL 7 (.bool true) hR (fun w _ => ev_dec (show _ = Result.ok (Next.value (Value.bool (decide (((j9 : Nat) : Int) ≥ (0 : Int))))) _ from by kernel_rfl) (by omega)) hS ?_;refine wW 8 (.bool true) 9 (pw O1 2) hR hS ?_;refine wM 10 (sv b o ml c) hR (fun w hS => ld40 (hS.1)) hS ?_;refine wV 11 (iv j9) hR hS ?_;refine wL 12 (pw b (o + j9 * 3)) hR (fun w _ => ex_index (p := sv b o ml c) (i := iv j9) rfl (by kernel_rfl) (by kernel_rfl) (ix40 (k := j9) (by omega))) hS ?_;refine wV 13 (pw b (o + j9 * 3)) hR hS ?_;refine wM 14 (iv ((Bdd.rwN N j9).1)) hR (fun w hS => ld3 (hS.2.1)) hS ?_;refine wV 15 (pw B8 0) hR hS ?_;refine wM 16 (iv ((Bdd.rwN N i).1)) hR (fun w hS => ld3 (hS.2.2)) hS ?_;refine wL 17 (.bool false) hR (fun w _ => ev_ndec (show _ = Result.ok (Next.value (Value.bool (decide (((Bdd.rwN N j9).1 : Int) ≤ ((Bdd.rwN N i).1 : Int))))) _ from by kernel_rfl) (Bi)) hS ?_;refine wW 18 (.bool false) 19 (.bool false) hR hS ?_;refine we hL hR hK ?_;refine zq (cK [1,3,4,29,30,31,40,41,63] (fun L => ?_));refine zf ?_;refine cs_ (qw_block (zq (zp (pD (iv 2) (iv 2) ?_))));refine pl_nil (zr [1, 3, 4, 29, 30, 31, 40, 41] _ ?_ ⟨(1 + 1), rfl, rfl, (Tq Bj (Tq Cb Cc)), hE, B2, B0, by omega, (fun j hj => by rcases Nat.lt_succ_iff_lt_or_eq.1 hj with h | h; exact Bq j h; rw [h]; exact hko)⟩);omega
       ·
        have hko : Bdd.kidOk N i 1 := ⟨Ba, fun q => absurd q Bh⟩;refine dT (fun w' => True) (trivial) (fun ops Q Dy hb hL hR hK => ?_);refine mv3 hb hE B2 B0 fun hE B2 B0=>?_;have Cd := hb.size;have hS := trivial;refine wW 0 (iv ((Bdd.rwN N i).2.2)) 1 (iv i) hR hS ?_;refine wL 2 (iv (((i : Nat) : Int) - 1 : Int)) hR (fun w _ => ev_wrap (by kernel_rfl) (by omega) (by omega)) hS ?_;refine wC 3 53 #[iv ((Bdd.rwN N i).2.2), iv (-2 : Int), iv (((i : Nat) : Int) - 1 : Int)] hR ((misIn_r (r := true) _ _ _ _ Bl).mono ?_);rintro e Ef ⟨rfl, hb⟩;refine mv3 hb hE B2 B0 fun hE B2 B0=>?_;have Ce := hb.size;have hS := trivial;refine ⟨_, rfl, hS, ?_⟩;refine wW 4 (.bool false) 5 (.bool false) hR hS ?_;refine wV 6 (iv ((Bdd.rwN N i).2.2)) hR hS ?_;refine wL 7 (.bool false) hR (fun w _ => ev_ndec (show _ = Result.ok (Next.value (Value.bool (decide (((Bdd.rwN N i).2.2 : Int) ≥ (0 : Int))))) _ from by kernel_rfl) (Bh)) hS ?_;refine wV 8 (.bool false) hR hS ?_;refine wK 9 hR hS ?_;refine wK 10 hR hS ?_;refine wK 11 hR hS ?_;refine wK 12 hR hS ?_;refine wK 13 hR hS ?_;refine wK 14 hR hS ?_;refine wK 15 hR hS ?_;refine wK 16 hR hS ?_;refine wK 17 hR hS ?_;refine wW 18 (.bool false) 19 (.bool false) hR hS ?_;refine we hL hR hK ?_;refine zq (cK [1,3,4,29,30,31,40,41,63] (fun L => ?_));refine zf ?_;refine cs_ (qw_block (zq (zp (pD (iv 2) (iv 2) ?_))));refine pl_nil (zr [1, 3, 4, 29, 30, 31, 40, 41] _ ?_ ⟨(1 + 1), rfl, rfl, (Tq Bj (Tq Cd Ce)), hE, B2, B0, by omega, (fun j hj => by rcases Nat.lt_succ_iff_lt_or_eq.1 hj with h | h; exact Bq j h; rw [h]; exact hko)⟩);omega
      ·
       have Bl : inB ((Bdd.rwN N i).2.2) (-2) (((i : Nat) : Int) - 1) = false := Globe.inB_f.2 (by omega);have hko : ¬ Bdd.kidOk N i 1 := fun q => Ba q.1
       refine dT (fun w' => True) (trivial) (fun ops Q Dz hb hL hR hK => ?_);refine mv3 hb hE B2 B0 fun hE B2 B0=>?_;have Db := hb.size;have hS := trivial;refine wW 0 (iv ((Bdd.rwN N i).2.2)) 1 (iv i) hR hS ?_;refine wL 2 (iv (((i : Nat) : Int) - 1 : Int)) hR (fun w _ => ev_wrap (by kernel_rfl) (by omega) (by omega)) hS ?_;refine wC 3 53 #[iv ((Bdd.rwN N i).2.2), iv (-2 : Int), iv (((i : Nat) : Int) - 1 : Int)] hR ((misIn_r (r := false) _ _ _ _ Bl).mono ?_);rintro e Eg ⟨rfl, hb⟩;refine mv3 hb hE B2 B0 fun hE B2 B0=>?_;have Dc := hb.size;have hS := trivial;refine ⟨_, rfl, hS, ?_⟩;refine wW 4 (.bool true) 5 (.bool true) hR hS ?_;refine wK 6 hR hS ?_;refine wK 7 hR hS ?_;refine wK 8 hR hS ?_;refine wK 9 hR hS ?_;refine wK 10 hR hS ?_;refine wK 11 hR hS ?_;refine wK 12 hR hS ?_;refine wK 13 hR hS ?_;refine wK 14 hR hS ?_;refine wK 15 hR hS ?_;refine wK 16 hR hS ?_;refine wK 17 hR hS ?_;refine wK 18 hR hS ?_;refine wV 19 (.bool true) hR hS ?_;refine we hL hR hK ?_;refine zq (cK [1,3,4,29,30,31,40,41,63] (fun L => ?_));refine zt ?_;refine zc (zp (pT (.bool false) ?_));refine zn (ct_ (qb (qt (qt (qb (qt (qb (qt (qt (qb (qt (zR (.bool false) ?_))))))))))));exact ⟨congrArg (fun z => Ending.returned (Value.bool z)) (Bdd.valid_bad (by omega) (Bdd.kid_bad (by omega) hko)).symm, hE⟩
     ·
      refine zc (zp (pT (.bool false) ?_));refine zn (zc (zf ?_));refine cx_ (qx (qx (qo (zq (cw_seq ?_)))))
      by_cases hev : 0 ≤ (Bdd.rwN N i).1 ∧ (Bdd.rwN N i).1 ≤ ((n : Nat) : Int) - 1
      ·
       have Bz := Globe.inB_t.2 hev
       by_cases hnd : (Bdd.rwN N i).2.1 ≠ (Bdd.rwN N i).2.2
       ·
        refine zp (pT (pw B8 0) ?_);refine pU (iv ((Bdd.rwN N i).1)) (xl (ld3 (B3.c B0))) ?_;refine pT (pw O1 0) ?_;refine pU (iv n) (xl (ld3 (B4.c B2))) ?_;refine pU (iv (((n : Nat) : Int) - 1 : Int)) (ew (by omega) (by omega)) ?_;refine pS (sc 53 #[iv ((Bdd.rwN N i).1), iv 0, iv (((n : Nat) : Int) - 1 : Int)] ((misIn_r (r := true) _ _ _ _ Bz).mono ?_));rintro e Eh ⟨rfl, hb⟩;refine mv3 hb hE B2 B0 fun hE B2 B0=>?_;have Cf := hb.size;refine ⟨_, rfl, pD (.bool false) (.bool false) ?_⟩;refine pT (pw B8 1) ?_;refine pU (iv ((Bdd.rwN N i).2.1)) (xl (ld3 (B6.c B0))) ?_;refine pT (pw B8 2) ?_;refine pU (iv ((Bdd.rwN N i).2.2)) (xl (ld3 (B7.c B0))) ?_;refine pU (.bool false) (eN ((Bdd.rwN N i).2.1 : Int) ((Bdd.rwN N i).2.2 : Int) (by omega)) ?_;refine pT (.bool false) ?_;refine zn (cK [1,29,30,31,78] (fun L => ?_));refine zf ?_;refine cs_ (qw_block (zq (zp (pU (nv (i + 1)) (ew (by omega) (by omega)) ?_))));refine pT (nv (i + 1)) ?_;refine pl_nil (zr [1, 29, 30, 31] _ ?_ ⟨(i + 1), rfl, rfl, (Tq Bc (Tq C4 (Tq C5 (Tq Bj Cf)))), hE, B2, by omega, (fun j hj => by rcases Nat.lt_succ_iff_lt_or_eq.1 hj with h | h; exact hall j h; rw [h]; exact Bdd.okN_of (Bq 0 (by omega)) (Bq 1 (by omega)) hev hnd)⟩);omega
       ·
        have hbad : ¬ Bdd.okN ((n : Nat) : Int) N i := fun q => hnd q.2.2.2
        refine zp (pT (pw B8 0) ?_);refine pU (iv ((Bdd.rwN N i).1)) (xl (ld3 (B3.c B0))) ?_;refine pT (pw O1 0) ?_;refine pU (iv n) (xl (ld3 (B4.c B2))) ?_;refine pU (iv (((n : Nat) : Int) - 1 : Int)) (ew (by omega) (by omega)) ?_;refine pS (sc 53 #[iv ((Bdd.rwN N i).1), iv 0, iv (((n : Nat) : Int) - 1 : Int)] ((misIn_r (r := true) _ _ _ _ Bz).mono ?_));rintro e Ei ⟨rfl, hb⟩;refine mv3 hb hE B2 B0 fun hE B2 B0=>?_;have Dd := hb.size;refine ⟨_, rfl, pD (.bool false) (.bool false) ?_⟩;refine pT (pw B8 1) ?_;refine pU (iv ((Bdd.rwN N i).2.1)) (xl (ld3 (B6.c B0))) ?_;refine pT (pw B8 2) ?_;refine pU (iv ((Bdd.rwN N i).2.2)) (xl (ld3 (B7.c B0))) ?_;refine pU (.bool true) (eE ((Bdd.rwN N i).2.1 : Int) ((Bdd.rwN N i).2.2 : Int) (by omega)) ?_;refine pT (.bool true) ?_;refine zn (cK [1,29,30,31,78] (fun L => ?_));refine zt ?_;refine zc (zp (pT (.bool false) ?_));refine zn (ct_ (qb (qt (qt (qb (qt (zR (.bool false) ?_)))))));exact ⟨congrArg (fun z => Ending.returned (Value.bool z)) (Bdd.valid_bad (by omega) (hbad)).symm, hE⟩
      ·
       have Bz : inB (Bdd.rwN N i).1 0 (((n : Nat) : Int) - 1) = false := Globe.inB_f.2 (by omega);have hbad : ¬ Bdd.okN ((n : Nat) : Int) N i := fun q => hev q.2.2.1
       refine zp (pT (pw B8 0) ?_);refine pU (iv ((Bdd.rwN N i).1)) (xl (ld3 (B3.c B0))) ?_;refine pT (pw O1 0) ?_;refine pU (iv n) (xl (ld3 (B4.c B2))) ?_;refine pU (iv (((n : Nat) : Int) - 1 : Int)) (ew (by omega) (by omega)) ?_;refine pS (sc 53 #[iv ((Bdd.rwN N i).1), iv 0, iv (((n : Nat) : Int) - 1 : Int)] ((misIn_r (r := false) _ _ _ _ Bz).mono ?_));rintro e Ej ⟨rfl, hb⟩;refine mv2 hb hE B2 fun hE B2=>?_;have De := hb.size;refine ⟨_, rfl, pD (.bool true) (.bool true) ?_⟩;refine pK ?_;refine pK ?_;refine pK ?_;refine pK ?_;refine pK ?_;refine pT (.bool true) ?_;refine zn (cK [1,29,30,31,78] (fun L => ?_));refine zt ?_;refine zc (zp (pT (.bool false) ?_));refine zn (ct_ (qb (qt (qt (qb (qt (zR (.bool false) ?_)))))));exact ⟨congrArg (fun z => Ending.returned (Value.bool z)) (Bdd.valid_bad (by omega) (hbad)).symm, hE⟩
    ·
     have hin : i = ml := by omega
     refine zc (zp (pU (.bool false) (en (((i : Nat) : Int) < ((ml : Nat) : Int)) (by omega)) ?_));refine zn (zc (zf ?_));refine cx_ (qx (qx (qo (zq (cw_seq ?_)))));have hstr : Bdd.Str ((n : Nat) : Int) S N := ⟨C0, by omega, by omega, fun j hj => hall j (by omega)⟩;refine zp (pT (pw O1 0) ?_);refine pU (iv n) (xl (ld3 (B4.c B2))) ?_;refine pS (sc 45 #[iv n] ((begin_c n _).mono ?_));rintro e Cw ⟨B, K, rfl, Be, hb⟩;refine mv2 hb hE B2 fun hE B2=>?_;have Cg := hb.size;obtain ⟨n0, Bu⟩ : ∃ q, q = Dq.heap.size := ⟨_, rfl⟩;rw [← Bu] at Be;obtain ⟨T0, Ck⟩ : ∃ q, q = ([] : List Bdd.D) := ⟨_, rfl⟩;rw [← Ck] at Be;have D1 : T0.length = 0 := by rw [Ck];rfl
     have Cn := Be.lt;have Bg := Be.ge;have Bm : BS No B K (.slice none 0 0) Cw (.slice none 0 0) Cw := BS.refl _ _ _ _ _;refine ⟨_, rfl, pT (pw B 0) ?_⟩;refine zn (zc (dT (fun w' => w'.cell? ⟨O1, 0, none⟩ = some (iv n) ∧ w'.cell? ⟨O1, 1, none⟩ = some (iv S) ∧ w'.cell? ⟨O1, 2, none⟩ = some (.slice a ml c)) (⟨(B4.x B2).1, (B5.x B2).1, (B1.x B2).1⟩) (fun ops Q E4 hb hL hR hK => ?_)));refine mv3 hb hE B2 Be fun hE B2 Be=>?_;have Ch := hb.size;have hS := A3 (B4.c B2) (B5.c B2) (B1.c B2);refine wW 0 (pw B 0) 1 (pw B 0) hR hS ?_;refine wM 2 (mw n S a ml c) hR (fun w hS => ld42 (hS.1) (hS.2.1) (hS.2.2)) hS ?_;refine wM 5 (mw n S a ml c) hR (fun w hS => ld42 (hS.1) (hS.2.1) (hS.2.2)) hS ?_;refine wC 3 57 #[pw B 0, mw n S a ml c] hR ((load_c c _ Be H hE (Tq (Tq C7 (Tq Bw (Tq Bx Bc))) (nq_ Bu.symm)) hstr (by omega) Bv).mono ?_);rintro e Ek ⟨E7, T9, rfl, Bk, Bf, hmt, D4, D3⟩;obtain ⟨Cy, rfl⟩ := D4;replace hE := Bk.wr.ext hE (fun k q => q.elim (fun q => Tq (Tq (Tq C7 (Tq Bw (Tq Bx Bc))) (nq_ Bu.symm)) (Bg k q)) (fun q => q.elim));replace B2 := Bk.wr.ext B2 (fun k q => q.elim (fun q => Tq (Tq Bc (nq_ Bu.symm)) (Bg k q)) (fun q => q.elim));have Dp := Bk.nx (fun q => absurd (Bg _ q) (Nat.not_le_of_lt (nl_ (nl_ Cv (Tq Bw (Tq Bx Bc))) (nq_ Bu.symm)))) (by omega);have Df := Bk.wr.size;have Co := Bf.lt;have Cm := Bf.ge;refine ⟨_, rfl, ⟨(B4.c B2), (B5.c B2), (B1.c B2)⟩, ?_⟩;refine wC 4 56 #[pw B 0, iv (Bdd.ix (T0 ++ Cy) (Bdd.tree S N))] hR ((machine_c _ Bf hmt (by simp only [List.length_append] at *; omega) Bv).mono ?_);rintro e Cx ⟨D0, Ci, rfl, C1, Cp, Cq, hb⟩;refine mv2 hb hE B2 fun hE B2=>?_;have Dg := hb.size;have Bs := er_ Cx;refine ⟨_, rfl, ⟨(B4.c B2), (B5.c B2), (B1.c B2)⟩, ?_⟩;refine wC 6 34 #[mw n (Bdd.start (Bdd.tree S N)) D0 ((Bdd.nodes (Bdd.tree S N)).length) Ci, mw n S a ml c] hR ((Same_c Ci c _ C1 (er_ _) H hE).mono ?_);rintro e El ⟨rfl, hb⟩;refine mv2 hb hE B2 fun hE B2=>?_;have Dh := hb.size;have hS := A3 (B4.c B2) (B5.c B2) (B1.c B2);refine ⟨_, rfl, hS, ?_⟩;refine wV 7 (.bool (decide (((n : Nat) : Int) = ((n : Nat) : Int) ∧ Bdd.start (Bdd.tree S N) = S ∧ Bdd.nodes (Bdd.tree S N) = N))) hR hS ?_;refine we hL hR hK ?_;refine zq (cK [2] (fun L => ?_));refine ct_ (zR (.bool (decide (((n : Nat) : Int) = ((n : Nat) : Int) ∧ Bdd.start (Bdd.tree S N) = S ∧ Bdd.nodes (Bdd.tree S N) = N))) ?_);exact ⟨congrArg (fun z => Ending.returned (Value.bool z)) (by rw [Bdd.valid_str hstr]; exact decide_eq_decide.2 ⟨fun q => q.2, fun q => ⟨rfl, q⟩⟩), hE⟩
   ·
    have C2 : inB S (-2) (((ml : Nat) : Int) - 1) = false := Globe.inB_f.2 (by omega);refine zp (pT (pw O1 0) ?_);refine pU (iv n) (xl (ld3 (B4.1))) ?_;refine pS (sc 53 #[iv n, iv 0, iv 16] ((misIn_r (r := true) _ _ _ _ Bt).mono ?_));rintro e Em ⟨rfl, hb⟩;refine mv4 hb hE B4 B5 B1 fun hE B4 B5 B1=>?_;have Di := hb.size;refine ⟨_, rfl, pD (.bool false) (.bool false) ?_⟩;refine pT (pw O1 2) ?_;refine pU (.slice a ml c) (xl (ld40 (B1.1))) ?_;refine pT (iv ml) ?_;refine pU (.bool false) (en (((ml : Nat) : Int) > (2000 : Int)) (by omega)) ?_;refine pD (.bool false) (.bool false) ?_;refine pT (pw O1 1) ?_;refine pU (iv S) (xl (ld3 (B5.1))) ?_;refine pT (pw O1 2) ?_;refine pU (.slice a ml c) (xl (ld40 (B1.1))) ?_;refine pT (iv ml) ?_;refine pU (iv (((ml : Nat) : Int) - 1 : Int)) (ew (by omega) (by omega)) ?_;refine pS (sc 53 #[iv S, iv (-2 : Int), iv (((ml : Nat) : Int) - 1 : Int)] ((misIn_r (r := false) _ _ _ _ C2).mono ?_));rintro e En ⟨rfl, hb⟩;refine mv3 hb hE B4 B1 fun hE B4 B1=>?_;have Dj := hb.size;refine ⟨_, rfl, pD (.bool true) (.bool true) ?_⟩;refine zn (cK [1,27] (fun L => ?_));refine zt ?_;refine zc (zp (pT (.bool false) ?_));refine zn (ct_ (qt (zR (.bool false) ?_)));exact ⟨congrArg (fun z => Ending.returned (Value.bool z)) (decide_eq_false (fun q => Cj (hln ▸ q.1.s))).symm, hE⟩
  ·
   refine zp (pT (pw O1 0) ?_);refine pU (iv n) (xl (ld3 (B4.1))) ?_;refine pS (sc 53 #[iv n, iv 0, iv 16] ((misIn_r (r := true) _ _ _ _ Bt).mono ?_));rintro e Eo ⟨rfl, hb⟩;refine mv3 hb hE B4 B1 fun hE B4 B1=>?_;have Dk := hb.size;refine ⟨_, rfl, pD (.bool false) (.bool false) ?_⟩;refine pT (pw O1 2) ?_;refine pU (.slice a ml c) (xl (ld40 (B1.1))) ?_;refine pT (iv ml) ?_;refine pU (.bool true) (ed (((ml : Nat) : Int) > (2000 : Int)) (by omega)) ?_;refine pD (.bool true) (.bool true) ?_;refine pK ?_;refine pK ?_;refine pK ?_;refine pK ?_;refine pK ?_;refine pK ?_;refine pK ?_;refine pK ?_;refine pT (.bool true) ?_;refine zn (cK [1,27] (fun L => ?_));refine zt ?_;refine zc (zp (pT (.bool false) ?_));refine zn (ct_ (qt (zR (.bool false) ?_)));exact ⟨congrArg (fun z => Ending.returned (Value.bool z)) (decide_eq_false (fun q => D2 (hln ▸ q.1.l))).symm, hE⟩
 ·
  have Bt : inB E 0 16 = false := Globe.inB_f.2 (by omega);refine zp (pT (pw O1 0) ?_);refine pU (iv E) (xl (ld3 (B4.1))) ?_;refine pS (sc 53 #[iv E, iv 0, iv 16] ((misIn_r (r := false) _ _ _ _ Bt).mono ?_));rintro e Ep ⟨rfl, hb⟩;replace hE := hE.trans hb;have Dl := hb.size;refine ⟨_, rfl, pD (.bool true) (.bool true) ?_⟩;refine pK ?_;refine pK ?_;refine pK ?_;refine pK ?_;refine pD (.bool true) (.bool true) ?_;refine pK ?_;refine pK ?_;refine pK ?_;refine pK ?_;refine pK ?_;refine pK ?_;refine pK ?_;refine pK ?_;refine pT (.bool true) ?_;refine zn (cK [1,27] (fun L => ?_));refine zt ?_;refine zc (zp (pT (.bool false) ?_));refine zn (ct_ (qt (zR (.bool false) ?_)));exact ⟨congrArg (fun z => Ending.returned (Value.bool z)) (decide_eq_false (fun q => C0 q.1.e)).symm, hE⟩
theorem Valid_r {r : Bool} (c : Nat) (w : World) (H : NdsAt w0 a ml N) (e0 : Ext w0 w) (hr : Bdd.validB E S N = r) : Calls Tryz.prog 15 #[.agg #[.int .i64 E, .int .i64 S, .slice a ml c]] w fun e w' => e = .returned (.bool r) ∧ Ext w w' := hr ▸ mValid_c c w H e0
end Go.Proofs.YtpfajhcdfgpgmaaGreatDoor
