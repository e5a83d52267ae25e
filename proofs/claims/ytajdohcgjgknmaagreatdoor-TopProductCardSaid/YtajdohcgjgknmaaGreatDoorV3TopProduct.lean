/- Part 3 of what the proof of TopProduct stands on. -/
import Derived.Test.YtajdohcgjgknmaaGreatDoorV2TopProduct
import Derived.ChangeKeysEq
import Derived.Deep.MidRow
import Derived.OwnWalk
namespace Go.Proofs.YtajdohcgjgknmaaGreatDoor
set_option maxRecDepth 1000000
set_option maxHeartbeats 4000000
set_option synthInstance.maxHeartbeats 0
set_option synthInstance.maxSize 9999
open Go.RowKit
def Pl (a : Option Addr) : Prop := a = none ∨ ∃ b o, a = some ⟨b, o, none⟩
def RetPcs (w : World) (l : List Prod.Pc) (e : Ending) (w' : World) : Prop := ∃ (a : Option Addr) (n c : Nat), e = .returned (.slice a n c) ∧ PcsS (fun k => w.heap.size ≤ k) w' a n l ∧ n ≤ c ∧ Pl a ∧ Ext w w'
theorem OwnS.plain {α : Type} {S : Nat → Prop} {R : Rep α} {e : TypeId} {size : Nat} {a : Option Addr} {n c : Nat} {w : World} {l : List α} (h : OwnS S R e size (.slice a n c) w l) : Pl a := by
 obtain ⟨⟨cs, h1, h2, h3, h4⟩, hb⟩ := h
 rcases h3.2 with ⟨q, q2⟩ | ⟨g, cap, cur, q, _⟩
 · injection q with r1; exact .inl r1
 · injection q with r1; exact .inr ⟨g, 0, r1⟩
theorem Reads.sorted {w : World} : ∀ {rs : List RawPc} {l : List Prod.Pc}, Reads w rs l → (rs.Pairwise fun x y => befR y x = false) → Prod.Dist l → Prod.Sorted l
 | [], [], _, _, _ => List.Pairwise.nil
 | x :: rs, p :: l, h, hs, hd => by
  obtain ⟨h1, h2⟩ := List.pairwise_cons.1 hs
  obtain ⟨d1, d2⟩ := Prod.Dist.cons.1 hd
  refine List.pairwise_cons.2 ⟨fun q hq => ?_, Reads.sorted h.2 h2 d2⟩
  obtain ⟨i, hi⟩ := List.getElem?_of_mem hq
  obtain ⟨y, hy, e1, e2, e3, _⟩ : ∃ y, rs[i]? = some y ∧ ReadsP w y q := by
   have hl := h.2.len
   have hil : i < rs.length := by have := (List.getElem?_eq_some_iff.1 hi).1; omega
   obtain ⟨q', hq', hr⟩ := h.2.at (List.getElem?_eq_getElem hil)
   rw [hi] at hq'; cases hq'
   exact ⟨_, List.getElem?_eq_getElem hil, hr⟩
  have hb := h1 y (List.mem_of_getElem? hy)
  obtain ⟨f1, f2, f3, _⟩ := h.1
  unfold befR at hb
  rw [e1, e2, e3, f1, f2, f3] at hb
  exact (Prod.better_or (d1 q hq)).resolve_right (by unfold Prod.better; rw [hb]; simp)
theorem sorted_pcs {w : World} {a : Option Addr} {n : Nat} {l : List Prod.Pc} {rs rs' : List RawPc} (hd : Prod.Dist l) (h : Reads w rs l) (hp : rs'.Perm rs) (hs : rs'.Pairwise fun x y => befR y x = false) (hr : RawsAt w a n rs') : PcsAt w a n (Prod.sortD l) := by
 obtain ⟨l', q1, q2⟩ := Reads.perm hp.symm h
 have hd' := (Prod.Dist.perm q1).2 hd
 rw [← Prod.sortD_eq hd (q2.sorted hs hd') q1]
 exact ⟨rs', hr, q2⟩
theorem divide_c {w1 w2 : World} {a : Option Addr} {n : Nat} {l : List Prod.Pc} {b o : Nat} {r : List Int} (c k : Nat) (w : World) (h : PcsAt w1 a n l) (e1 : Ext w1 w) (hv : VA w2 b o r) (e2 : Ext w2 w) (hn : n ≤ 100) (hd : Prod.Dist l) (hT : Tab w) (hok : ∀ p ∈ l, Globe.validL p.rw = true) :
  Calls Tryz.prog 92 #[.agg #[sv b o 24 k], .slice a n c] w (RetPcs w (Prod.divide r l)) := by
 replace h := h.ext e1;replace hv := hv.ext e2;have ltb := hv.lt;have hln := h.len;clear e1 e2;obtain ⟨rs, hR, hrd⟩ := h;refine calls_cw 16 [(1, .slice a n c), (0, .agg #[sv b o 24 k])] Tryz.func92 rfl Tryz.ntmps92 (by kernel_rfl) (by kernel_rfl) (fun L => ?_);have hE := Ext.refl w;refine zc (zp (pS (sw 33 #[sv b o 24 k] ?_)));intro O1 X2 Ch Cf hb hbx;have B7 := bq1 hbx;replace hE := hE.trans hb;have C2 := hb.size;have Cp := B7.lt;refine pT (.slice none 0 0) ?_;refine zn (zc (zp (pT (.slice a n c) ?_)));refine pS (sc 122 #[.slice a n c] ((Values_c _ _ _ _).mono ?_));rintro e w8 ⟨B5, rfl, Co, Bh, hb⟩;refine mv2 hb hE B7 fun hE B7=>?_;have C3 := hb.size;have Cj := World.block_lt_of_cell? _ _ Bh;refine ⟨_, rfl, pS (sc 121 #[.func (.func 140) #[] #[pw B5 0], .func (.func 123) #[] #[]] ((SortedFunc_c _ hR (by omega) hE Bh (Ext.refl _)).mono ?_))⟩;rintro e C6 ⟨Bq, Br, Cm, rfl, Bx, C1, C0, hb⟩;refine mv2 hb hE B7 fun hE B7=>?_;have Bg := hb.size;have Bt : PcsAt C6 Bq n (Prod.sortD l) := sorted_pcs hd (hrd.ext hE) Bx C1 C0;have C9 := hE;have Bf := Ext.refl C6;refine ⟨_, rfl, pT (.slice Bq n Br) ?_⟩;refine zn (zc (zp (pS (sw 30 #[.slice none 0 0] ?_))));intro C8 Cc Be Cb hb hbx;have Bb := bq1 hbx;refine mv3 hb hE Bf B7 fun hE Bf B7=>?_;have Bm := hb.size;have C5 := Bb.lt;refine zn (zc (zp (pT (.slice Bq n Br) ?_)));refine pU (.agg #[sv b o 24 k]) (xl (ld33 (B7.1))) ?_;refine pT (.func (.func 124) #[] #[pw C8 0]) ?_;refine pS (sc 62 #[.slice Bq n Br, .agg #[sv b o 24 k], .func (.func 124) #[] #[pw C8 0]] ((foldD_v _ _ _ Bt Bf (Nat.le_of_eq Be) (hv.ext hE) (Nat.ne_of_gt (Nat.lt_of_lt_of_le ltb (T (T C2 (T C3 Bg)) (Nat.le_of_eq Be)))) Bb (by omega) (hT.ext C9) (fun p hp => hok p ((Prod.sortD_perm l).mem_iff.1 hp))).mono ?_));rintro e Cq ⟨Cd, Cl, Ci, Bi, Bp, Bj, rfl, Ba, Bc, Bk, Bw, Cg⟩;replace hE := C9.trans Bw;have Ck := Ba.lt;refine ⟨_, rfl, ?_⟩;refine zn (zc (zp (pU (.slice Bi Bp Bj) (xl (ld30 (Ba.1))) ?_)));have hcap := OwnS.cap Bc Bk;have Bz := OwnS.plain Bc;refine pS (sc 126 #[.slice Bi Bp Bj] ((Reverse_c _ (Bc) Bk (by have := Prod.divF_len (Prod.sortD l) r; have := (Prod.sortD_perm l).length_eq; omega)).mono ?_));rintro e Cn ⟨rfl, Bu, Bv, C4⟩;have Ca : ∀ U, Ext U _ → U.heap.size ≤ Cc.heap.size → Ext U Cn := fun U h q => Bv U h (fun k hk => T q hk)
 replace Ba := old_box Ca Ba (Nat.lt_of_lt_of_le C5 (Nat.le_refl _));replace hE := Ca _ hE (T C2 (T C3 (T Bg Bm)));have Ce := C4;refine ⟨_, rfl, ?_⟩;refine zn (zc (zp (pU (.slice Bi Bp Bj) (xl (ld30 (Ba.1))) ?_)));refine pT (.slice Bi Bp Bj) ?_;refine zn (cK [4] (fun L => ?_));refine cw_ret (qw_ret [.slice Bi Bp Bj] rfl ⟨(by kernel_rfl), trivial⟩ ?_);exact ⟨_, _, _, rfl, (Bu.mono fun k hk => T (T C2 (T C3 (T Bg Bm))) hk), hcap, Bz, hE⟩
end Go.Proofs.YtajdohcgjgknmaaGreatDoor

namespace Go.Proofs.YtajdohcgjgknmaaGreatDoor
open Go.RowKit
def intVals (l : List Int) : List Value := l.map (Value.int .i64)
theorem intVals_at {l : List Int} {i : Nat} (h : i < l.length) : (intVals l).toArray[i]? = some (.int .i64 (Globe.nth l i)) := by
 simp [intVals, Globe.nth, h]
theorem eqItems_ints {P : Program} (d : Nat) (e : TypeId) (hp : P.plainKey e = true) (hc : P.cellsOf e = 1) (hu : P.underlying e = some (.int .i64)) (xs ys : List Int) (w : World) :
  ∀ is : List Nat, (∀ i ∈ is, i < xs.length ∧ i < ys.length) → (Op.eqItems (d + 1) e (P.cellsOf e) (intVals xs).toArray (intVals ys).toArray is).run P w = .ok (is.all fun i => Globe.nth xs i == Globe.nth ys i) w
 | [], _ => by simp [Op.eqItems]
 | i :: is, h => by
  obtain ⟨h1, h2⟩ := h i (by simp)
  have ih := eqItems_ints d e hp hc hu xs ys w is (fun j hj => h j (by simp [hj]))
  have p1 : (part e (intVals xs).toArray (i * P.cellsOf e)).run P w = .ok (.int .i64 (Globe.nth xs i)) w := run_part_plain w hp (by rw [hc, Nat.mul_one]; exact intVals_at h1)
  have p2 : (part e (intVals ys).toArray (i * P.cellsOf e)).run P w = .ok (.int .i64 (Globe.nth ys i)) w := run_part_plain w hp (by rw [hc, Nat.mul_one]; exact intVals_at h2)
  simp only [Op.eqItems, Sem.run_bind, p1, p2, Result.andThen_ok, run_equalIn_int w d e .i64 .i64 _ _ hu, List.all_cons]
  cases hq : (Globe.nth xs i == Globe.nth ys i)
  · simp
  · simpa using ih
theorem equalIn_rows {P : Program} (t e : TypeId) (hu : P.underlying t = some (.array 24 e)) (hs : (P.info? e).isSome = true) (hp : P.plainKey e = true) (hc : P.cellsOf e = 1) (hue : P.underlying e = some (.int .i64)) (L : List Int) (hL : L.length = 24) (w : World) :
    (Op.equalIn 10000 t (.agg (intVals L).toArray) (.agg (intVals Globe.zeroL).toArray)).run P w = .ok (decide (L = Globe.zeroL)) w := by
  obtain ⟨i, hi⟩ := Option.isSome_iff_exists.1 hs
  rw [run_equalIn_array w 9999 _ _ hu hi, eqItems_ints 9998 e hp hc hue L Globe.zeroL w (List.range 24) (fun j hj => by have := List.mem_range.1 hj; simp [Globe.zeroL]; omega)]
  congr 1
  rw [Bool.eq_iff_iff, decide_eq_true_eq, List.all_eq_true]
  constructor
  · intro h
    exact Globe.ext_nth (by rw [hL]; rfl) fun j hj => by simpa using h j (List.mem_range.2 (by omega))
  · rintro rfl j _
    simp
theorem wpList_load_g {P : Program} {ops : Array Oper} {rest : List Oper} {op : Oper} {a : Act} {w : World} {Q : Exit → Act → World → Prop} (hw : Region.wanted op (yielded ops a.tmps) = true) (ty : TypeId) (x : Operand) (ho : op.op = .load ty x)
  (b o : Nat) (hx : a.eval x = .pointer (some ⟨b, o, none⟩)) (cs : List Value) (d : TypeDesc) (hc : w.rangeAt b o cs)
  (hu : P.underlying ty = some d) (hd : d.isRow = true) (hi : (P.info? ty).map (·.size) = some cs.length)
  (h : wpList P ops Q rest (a.put op.dst (.agg cs.toArray)) w) : wpList P ops Q (op :: rest) a w :=
 wpList_step fun _ hK => by
  rw [if_pos hw]
  exact wp_load_mid ty x ho b o hx cs d hc hu hd hi (hK _ _ h)
theorem RowsAt.range {w : World} {B : Nat} {L : List Int} (h : RowsAt w B L) : w.rangeAt B 0 (intVals L) := by
 intro j v hv
 have hj : j < L.length := by
  rw [← List.length_map (f := Value.int .i64)]
  exact (List.getElem?_eq_some_iff.1 hv).1
 have : v = .int .i64 (Globe.nth L j) := by
  have e := intVals_at hj
  rw [List.getElem?_toArray] at e
  rw [e] at hv; cases hv; rfl
 rw [this, Nat.zero_add]
 exact h.cell (by rw [← h.len]; exact hj)
end Go.Proofs.YtajdohcgjgknmaaGreatDoor

namespace Go.Proofs.YtajdohcgjgknmaaGreatDoor
open Go.RowKit
theorem arrayAt_c (B k : Nat) (w : World) : (Instr.arrayAt 84 (.slice (some ⟨B, 0, none⟩) 24 k)).run Tryz.prog w = .ok (.pointer (some ⟨B, 0, none⟩)) w := by kernel_rfl
theorem eql24 {L : List Int} (hL : L.length = 24) (w : World) : (Op.equalIn 10000 84 (.agg (intVals L).toArray) (.agg #[.int .i64 0, .int .i64 0, .int .i64 0, .int .i64 0, .int .i64 0, .int .i64 0, .int .i64 0, .int .i64 0, .int .i64 0, .int .i64 0, .int .i64 0, .int .i64 0, .int .i64 0, .int .i64 0, .int .i64 0, .int .i64 0, .int .i64 0, .int .i64 0, .int .i64 0, .int .i64 0, .int .i64 0, .int .i64 0, .int .i64 0, .int .i64 0])).run Tryz.prog w = .ok (decide (L = Globe.zeroL)) w :=
 equalIn_rows (P := Tryz.prog) 84 3 Tryz.underlying84 (by kernel_rfl) (by kernel_rfl) (by kernel_rfl) Tryz.underlying3 L hL w
theorem size24 {L : List Int} (hL : L.length = 24) : (Tryz.prog.info? 84).map (·.size) = some (intVals L).length := by rw [show (intVals L).length = 24 by simp [intVals, hL]]; kernel_rfl
set_option maxHeartbeats 1000000 in
theorem Contains_v {w1 w2 : World} {b1 o1 b2 o2 : Nat} (c1 c2 : Nat) {l1 l2 : List Int} (w : World) (h1 : VA w1 b1 o1 l1) (e1 : Ext w1 w) (h2 : VA w2 b2 o2 l2) (e2 : Ext w2 w) :
  Calls Tryz.prog 10 #[.agg #[.slice (some ⟨b1, o1, none⟩) 24 c1], .agg #[.slice (some ⟨b2, o2, none⟩) 24 c2]] w fun e w' => e = .returned (.bool (Globe.containsB l1 l2)) ∧ Ext w w' := by
 replace h1 := h1.ext e1; replace h2 := h2.ext e2; clear e1 e2
 have hr : Globe.containsB l1 l2 = decide (Globe.lessL l2 l1 = Globe.zeroL) := by rw [Globe.containsB, h1.2, h2.2]; rfl
 have Hr := Lib.hid hr; clear hr
 have ha1 := arrayAt_c
 have hL : (Globe.lessL l2 l1).length = 24 := Globe.rowsF_len _
 have heq := @eql24 (Globe.lessL l2 l1) hL
 have HL := Lib.hid hL; clear hL
 go_enter Tryz.func10, Tryz.ntmps10
 go_wp2_with (first | (go_at_call 47; refine (Less_v _ _ _ h2 (by (repeat' (first | (with_reducible assumption) | (with_reducible exact Ext.refl _) | (with_reducible refine Ext.alloc ?_ _) | (with_reducible refine Ext.drew ?_) | (with_reducible refine Ext.drewN ?_ _) | (with_reducible refine Ext.setCell ?_ ?_ _) | (with_reducible refine Ext.trans ?_ (by assumption)) | go_size))) h1 (by (repeat' (first | (with_reducible assumption) | (with_reducible exact Ext.refl _) | (with_reducible refine Ext.alloc ?_ _) | (with_reducible refine Ext.drew ?_) | (with_reducible refine Ext.drewN ?_ _) | (with_reducible refine Ext.setCell ?_ ?_ _) | (with_reducible refine Ext.trans ?_ (by assumption)) | go_size)))).mono ?_; rintro e w1 ⟨B, k, rfl, hB, hr, hv, hb⟩; have hc := hb.cellE; have hf := hb.frozenE; have hz := hb.size; have ha := alloc_keeps w1; (try simp only [World.size_alloc] at hc hf hz); (try simp only [World.size_setCell] at hc hf hz); (try simp only [World.size_drew] at hc hf hz); have hrg := (hr.ext (Ext.alloc (Ext.refl _) (.cells #[.slice (some ⟨B, 0, none⟩) 24 k] 33))).range; clear hr hv) | (refine wpList_load_g (op := ⟨some 19, Op.load 84 (Operand.tmp 18), _, _, _, _⟩) (by kernel_rfl) 84 (Operand.tmp 18) rfl _ 0 rfl _ (.array 24 3) hrg Tryz.underlying84 rfl (size24 HL.out) ?_))
 go_ret
 exact ⟨ret_bool Hr.out.symm, by (repeat' (first | (with_reducible assumption) | (with_reducible exact Ext.refl _) | (with_reducible refine Ext.alloc ?_ _) | (with_reducible refine Ext.drew ?_) | (with_reducible refine Ext.drewN ?_ _) | (with_reducible refine Ext.setCell ?_ ?_ _) | (with_reducible refine Ext.trans ?_ (by assumption)) | go_size))⟩
set_option maxHeartbeats 1000000 in
theorem Contains_n (a1 : Option Addr) (l1 : List Int) (n1 c1 : Nat) (v1 : Bool) (a2 : Option Addr) (l2 : List Int) (n2 c2 : Nat) (v2 : Bool) (w : World) (h1 : AA w a1 l1 n1 v1) (h2 : AA w a2 l2 n2 v2) (hv : (v1 && v2) = false) :
  Calls Tryz.prog 10 #[.agg #[.slice a1 n1 c1], .agg #[.slice a2 n2 c2]] w fun e w' => e = .returned (.bool false) ∧ Ext w w' := by
 have hv' : (v2 && v1) = false := by rw [Bool.and_comm]; exact hv
 clear hv
 go_enter Tryz.func10, Tryz.ntmps10
 go_wp2_with (go_at_call 47; refine (Less_n _ l2 _ _ v2 _ l1 _ _ v1 _ (h2.ext (by (repeat' (first | (with_reducible assumption) | (with_reducible exact Ext.refl _) | (with_reducible refine Ext.alloc ?_ _) | (with_reducible refine Ext.drew ?_) | (with_reducible refine Ext.drewN ?_ _) | (with_reducible refine Ext.setCell ?_ ?_ _) | (with_reducible refine Ext.trans ?_ (by assumption)) | go_size)))) (h1.ext (by (repeat' (first | (with_reducible assumption) | (with_reducible exact Ext.refl _) | (with_reducible refine Ext.alloc ?_ _) | (with_reducible refine Ext.drew ?_) | (with_reducible refine Ext.drewN ?_ _) | (with_reducible refine Ext.setCell ?_ ?_ _) | (with_reducible refine Ext.trans ?_ (by assumption)) | go_size)))) hv').mono ?_; rintro e w1 ⟨rfl, hb⟩; have hc := hb.cellE; have hf := hb.frozenE; have hz := hb.size; have ha := alloc_keeps w1; (try simp only [World.size_alloc] at hc hf hz); (try simp only [World.size_setCell] at hc hf hz); (try simp only [World.size_drew] at hc hf hz))
 go_ret
 exact ⟨rfl, by (repeat' (first | (with_reducible assumption) | (with_reducible exact Ext.refl _) | (with_reducible refine Ext.alloc ?_ _) | (with_reducible refine Ext.drew ?_) | (with_reducible refine Ext.drewN ?_ _) | (with_reducible refine Ext.setCell ?_ ?_ _) | (with_reducible refine Ext.trans ?_ (by assumption)) | go_size))⟩
theorem Contains_c {w1 w2 : World} {a1 : Option Addr} {l1 : List Int} {n1 : Nat} (c1 : Nat) {v1 : Bool} {a2 : Option Addr} {l2 : List Int} {n2 : Nat} (c2 : Nat) {v2 : Bool} (w : World) (h1 : AA w1 a1 l1 n1 v1) (e1 : Ext w1 w) (h2 : AA w2 a2 l2 n2 v2) (e2 : Ext w2 w) :
    Calls Tryz.prog 10 #[.agg #[.slice a1 n1 c1], .agg #[.slice a2 n2 c2]] w fun e w' => e = .returned (.bool (Globe.containsB l1 l2)) ∧ Ext w w' := by
  replace h1 := h1.ext e1; replace h2 := h2.ext e2
  cases hq : (v1 && v2)
  · have hr : Globe.containsB l1 l2 = false := by rw [Globe.containsB, h1.2.2.2, h2.2.2.2, hq]; rfl
    rw [hr]
    exact Contains_n a1 l1 n1 c1 v1 a2 l2 n2 c2 v2 w h1 h2 hq
  · obtain ⟨rfl, rfl⟩ := Bool.and_eq_true_iff.1 hq
    obtain ⟨b1, o1, rfl, rfl, r1⟩ := h1.va
    obtain ⟨b2, o2, rfl, rfl, r2⟩ := h2.va
    exact Contains_v c1 c2 w r1 (Ext.refl _) r2 (Ext.refl _)
end Go.Proofs.YtajdohcgjgknmaaGreatDoor

namespace Go.Proofs.YtajdohcgjgknmaaGreatDoor
set_option maxRecDepth 1000000
set_option maxHeartbeats 4000000
set_option synthInstance.maxHeartbeats 0
set_option synthInstance.maxSize 9999
open Go.RowKit
def Tz39_0 : List Row := [(some 38, [5], []), (some 39, [38], [0]), (some 40, [39], [1]), (some 41, [40], [2, 1]), (some 42, [5, 41], [3]), (some 43, [42, 41], [4, 3]), (some 44, [43, 41], [5, 3, 3]), (some 45, [44, 41], [6, 3]), (some 46, [41, 45], [3, 7]), (some 47, [46], [8, 6]), (some 48, [3, 47], [9]), (some 49, [5, 47], [9]), (some 50, [49, 47], [11, 9]), (some 51, [48, 50, 47], [10, 12, 9, 9]), (some 52, [51, 47], [13, 9]), (some 53, [47, 52], [9, 14]), (some 54, [53], [15, 13]), (some 55, [4, 54], [16]), (some 56, [55, 54], [17, 16]), (some 57, [56, 54], [18, 16, 16]), (some 58, [5, 57], [19]), (some 59, [1, 57], [19]), (some 60, [59, 57], [21, 19]), (some 61, [4, 57], [19]), (some 62, [61, 57], [23, 19]), (some 63, [60, 62, 57], [22, 24, 19]), (some 64, [63, 57], [25, 19]), (some 65, [58, 64, 57], [20, 26, 19, 19]), (some 66, [65, 57], [27, 19]), (some 67, [57, 66, 54], [19, 28, 16]), (some 68, [54, 67], [16, 29]), (some 69, [68], [30, 27]), (some 70, [1, 69], [31]), (some 71, [70, 69], [32, 31]), (some 72, [4, 69], [31]), (some 73, [71, 72, 69], [33, 34, 31]), (some 74, [5, 69], [31]), (some 75, [74, 69], [36, 31]), (some 76, [75, 69], [37, 31, 31]), (some 77, [73, 76, 69], [35, 38, 38, 31]), (some 78, [69, 77], [31, 39])]
theorem PcsAt.get {w : World} {b o n : Nat} {l : List Prod.Pc} (h : PcsAt w (some ⟨b, o, none⟩) n l) {i : Nat} (hi : i < n) :
  ∃ (p : Prod.Pc) (ar : Option Addr) (k c : Nat), l[i]? = some p ∧ w.cell? ⟨b, o + i * 4, none⟩ = some (.int .i64 p.im) ∧ w.cell? ⟨b, o + i * 4 + 1, none⟩ = some (.int .i64 p.t) ∧ w.cell? ⟨b, o + i * 4 + 2, none⟩ = some (.bool p.cl) ∧
   w.cell? ⟨b, o + i * 4 + 3, none⟩ = some (.slice ar k c) := by
 obtain ⟨b', o', p, ar, k, c, e, h1, h2, h3, h4, h5, _⟩ := h.at hi
 cases e
 exact ⟨p, ar, k, c, h1, h2, h3, h4, h5⟩
theorem Contains_q {w1 w2 : World} {a1 : Option Addr} {l1 : List Int} {n1 : Nat} (c1 : Nat) {v1 : Bool} {a2 : Option Addr} {l2 : List Int} {n2 : Nat} (c2 : Nat) {v2 r : Bool} (w : World) (h1 : AA w1 a1 l1 n1 v1) (e1 : Ext w1 w) (h2 : AA w2 a2 l2 n2 v2) (e2 : Ext w2 w) (hr : Globe.containsB l1 l2 = r) :
  Calls Tryz.prog 10 #[.agg #[.slice a1 n1 c1], .agg #[.slice a2 n2 c2]] w fun e w' => e = .returned (.bool r) ∧ Ext w w' := hr ▸ Contains_c c1 c2 w h1 e1 h2 e2
namespace Prod
theorem vGo_step {F : List Int} {pre l : List Pc} {i : Nat} {p : Pc} (hp : l[i]? = some p) : vGo F pre (l.drop i) = (stepOk F pre p && vGo (Globe.lessL F p.rw) (pre ++ [p]) (l.drop (i + 1))) := by
 obtain ⟨hi, rfl⟩ := List.getElem?_eq_some_iff.1 hp
 rw [List.drop_eq_getElem_cons hi, vGo]
theorem noC_eq {l : List Int} (h : noC l = true) : (((Globe.cellsTo l 24).length : Nat) : Int) = 0 := by unfold noC at h; rw [decide_eq_true_eq] at h; omega
theorem noC_ne {l : List Int} (h : noC l = false) : ¬ (((Globe.cellsTo l 24).length : Nat) : Int) = 0 := by unfold noC at h; rw [decide_eq_false_iff_not] at h; omega
theorem step_cases (F : List Int) (pre : List Pc) (p : Pc) : okP p = false ∨ (okP p = true ∧ noC p.rw = true) ∨ (okP p = true ∧ noC p.rw = false ∧ Globe.containsB F p.rw = false) ∨ (okP p = true ∧ noC p.rw = false ∧ Globe.containsB F p.rw = true ∧ pre = pre) := by
 cases okP p <;> cases noC p.rw <;> cases Globe.containsB F p.rw <;> simp
theorem step_first {F : List Int} {pre : List Pc} {p : Pc} (h1 : okP p = true) (h2 : noC p.rw = false) (h3 : Globe.containsB F p.rw = true) (h4 : pre = []) : stepOk F pre p = !pre.any fun q => decide (q.im = p.im) := by
 subst h4; simp [stepOk, h1, h2, h3]
theorem step_later {F : List Int} {pre : List Pc} {p p0 : Pc} (h1 : okP p = true) (h2 : noC p.rw = false) (h3 : Globe.containsB F p.rw = true) (h4 : pre.getLast? = some p0) (h5 : better p p0 = true) : stepOk F pre p = !pre.any fun q => decide (q.im = p.im) := by
 simp [stepOk, h1, h2, h3, h4, h5]
theorem step_worse {F : List Int} {pre : List Pc} {p p0 : Pc} (h4 : pre.getLast? = some p0) (h5 : better p p0 = false) : stepOk F pre p = false := by
 simp [stepOk, h4, h5]
theorem take_last {l : List Pc} {i : Nat} (h0 : 0 < i) (hi : i ≤ l.length) : (l.take i).getLast? = l[i - 1]? := by
 rw [List.getLast?_eq_getElem?, List.length_take, List.getElem?_take, Nat.min_eq_left hi, if_pos (by omega)]
end Prod
theorem rank_c {x y : Prod.Pc} {a1 a2 : Option Addr} {k1 c1 k2 c2 : Nat} (w : World) : Calls Tryz.prog 80 #[.agg #[.int .i64 x.im, .int .i64 x.t, .bool x.cl, .slice a1 k1 c1], .agg #[.int .i64 y.im, .int .i64 y.t, .bool y.cl, .slice a2 k2 c2]] w fun e w' => e = .returned (.int .i64 (Prod.rk x.cl x.t x.im y.cl y.t y.im)) ∧ Ext w w' := (rank_g w).mono fun _ _ ⟨h, g⟩ => ⟨h, g.ext⟩
theorem pValid_c {w1 w2 : World} {id ver : Int} {ar : List Int} {ps : List Prod.Pc} {a1 a : Option Addr} {n1 n : Nat} (c1 : Nat) {c : Nat} (w : World) (hnc : n ≤ c) (hA : AA w1 a1 ar n1 (Globe.validL ar)) (e1 : Ext w1 w) (hP : PcsAt w2 a n ps) (e2 : Ext w2 w) (hT : Tab w) : Calls Tryz.prog 28 #[.agg #[iv id, iv ver, .slice a1 n1 c1, .slice a n c]] w fun e w' => e = .returned (.bool (Prod.validP id ver ar ps)) ∧ Ext w w' := by
 replace hA := hA.ext e1;replace hP := hP.ext e2;have hnb := hP.max;have hln := hP.len;clear e1 e2;refine calls_cw 84 [(0, .agg #[iv id, iv ver, .slice a1 n1 c1, .slice a n c])] Tryz.func28 rfl Tryz.ntmps28 (by kernel_rfl) (by kernel_rfl) (fun L => ?_);have hE := Ext.refl w;refine zc (zp (pS (sw 53 #[iv id, iv ver, .slice a1 n1 c1, .slice a n c] ?_)));intro O1 X2 Gw Gv hb hbx;have ⟨Bq, Bt, Br, Be⟩ := bq4 hbx;replace hE := hE.trans hb;have En := hb.size;have Ev := Bq.lt;refine pT (.bool false) ?_;refine zn (zc (zc (zp (pT (pw O1 0) ?_))));refine pU (iv id) (xl (ld3 (Bq.1))) ?_;rcases Bool.eq_false_or_eq_true (Globe.inB id 0 63) with Dz | Dz
 ·
  refine pS (sc 79 #[iv id, iv 0, iv 63] ((in_r (r := true) id 0 63 _ (Dz)).mono ?_));rintro e w6 ⟨rfl, hb⟩;refine mv5 hb hE Bq Bt Br Be fun hE Bq Bt Br Be=>?_;have Dx := hb.size;refine ⟨_, rfl, pD (.bool false) (.bool false) ?_⟩;refine pT (pw O1 1) ?_;refine pU (iv ver) (xl (ld3 (Bt.1))) ?_;rcases Bool.eq_false_or_eq_true (Globe.inB ver 1 100) with E6 | E6
  ·
   refine pS (sc 79 #[iv ver, iv 1, iv 100] ((in_r (r := true) ver 1 100 _ (E6)).mono ?_));rintro e w9 ⟨rfl, hb⟩;refine mv5 hb hE Bq Bt Br Be fun hE Bq Bt Br Be=>?_;have Cu := hb.size;refine ⟨_, rfl, pD (.bool false) (.bool false) ?_⟩;refine pD (.bool false) (pw O1 2) ?_;refine pU (.agg #[.slice a1 n1 c1]) (xl (ld33 (Br.1))) ?_;rcases Bool.eq_false_or_eq_true (Globe.validL ar) with D4 | D4
   ·
    refine pS (sc 50 #[.agg #[.slice a1 n1 c1]] ((Valid_q (r := true) _ _ (hA) hE D4).mono ?_));rintro e Ij ⟨rfl, hb⟩;refine mv5 hb hE Bq Bt Br Be fun hE Bq Bt Br Be=>?_;have Cv := hb.size;refine ⟨_, rfl, pD (.bool false) (.bool false) ?_⟩;refine pD (.bool false) (pw O1 3) ?_;refine pU (.slice a n c) (xl (ld30 (Be.1))) ?_;refine pT (iv n) ?_
    by_cases Ef : ((n : Nat) : Int) > (24 : Int)
    ·
     refine pU (.bool true) (ed (((n : Nat) : Int) > (24 : Int)) (Ef)) ?_;refine pT (.bool true) ?_;refine zn (cK [1,27] (fun L => ?_));refine zt ?_;refine zc (zp (pT (.bool false) ?_));refine zn (cw_ret (qw_then_ret (qw_ret [.bool false] rfl ⟨(by kernel_rfl), trivial⟩ ?_)));exact ⟨rb (show Prod.validP id ver ar ps = false by simp [Prod.validP, Prod.headOk, hln, Dz, E6, D4] <;> (intro hq; omega)).symm, hE⟩
    ·
     refine pU (.bool false) (en (((n : Nat) : Int) > (24 : Int)) (Ef)) ?_;refine pT (.bool false) ?_;refine zn (cK [1,27] (fun L => ?_));refine zf ?_;refine cw_skip (zq (cw_seq ?_));have hva : Globe.validL ar = true := D4;obtain ⟨Ed, Es, rfl, rfl, Ee⟩ := va_of hA hva;have F7 := Ee.lt;have hh : Prod.headOk id ver ar ps.length = true := by simp [Prod.headOk, hln, Dz, E6, D4];omega
     refine zp (pT (pw O1 2) ?_);refine pU (.agg #[sv Ed Es 24 c1]) (xl (ld33 (Br.1))) ?_;refine pS (sw 33 #[.slice none 0 0] ?_);intro D3 Gb Ce Fw hb hbx;have Bz := bq1 hbx;refine mv5 hb hE Bq Bt Br Be fun hE Bq Bt Br Be=>?_;have Em := hb.size;have Cw := Bz.lt;refine pP (zF D3 0 (sv Ed Es 24 c1) (st33 Bz.1 Bz.2) Bz ?_);intro Fb ho Bz hk;replace hE := ho.ext hE (T (T En (T Dx (T Cu Cv))) (Nat.le_of_eq Ce));have q9 := ho.bx O1 (Nat.ne_of_gt (Nat.lt_of_lt_of_le Ev (T (T Dx (T Cu Cv)) (Nat.le_of_eq Ce))));replace Bq := q9 Bq;replace Bt := q9 Bt;replace Br := q9 Br;replace Be := q9 Be;clear q9;have Cd := Nat.le_of_eq ho.size.symm;clear ho hk;refine zn (zc (zc (zp (pT (pw O1 3) ?_))));refine pU (.slice a n c) (xl (ld30 (Be.1))) ?_;refine pD (iv n) (iv 0) ?_;refine zn (cw_block ?_);refine cw_loop [1, 3, 31, 32, 33] (fun ws' wr m => ∃ i BB : Nat, ∃ oB kB : Nat, ws' = [(1, pw O1 0), (3, pw D3 0), (31, .slice a n c), (32, iv n), (33, iv i)] ∧ m = n - i ∧ Fb.heap.size ≤ wr.heap.size ∧ Ext w wr ∧ BoxAt wr O1 0 (iv id) ∧ BoxAt wr O1 1 (iv ver) ∧ BoxAt wr O1 2 (sv Ed Es 24 c1) ∧ BoxAt wr O1 3 (.slice a n c) ∧ BoxAt wr D3 0 (sv BB oB 24 kB) ∧ VA wr BB oB (Prod.rest ar (ps.take i)) ∧ i ≤ n ∧ Prod.vGo ar [] ps = Prod.vGo (Prod.rest ar (ps.take i)) (ps.take i) (ps.drop i) ∧ Hid (D3 ≠ BB)) (ws0 := [(1, pw O1 0), (3, pw D3 0), (31, .slice a n c), (32, iv n), (33, iv 0)]) (by kernel_rfl) _ ⟨0, Ed, Es, c1, rfl, rfl, Nat.le_refl _, hE, Bq, Bt, Br, Be, Bz, (Ee.ext hE), by omega, rfl, Lib.hid (Nat.ne_of_gt (Nat.lt_of_lt_of_le F7 (T (T En (T Dx (T Cu Cv))) (Nat.le_of_eq Ce))))⟩ ?_;clear Bq Bt Br Be Bz hE;rintro Ii L ws Ik ⟨i, BB, oB, kB, rfl, rfl, C0, hE, Bq, Bt, Br, Be, b3, vB, hi, Hv, hne⟩;have F8 := vB.lt
     by_cases hlt : i < n
     ·
      obtain ⟨Bv, Bw, p, Dk, Er, Bu, rfl, Ep, F3, F4, F5, F6, Cz⟩ := hP.at hlt;have hst := Prod.vGo_step (F := Prod.rest ar (ps.take i)) (pre := ps.take i) Ep;have htk : ps.take (i + 1) = ps.take i ++ [p] := by rw [List.take_add_one, Ep];rfl
      have hrs : Prod.rest ar (ps.take (i + 1)) = Globe.lessL (Prod.rest ar (ps.take i)) p.rw := by rw [htk];exact Prod.rest_snoc _ _ _
      refine zc (zp (pU (.bool true) (ed (((i : Nat) : Int) < ((n : Nat) : Int)) (by omega)) ?_));refine zn (zc (zt ?_));refine cw_skip (zq (zc (cw_block ?_)));refine zc (zp (pT (iv i) ?_));refine pU (pw Bv (Bw + i * 4)) (xi (sv Bv Bw n c) (iv i) (ix30 (k := i) (by omega))) ?_;refine pU (.agg #[iv p.im, iv p.t, .bool p.cl, .slice Dk Er Bu]) (xl (ld49 ((hE.cell F3)) ((hE.cell F4)) ((hE.cell F5)) ((hE.cell F6)))) ?_;refine pS (sw 49 #[iv 0, iv 0, .bool false, .slice none 0 0] ?_);intro Bx Gd Cr Fx hb hbx;have ⟨Bf, Bg, Bh, Bb⟩ := bq4 hbx;refine mv7 hb hE Bq Bt Br Be b3 vB fun hE Bq Bt Br Be b3 vB=>?_;have D1 := hb.size;have Gx := Bf.lt;refine pT (iv i) ?_;refine pP (zG Bx (iv p.im) (iv p.t) (.bool p.cl) (.slice Dk Er Bu) (st49 Bf.1 Bf.2 Bg.1 Bg.2 Bh.1 Bh.2 Bb.1 Bb.2) Bf Bg Bh Bb ?_);intro Cg ho Bf Bg Bh Bb hk;replace hE := ho.ext hE (T (T En (T Dx (T Cu (T Cv (T Em (T Cd C0)))))) (Nat.le_of_eq Cr));have q9 := ho.bx O1 (Nat.ne_of_gt (Nat.lt_of_lt_of_le Ev (T (T Dx (T Cu (T Cv (T Em (T Cd C0))))) (Nat.le_of_eq Cr))));replace Bq := q9 Bq;replace Bt := q9 Bt;replace Br := q9 Br;replace Be := q9 Be;clear q9;replace b3 := ho.box (Nat.ne_of_gt (Nat.lt_of_lt_of_le Cw (T (T Cd C0) (Nat.le_of_eq Cr)))) b3;replace vB := ho.va (Nat.ne_of_gt (Nat.lt_of_lt_of_le F8 (Nat.le_of_eq Cr))) vB;have D2 := Nat.le_of_eq ho.size.symm;clear ho hk;refine zn (zc (cw_seq ?_));obtain ⟨q, hq⟩ : ∃ q, q = Prod.stepOk (Prod.rest ar (ps.take i)) (ps.take i) p := ⟨_, rfl⟩;rcases Prod.step_cases (Prod.rest ar (ps.take i)) (ps.take i) p with h1 | ⟨h1, h2⟩ | ⟨h1, h2, h3⟩ | ⟨h1, h2, h3, h4⟩
      ·
       have hso : Prod.stepOk (Prod.rest ar (ps.take i)) (ps.take i) p = false := by simp [Prod.stepOk, h1]
       have Bp := Ext.refl Cg;refine dE Tz39_0 (fun w' => Ext Cg w') (Ext.drew (Ext.refl _)) (fun ops Q Ic hb hL hR hK => ?_);refine mv2 hb hE Bp fun hE Bp=>?_;have Gf := hb.size;refine wM 0 (.agg #[iv p.im, iv p.t, .bool p.cl, .slice Dk Er Bu]) hR (fun w hS => ld49 (Bf.c hS) (Bg.c hS) (Bh.c hS) (Bb.c hS)) Bp ?_;refine wC 1 57 #[.agg #[iv p.im, iv p.t, .bool p.cl, .slice Dk Er Bu]] hR ((right_r (x := p) (r := false) _ (Cz) hE h1).mono ?_);rintro e Il ⟨rfl, hb⟩;refine mv2 hb hE Bp fun hE Bp=>?_;have Gg := hb.size;refine ⟨_, rfl, Bp, ?_⟩;refine wW 2 (.bool true) 3 (.bool true) hR Bp ?_;refine wK 4 hR Bp ?_;refine wK 5 hR Bp ?_;refine wK 6 hR Bp ?_;refine wK 7 hR Bp ?_;refine wW 8 (.bool true) 9 (.bool true) hR Bp ?_;refine wK 10 hR Bp ?_;refine wK 11 hR Bp ?_;refine wK 12 hR Bp ?_;refine wK 13 hR Bp ?_;refine wK 14 hR Bp ?_;refine wW 15 (.bool true) 16 (.bool true) hR Bp ?_;refine wK 17 hR Bp ?_;refine wK 18 hR Bp ?_;refine wK 19 hR Bp ?_;refine wK 20 hR Bp ?_;refine wK 21 hR Bp ?_;refine wK 22 hR Bp ?_;refine wK 23 hR Bp ?_;refine wK 24 hR Bp ?_;refine wK 25 hR Bp ?_;refine wK 26 hR Bp ?_;refine wK 27 hR Bp ?_;refine wK 28 hR Bp ?_;refine wK 29 hR Bp ?_;refine wW 30 (.bool true) 31 (.bool true) hR Bp ?_;refine wK 32 hR Bp ?_;refine wK 33 hR Bp ?_;refine wK 34 hR Bp ?_;refine wK 35 hR Bp ?_;refine wK 36 hR Bp ?_;refine wK 37 hR Bp ?_;refine wK 38 hR Bp ?_;refine wK 39 hR Bp ?_;refine wV 40 (.bool true) hR Bp ?_;refine we hL hR hK ?_;refine zq (cK [1,3,5,31,32,33,78] (fun L => ?_));refine zt ?_;refine zc (zp (pT (.bool false) ?_));refine zn (cw_ret (qw_then_ret (qw_block_ret (qw_then_ret (qw_then_ret (qw_block_ret (qw_then_ret (qw_ret [.bool false] rfl ⟨(by kernel_rfl), trivial⟩ ?_))))))));exact ⟨rb (show Prod.validP id ver ar ps = false by unfold Prod.validP; rw [Hv, hst, hso]; simp).symm, hE⟩
      ·
       obtain ⟨Et, Ew, rfl, rfl, E5⟩ := va_of Cz (Prod.okP_t.1 h1).2.2;have Gy := E5.lt;have hso : Prod.stepOk (Prod.rest ar (ps.take i)) (ps.take i) p = false := by simp [Prod.stepOk, h2]
       have Bm := Ext.refl Cg;refine dE Tz39_0 (fun w' => Ext Cg w') (Ext.drew (Ext.refl _)) (fun ops Q Ie hb hL hR hK => ?_);refine mv2 hb hE Bm fun hE Bm=>?_;have Gh := hb.size;refine wM 0 (.agg #[iv p.im, iv p.t, .bool p.cl, sv Et Ew 24 Bu]) hR (fun w hS => ld49 (Bf.c hS) (Bg.c hS) (Bh.c hS) (Bb.c hS)) Bm ?_;refine wC 1 57 #[.agg #[iv p.im, iv p.t, .bool p.cl, sv Et Ew 24 Bu]] hR ((right_r (x := p) (r := true) _ (E5.aa) hE h1).mono ?_);rintro e Im ⟨rfl, hb⟩;refine mv2 hb hE Bm fun hE Bm=>?_;have Gi := hb.size;refine ⟨_, rfl, Bm, ?_⟩;refine wW 2 (.bool false) 3 (.bool false) hR Bm ?_;refine wV 4 (pw Bx 3) hR Bm ?_;refine wM 5 (.agg #[sv Et Ew 24 Bu]) hR (fun w hS => ld33 (Bb.c hS)) Bm ?_;refine wC 6 68 #[.agg #[sv Et Ew 24 Bu]] hR ((Count_v _ _ E5 hE (hT.ext hE)).mono ?_);rintro e Io ⟨rfl, hb⟩;refine mv2 hb hE Bm fun hE Bm=>?_;have Gj := hb.size;refine ⟨_, rfl, Bm, ?_⟩;refine wL 7 (.bool true) hR (fun w _ => ev_eq (show _ = Result.ok (Next.value (Value.bool (((((Globe.cellsTo p.rw 24).length : Nat) : Int) : Int) == (0 : Int)))) _ from by kernel_rfl) (Prod.noC_eq h2)) Bm ?_;refine wW 8 (.bool true) 9 (.bool true) hR Bm ?_;refine wK 10 hR Bm ?_;refine wK 11 hR Bm ?_;refine wK 12 hR Bm ?_;refine wK 13 hR Bm ?_;refine wK 14 hR Bm ?_;refine wW 15 (.bool true) 16 (.bool true) hR Bm ?_;refine wK 17 hR Bm ?_;refine wK 18 hR Bm ?_;refine wK 19 hR Bm ?_;refine wK 20 hR Bm ?_;refine wK 21 hR Bm ?_;refine wK 22 hR Bm ?_;refine wK 23 hR Bm ?_;refine wK 24 hR Bm ?_;refine wK 25 hR Bm ?_;refine wK 26 hR Bm ?_;refine wK 27 hR Bm ?_;refine wK 28 hR Bm ?_;refine wK 29 hR Bm ?_;refine wW 30 (.bool true) 31 (.bool true) hR Bm ?_;refine wK 32 hR Bm ?_;refine wK 33 hR Bm ?_;refine wK 34 hR Bm ?_;refine wK 35 hR Bm ?_;refine wK 36 hR Bm ?_;refine wK 37 hR Bm ?_;refine wK 38 hR Bm ?_;refine wK 39 hR Bm ?_;refine wV 40 (.bool true) hR Bm ?_;refine we hL hR hK ?_;refine zq (cK [1,3,5,31,32,33,78] (fun L => ?_));refine zt ?_;refine zc (zp (pT (.bool false) ?_));refine zn (cw_ret (qw_then_ret (qw_block_ret (qw_then_ret (qw_then_ret (qw_block_ret (qw_then_ret (qw_ret [.bool false] rfl ⟨(by kernel_rfl), trivial⟩ ?_))))))));exact ⟨rb (show Prod.validP id ver ar ps = false by unfold Prod.validP; rw [Hv, hst, hso]; simp).symm, hE⟩
      ·
       obtain ⟨E9, Eb, rfl, rfl, Du⟩ := va_of Cz (Prod.okP_t.1 h1).2.2;have Gz := Du.lt;have hso : Prod.stepOk (Prod.rest ar (ps.take i)) (ps.take i) p = false := by simp [Prod.stepOk, h3]
       have Bk := Ext.refl Cg;refine dE Tz39_0 (fun w' => Ext Cg w') (Ext.drew (Ext.refl _)) (fun ops Q Ig hb hL hR hK => ?_);refine mv2 hb hE Bk fun hE Bk=>?_;have Gk := hb.size;refine wM 0 (.agg #[iv p.im, iv p.t, .bool p.cl, sv E9 Eb 24 Bu]) hR (fun w hS => ld49 (Bf.c hS) (Bg.c hS) (Bh.c hS) (Bb.c hS)) Bk ?_;refine wC 1 57 #[.agg #[iv p.im, iv p.t, .bool p.cl, sv E9 Eb 24 Bu]] hR ((right_r (x := p) (r := true) _ (Du.aa) hE h1).mono ?_);rintro e Ip ⟨rfl, hb⟩;refine mv2 hb hE Bk fun hE Bk=>?_;have Gl := hb.size;refine ⟨_, rfl, Bk, ?_⟩;refine wW 2 (.bool false) 3 (.bool false) hR Bk ?_;refine wV 4 (pw Bx 3) hR Bk ?_;refine wM 5 (.agg #[sv E9 Eb 24 Bu]) hR (fun w hS => ld33 (Bb.c hS)) Bk ?_;refine wC 6 68 #[.agg #[sv E9 Eb 24 Bu]] hR ((Count_v _ _ Du hE (hT.ext hE)).mono ?_);rintro e Iq ⟨rfl, hb⟩;refine mv2 hb hE Bk fun hE Bk=>?_;have Gm := hb.size;refine ⟨_, rfl, Bk, ?_⟩;refine wL 7 (.bool false) hR (fun w _ => ev_neq (show _ = Result.ok (Next.value (Value.bool (((((Globe.cellsTo p.rw 24).length : Nat) : Int) : Int) == (0 : Int)))) _ from by kernel_rfl) (Prod.noC_ne h2)) Bk ?_;refine wW 8 (.bool false) 9 (.bool false) hR Bk ?_;refine wM 10 (.agg #[sv BB oB 24 kB]) hR (fun w hS => ld33 (b3.c hS)) Bk ?_;refine wV 11 (pw Bx 3) hR Bk ?_;refine wM 12 (.agg #[sv E9 Eb 24 Bu]) hR (fun w hS => ld33 (Bb.c hS)) Bk ?_;refine wC 13 10 #[.agg #[sv BB oB 24 kB], .agg #[sv E9 Eb 24 Bu]] hR ((Contains_q (r := false) _ _ _ (vB.aa) Bk (Du.aa) hE h3).mono ?_);rintro e Ir ⟨rfl, hb⟩;refine mv2 hb hE Bk fun hE Bk=>?_;have Gn := hb.size;refine ⟨_, rfl, Bk, ?_⟩;refine wW 14 (.bool true) 15 (.bool true) hR Bk ?_;refine wV 16 (.bool true) hR Bk ?_;refine wK 17 hR Bk ?_;refine wK 18 hR Bk ?_;refine wK 19 hR Bk ?_;refine wK 20 hR Bk ?_;refine wK 21 hR Bk ?_;refine wK 22 hR Bk ?_;refine wK 23 hR Bk ?_;refine wK 24 hR Bk ?_;refine wK 25 hR Bk ?_;refine wK 26 hR Bk ?_;refine wK 27 hR Bk ?_;refine wK 28 hR Bk ?_;refine wK 29 hR Bk ?_;refine wW 30 (.bool true) 31 (.bool true) hR Bk ?_;refine wK 32 hR Bk ?_;refine wK 33 hR Bk ?_;refine wK 34 hR Bk ?_;refine wK 35 hR Bk ?_;refine wK 36 hR Bk ?_;refine wK 37 hR Bk ?_;refine wK 38 hR Bk ?_;refine wK 39 hR Bk ?_;refine wV 40 (.bool true) hR Bk ?_;refine we hL hR hK ?_;refine zq (cK [1,3,5,31,32,33,78] (fun L => ?_));refine zt ?_;refine zc (zp (pT (.bool false) ?_));refine zn (cw_ret (qw_then_ret (qw_block_ret (qw_then_ret (qw_then_ret (qw_block_ret (qw_then_ret (qw_ret [.bool false] rfl ⟨(by kernel_rfl), trivial⟩ ?_))))))));exact ⟨rb (show Prod.validP id ver ar ps = false by unfold Prod.validP; rw [Hv, hst, hso]; simp).symm, hE⟩
      ·
       by_cases Fc : i = 0
       ·
        rcases Bool.eq_false_or_eq_true (Prod.hasIm (ps.take i) p.im) with h5 | h5
        ·
         obtain ⟨Ea, Ec, rfl, rfl, Dv⟩ := va_of Cz (Prod.okP_t.1 h1).2.2;have H0 := Dv.lt;have hso : Prod.stepOk (Prod.rest ar (ps.take i)) (ps.take i) p = false := by rw [Prod.step_first h1 h2 h3 (by rw [Fc]; rfl), show (!(ps.take i).any fun q => decide (q.im = p.im)) = !(Prod.hasIm (ps.take i) p.im) from rfl, h5];rfl
         have Bj := Ext.refl Cg;refine dE Tz39_0 (fun w' => Ext Cg w') (Ext.drew (Ext.refl _)) (fun ops Q Ih hb hL hR hK => ?_);refine mv2 hb hE Bj fun hE Bj=>?_;have Gp := hb.size;refine wM 0 (.agg #[iv p.im, iv p.t, .bool p.cl, sv Ea Ec 24 Bu]) hR (fun w hS => ld49 (Bf.c hS) (Bg.c hS) (Bh.c hS) (Bb.c hS)) Bj ?_;refine wC 1 57 #[.agg #[iv p.im, iv p.t, .bool p.cl, sv Ea Ec 24 Bu]] hR ((right_r (x := p) (r := true) _ (Dv.aa) hE h1).mono ?_);rintro e It ⟨rfl, hb⟩;refine mv2 hb hE Bj fun hE Bj=>?_;have Gq := hb.size;refine ⟨_, rfl, Bj, ?_⟩;refine wW 2 (.bool false) 3 (.bool false) hR Bj ?_;refine wV 4 (pw Bx 3) hR Bj ?_;refine wM 5 (.agg #[sv Ea Ec 24 Bu]) hR (fun w hS => ld33 (Bb.c hS)) Bj ?_;refine wC 6 68 #[.agg #[sv Ea Ec 24 Bu]] hR ((Count_v _ _ Dv hE (hT.ext hE)).mono ?_);rintro e Iu ⟨rfl, hb⟩;refine mv2 hb hE Bj fun hE Bj=>?_;have Gr := hb.size;refine ⟨_, rfl, Bj, ?_⟩;refine wL 7 (.bool false) hR (fun w _ => ev_neq (show _ = Result.ok (Next.value (Value.bool (((((Globe.cellsTo p.rw 24).length : Nat) : Int) : Int) == (0 : Int)))) _ from by kernel_rfl) (Prod.noC_ne h2)) Bj ?_;refine wW 8 (.bool false) 9 (.bool false) hR Bj ?_;refine wM 10 (.agg #[sv BB oB 24 kB]) hR (fun w hS => ld33 (b3.c hS)) Bj ?_;refine wV 11 (pw Bx 3) hR Bj ?_;refine wM 12 (.agg #[sv Ea Ec 24 Bu]) hR (fun w hS => ld33 (Bb.c hS)) Bj ?_;refine wC 13 10 #[.agg #[sv BB oB 24 kB], .agg #[sv Ea Ec 24 Bu]] hR ((Contains_q (r := true) _ _ _ (vB.aa) Bj (Dv.aa) hE h3).mono ?_);rintro e Iv ⟨rfl, hb⟩;refine mv2 hb hE Bj fun hE Bj=>?_;have Gs := hb.size;refine ⟨_, rfl, Bj, ?_⟩;refine wW 14 (.bool false) 15 (.bool false) hR Bj ?_;refine wW 16 (.bool false) 17 (iv i) hR Bj ?_;refine wL 18 (.bool false) hR (fun w _ => ev_ndec (show _ = Result.ok (Next.value (Value.bool (decide (((i : Nat) : Int) > (0 : Int))))) _ from by kernel_rfl) (by omega)) Bj ?_;refine wV 19 (.bool false) hR Bj ?_;refine wK 20 hR Bj ?_;refine wK 21 hR Bj ?_;refine wK 22 hR Bj ?_;refine wK 23 hR Bj ?_;refine wK 24 hR Bj ?_;refine wK 25 hR Bj ?_;refine wK 26 hR Bj ?_;refine wK 27 hR Bj ?_;refine wK 28 hR Bj ?_;refine wW 29 (.bool false) 30 (.bool false) hR Bj ?_;refine wW 31 (.bool false) 32 (pw O1 3) hR Bj ?_;refine wM 33 (sv Bv Bw n c) hR (fun w hS => ld30 (Be.c hS)) Bj ?_;refine wV 34 (iv i) hR Bj ?_;refine wL 35 (sv Bv Bw i c) hR (fun w _ => ex_slice (p := sv Bv Bw n c) rfl (by kernel_rfl) (by kernel_rfl) (by kernel_rfl) (by kernel_rfl) (sl30_010 (m := i) (by omega) (by omega))) Bj ?_;refine wV 36 (pw Bx 0) hR Bj ?_;refine wM 37 (iv p.im) hR (fun w hS => ld3 (Bf.c hS)) Bj ?_;refine wC 38 59 #[iv p.im] hR ((twin_c p.im _).mono ?_);rintro e Iw ⟨G7, rfl, Ge, Dw, hb⟩;refine mv2 hb hE Bj fun hE Bj=>?_;have Gt := hb.size;have H4 := World.block_lt_of_cell? _ _ Dw;refine ⟨_, rfl, Bj, ?_⟩;refine wC 39 58 #[sv Bv Bw i c, .func (.func 105) #[] #[pw G7 0]] hR ((ContainsTwin_r (r := true) _ _ ((hP).take (by omega)) hE (Dw) (Ext.refl _) h5).mono ?_);rintro e Iy ⟨rfl, hb⟩;refine mv2 hb hE Bj fun hE Bj=>?_;have Gu := hb.size;refine ⟨_, rfl, Bj, ?_⟩;refine wV 40 (.bool true) hR Bj ?_;refine we hL hR hK ?_;refine zq (cK [1,3,5,31,32,33,78] (fun L => ?_));refine zt ?_;refine zc (zp (pT (.bool false) ?_));refine zn (cw_ret (qw_then_ret (qw_block_ret (qw_then_ret (qw_then_ret (qw_block_ret (qw_then_ret (qw_ret [.bool false] rfl ⟨(by kernel_rfl), trivial⟩ ?_))))))));exact ⟨rb (show Prod.validP id ver ar ps = false by unfold Prod.validP; rw [Hv, hst, hso]; simp).symm, hE⟩
        ·
         obtain ⟨Dy, E2, rfl, rfl, Dl⟩ := va_of Cz (Prod.okP_t.1 h1).2.2;have H6 := Dl.lt;have hso : Prod.stepOk (Prod.rest ar (ps.take i)) (ps.take i) p = true := by rw [Prod.step_first h1 h2 h3 (by rw [Fc]; rfl), show (!(ps.take i).any fun q => decide (q.im = p.im)) = !(Prod.hasIm (ps.take i) p.im) from rfl, h5];rfl
         have Ba := Ext.refl Cg;refine dE Tz39_0 (fun w' => Ext Cg w') (Ext.drew (Ext.refl _)) (fun ops Q G8 hb hL hR hK => ?_);refine mv2 hb hE Ba fun hE Ba=>?_;have D8 := hb.size;refine wM 0 (.agg #[iv p.im, iv p.t, .bool p.cl, sv Dy E2 24 Bu]) hR (fun w hS => ld49 (Bf.c hS) (Bg.c hS) (Bh.c hS) (Bb.c hS)) Ba ?_;refine wC 1 57 #[.agg #[iv p.im, iv p.t, .bool p.cl, sv Dy E2 24 Bu]] hR ((right_r (x := p) (r := true) _ (Dl.aa) hE h1).mono ?_);rintro e H7 ⟨rfl, hb⟩;refine mv2 hb hE Ba fun hE Ba=>?_;have D9 := hb.size;refine ⟨_, rfl, Ba, ?_⟩;refine wW 2 (.bool false) 3 (.bool false) hR Ba ?_;refine wV 4 (pw Bx 3) hR Ba ?_;refine wM 5 (.agg #[sv Dy E2 24 Bu]) hR (fun w hS => ld33 (Bb.c hS)) Ba ?_;refine wC 6 68 #[.agg #[sv Dy E2 24 Bu]] hR ((Count_v _ _ Dl hE (hT.ext hE)).mono ?_);rintro e H8 ⟨rfl, hb⟩;refine mv2 hb hE Ba fun hE Ba=>?_;have Da := hb.size;refine ⟨_, rfl, Ba, ?_⟩;refine wL 7 (.bool false) hR (fun w _ => ev_neq (show _ = Result.ok (Next.value (Value.bool (((((Globe.cellsTo p.rw 24).length : Nat) : Int) : Int) == (0 : Int)))) _ from by kernel_rfl) (Prod.noC_ne h2)) Ba ?_;refine wW 8 (.bool false) 9 (.bool false) hR Ba ?_;refine wM 10 (.agg #[sv BB oB 24 kB]) hR (fun w hS => ld33 (b3.c hS)) Ba ?_;refine wV 11 (pw Bx 3) hR Ba ?_;refine wM 12 (.agg #[sv Dy E2 24 Bu]) hR (fun w hS => ld33 (Bb.c hS)) Ba ?_;refine wC 13 10 #[.agg #[sv BB oB 24 kB], .agg #[sv Dy E2 24 Bu]] hR ((Contains_q (r := true) _ _ _ (vB.aa) Ba (Dl.aa) hE h3).mono ?_);rintro e H9 ⟨rfl, hb⟩;refine mv2 hb hE Ba fun hE Ba=>?_;have Db := hb.size;refine ⟨_, rfl, Ba, ?_⟩;refine wW 14 (.bool false) 15 (.bool false) hR Ba ?_;refine wW 16 (.bool false) 17 (iv i) hR Ba ?_;refine wL 18 (.bool false) hR (fun w _ => ev_ndec (show _ = Result.ok (Next.value (Value.bool (decide (((i : Nat) : Int) > (0 : Int))))) _ from by kernel_rfl) (by omega)) Ba ?_;refine wV 19 (.bool false) hR Ba ?_;refine wK 20 hR Ba ?_;refine wK 21 hR Ba ?_;refine wK 22 hR Ba ?_;refine wK 23 hR Ba ?_;refine wK 24 hR Ba ?_;refine wK 25 hR Ba ?_;refine wK 26 hR Ba ?_;refine wK 27 hR Ba ?_;refine wK 28 hR Ba ?_;refine wW 29 (.bool false) 30 (.bool false) hR Ba ?_;refine wW 31 (.bool false) 32 (pw O1 3) hR Ba ?_;refine wM 33 (sv Bv Bw n c) hR (fun w hS => ld30 (Be.c hS)) Ba ?_;refine wV 34 (iv i) hR Ba ?_;refine wL 35 (sv Bv Bw i c) hR (fun w _ => ex_slice (p := sv Bv Bw n c) rfl (by kernel_rfl) (by kernel_rfl) (by kernel_rfl) (by kernel_rfl) (sl30_010 (m := i) (by omega) (by omega))) Ba ?_;refine wV 36 (pw Bx 0) hR Ba ?_;refine wM 37 (iv p.im) hR (fun w hS => ld3 (Bf.c hS)) Ba ?_;refine wC 38 59 #[iv p.im] hR ((twin_c p.im _).mono ?_);rintro e Ha ⟨Ey, rfl, Eg, C1, hb⟩;refine mv2 hb hE Ba fun hE Ba=>?_;have Dm := hb.size;have Fy := World.block_lt_of_cell? _ _ C1;refine ⟨_, rfl, Ba, ?_⟩;refine wC 39 58 #[sv Bv Bw i c, .func (.func 105) #[] #[pw Ey 0]] hR ((ContainsTwin_r (r := false) _ _ ((hP).take (by omega)) hE (C1) (Ext.refl _) h5).mono ?_);rintro e Hb ⟨rfl, hb⟩;refine mv2 hb hE Ba fun hE Ba=>?_;have Dn := hb.size;refine ⟨_, rfl, Ba, ?_⟩;refine wV 40 (.bool false) hR Ba ?_;refine we hL hR hK ?_;refine zq (cK [1,3,5,31,32,33,78] (fun L => ?_));refine zf ?_;refine cw_skip (zq (zp (pU (.agg #[sv BB oB 24 kB]) (xl (ld33 (b3.c Ba))) ?_)));refine pT (pw Bx 3) ?_;refine pU (.agg #[sv Dy E2 24 Bu]) (xl (ld33 (Bb.c Ba))) ?_;refine pS (sc 64 #[.agg #[sv BB oB 24 kB], .agg #[sv Dy E2 24 Bu]] ((lessP_v _ _ _ vB Ba Dl hE).mono ?_));rintro e F9 ⟨E3, E7, rfl, E0, Dh, hb⟩;refine mv2 hb hE Ba fun hE Ba=>?_;have Ei := hb.size;have Fz := Dh.lt;refine ⟨_, rfl, ?_⟩;have C4 := (Bq.x Ba);have C5 := (Bt.x Ba);have C6 := (Br.x Ba);have C8 := (Be.x Ba);have Cp := (b3.x Ba);have Dr := (vB.ext Ba);have Ch := (Bf.x Ba);have Ci := (Bg.x Ba);have Cj := (Bh.x Ba);have Ck := (Bb.x Ba);refine pP (zF D3 0 (sv E3 0 24 E7) (st33 Cp.1 Cp.2) Cp ?_);intro F1 ho Cp hk;replace hE := ho.ext hE (T (T En (T Dx (T Cu Cv))) (Nat.le_of_eq Ce));have q9 := ho.bx O1 (Nat.ne_of_gt (Nat.lt_of_lt_of_le Ev (T (T Dx (T Cu Cv)) (Nat.le_of_eq Ce))));replace C4 := q9 C4;replace C5 := q9 C5;replace C6 := q9 C6;replace C8 := q9 C8;clear q9;have q9 := ho.bx Bx (Nat.ne_of_lt (Nat.lt_of_lt_of_le Cw (T (T Cd C0) (Nat.le_of_eq Cr))));clear q9;replace Dh := ho.va (Nat.ne_of_lt (Nat.lt_of_lt_of_le Cw (T (T Cd (T C0 (T D1 (T D2 (T D8 (T D9 (T Da (T Db (T Dm Dn))))))))) E0))) Dh;have Ej := Nat.le_of_eq ho.size.symm;clear ho hk;refine pl_nil (qw_block (zq (zp (pU (iv ((i + 1 : Nat) : Int)) (ew (by omega) (by omega)) ?_))));refine pT (iv ((i + 1 : Nat) : Int)) ?_;refine pl_nil (qw_round [1, 3, 31, 32, 33] (ws' := [(1, pw O1 0), (3, pw D3 0), (31, sv Bv Bw n c), (32, iv n), (33, iv ((i + 1 : Nat) : Int))]) (by kernel_rfl) _ ?_ ⟨(i + 1), E3, 0, E7, rfl, rfl, (T C0 (T D1 (T D2 (T D8 (T D9 (T Da (T Db (T Dm (T Dn (T Ei Ej)))))))))), hE, C4, C5, C6, C8, Cp, (by rw [hrs]; exact Dh), by omega, (by rw [Hv, hst, hso, ← hrs, ← htk]; rfl), Lib.hid (Nat.ne_of_lt (Nat.lt_of_lt_of_le Cw (T (T Cd (T C0 (T D1 (T D2 (T D8 (T D9 (T Da (T Db (T Dm Dn))))))))) E0)))⟩);omega
       ·
        have hgl := Prod.take_last (l := ps) (i := i) (by omega) (by omega);obtain ⟨p9, Eu⟩ : ∃ p9, ps[i - 1]? = some p9 := ⟨_, List.getElem?_eq_getElem (by omega)⟩;rw [Eu] at hgl;rcases Bool.eq_false_or_eq_true (Prod.better p p9) with h6 | h6
        ·
         rcases Bool.eq_false_or_eq_true (Prod.hasIm (ps.take i) p.im) with h5 | h5
         ·
          obtain ⟨Cs, Cx, rfl, rfl, D5⟩ := va_of Cz (Prod.okP_t.1 h1).2.2;have G0 := D5.lt;obtain ⟨p0, Dj, k0, c0, Eo, z0, z1, z2, z3⟩ := PcsAt.get hP (i := i - 1) (by omega);obtain rfl : p0 = p9 := Option.some.inj (Eo.symm.trans Eu);have hso : Prod.stepOk (Prod.rest ar (ps.take i)) (ps.take i) p = false := by rw [Prod.step_later h1 h2 h3 hgl h6, show (!(ps.take i).any fun q => decide (q.im = p.im)) = !(Prod.hasIm (ps.take i) p.im) from rfl, h5];rfl
          have Bc := Ext.refl Cg;refine dE Tz39_0 (fun w' => w'.cell? ⟨Bx, 0, none⟩ = some (iv p.im) ∧ w'.cell? ⟨Bx, 1, none⟩ = some (iv p.t) ∧ w'.cell? ⟨Bx, 2, none⟩ = some (.bool p.cl) ∧ w'.cell? ⟨Bx, 3, none⟩ = some (sv Cs Cx 24 Bu) ∧ w'.cell? ⟨D3, 0, none⟩ = some (sv BB oB 24 kB) ∧ w'.cell? ⟨O1, 3, none⟩ = some (sv Bv Bw n c) ∧ w'.cell? ⟨Bv, Bw + (i - 1) * 4, none⟩ = some (iv p0.im) ∧ w'.cell? ⟨Bv, Bw + (i - 1) * 4 + 1, none⟩ = some (iv p0.t) ∧ w'.cell? ⟨Bv, Bw + (i - 1) * 4 + 2, none⟩ = some (.bool p0.cl) ∧ w'.cell? ⟨Bv, Bw + (i - 1) * 4 + 3, none⟩ = some (.slice Dj k0 c0)) (⟨Bf.1, Bg.1, Bh.1, Bb.1, b3.1, Be.1, (hE.cell z0), (hE.cell z1), (hE.cell z2), (hE.cell z3)⟩) (fun ops Q G9 hb hL hR hK => ?_);refine mv2 hb hE Bc fun hE Bc=>?_;have Fe := hb.size;refine wM 0 (.agg #[iv p.im, iv p.t, .bool p.cl, sv Cs Cx 24 Bu]) hR (fun w hS => ld49 (hS.1) (hS.2.1) (hS.2.2.1) (hS.2.2.2.1)) (⟨(Bf.c Bc), (Bg.c Bc), (Bh.c Bc), (Bb.c Bc), (b3.c Bc), (Be.c Bc), (hE.cell z0), (hE.cell z1), (hE.cell z2), (hE.cell z3)⟩) ?_;refine wC 1 57 #[.agg #[iv p.im, iv p.t, .bool p.cl, sv Cs Cx 24 Bu]] hR ((right_r (x := p) (r := true) _ (D5.aa) hE h1).mono ?_);rintro e He ⟨rfl, hb⟩;refine mv2 hb hE Bc fun hE Bc=>?_;have Ff := hb.size;have hS := A10 (Bf.c Bc) (Bg.c Bc) (Bh.c Bc) (Bb.c Bc) (b3.c Bc) (Be.c Bc) (hE.cell z0) (hE.cell z1) (hE.cell z2) (hE.cell z3);refine ⟨_, rfl, hS, ?_⟩;refine wW 2 (.bool false) 3 (.bool false) hR hS ?_;refine wV 4 (pw Bx 3) hR hS ?_;refine wM 5 (.agg #[sv Cs Cx 24 Bu]) hR (fun w hS => ld33 (hS.2.2.2.1)) hS ?_;refine wC 6 68 #[.agg #[sv Cs Cx 24 Bu]] hR ((Count_v _ _ D5 hE (hT.ext hE)).mono ?_);rintro e Hf ⟨rfl, hb⟩;refine mv2 hb hE Bc fun hE Bc=>?_;have Fg := hb.size;have hS := A10 (Bf.c Bc) (Bg.c Bc) (Bh.c Bc) (Bb.c Bc) (b3.c Bc) (Be.c Bc) (hE.cell z0) (hE.cell z1) (hE.cell z2) (hE.cell z3);refine ⟨_, rfl, hS, ?_⟩;refine wL 7 (.bool false) hR (fun w _ => ev_neq (show _ = Result.ok (Next.value (Value.bool (((((Globe.cellsTo p.rw 24).length : Nat) : Int) : Int) == (0 : Int)))) _ from by kernel_rfl) (Prod.noC_ne h2)) hS ?_;refine wW 8 (.bool false) 9 (.bool false) hR hS ?_;refine wM 10 (.agg #[sv BB oB 24 kB]) hR (fun w hS => ld33 (hS.2.2.2.2.1)) hS ?_;refine wV 11 (pw Bx 3) hR hS ?_;refine wM 12 (.agg #[sv Cs Cx 24 Bu]) hR (fun w hS => ld33 (hS.2.2.2.1)) hS ?_;refine wC 13 10 #[.agg #[sv BB oB 24 kB], .agg #[sv Cs Cx 24 Bu]] hR ((Contains_q (r := true) _ _ _ (vB.aa) Bc (D5.aa) hE h3).mono ?_);rintro e Hg ⟨rfl, hb⟩;refine mv2 hb hE Bc fun hE Bc=>?_;have Fh := hb.size;have hS := A10 (Bf.c Bc) (Bg.c Bc) (Bh.c Bc) (Bb.c Bc) (b3.c Bc) (Be.c Bc) (hE.cell z0) (hE.cell z1) (hE.cell z2) (hE.cell z3);refine ⟨_, rfl, hS, ?_⟩;refine wW 14 (.bool false) 15 (.bool false) hR hS ?_;refine wW 16 (.bool false) 17 (iv i) hR hS ?_;refine wL 18 (.bool true) hR (fun w _ => ev_dec (show _ = Result.ok (Next.value (Value.bool (decide (((i : Nat) : Int) > (0 : Int))))) _ from by kernel_rfl) (by omega)) hS ?_;refine wV 19 (.bool true) hR hS ?_;refine wM 20 (.agg #[iv p.im, iv p.t, .bool p.cl, sv Cs Cx 24 Bu]) hR (fun w hS => ld49 (hS.1) (hS.2.1) (hS.2.2.1) (hS.2.2.2.1)) hS ?_;refine wV 21 (pw O1 3) hR hS ?_;refine wM 22 (sv Bv Bw n c) hR (fun w hS => ld30 (hS.2.2.2.2.2.1)) hS ?_;refine wV 23 (iv i) hR hS ?_;refine wL 24 (iv ((i - 1 : Nat) : Int)) hR (fun w _ => ev_int (ev_wrap (a := ((i : Nat) : Int) - 1) (by kernel_rfl) (by omega) (by omega)) (by omega)) hS ?_;refine wL 25 (pw Bv (Bw + (i - 1) * 4)) hR (fun w _ => ex_index (p := sv Bv Bw n c) (i := iv ((i - 1 : Nat) : Int)) rfl (by kernel_rfl) (by kernel_rfl) (ix30 (k := i - 1) (by omega))) hS ?_;refine wM 26 (.agg #[iv p0.im, iv p0.t, .bool p0.cl, .slice Dj k0 c0]) hR (fun w hS => ld49 (hS.2.2.2.2.2.2.1) (hS.2.2.2.2.2.2.2.1) (hS.2.2.2.2.2.2.2.2.1) (hS.2.2.2.2.2.2.2.2.2)) hS ?_;refine wC 27 80 #[.agg #[iv p.im, iv p.t, .bool p.cl, sv Cs Cx 24 Bu], .agg #[iv p0.im, iv p0.t, .bool p0.cl, .slice Dj k0 c0]] hR ((rank_c _).mono ?_);rintro e Hh ⟨rfl, hb⟩;refine mv2 hb hE Bc fun hE Bc=>?_;have Fi := hb.size;have hS := A10 (Bf.c Bc) (Bg.c Bc) (Bh.c Bc) (Bb.c Bc) (b3.c Bc) (Be.c Bc) (hE.cell z0) (hE.cell z1) (hE.cell z2) (hE.cell z3);refine ⟨_, rfl, hS, ?_⟩;refine wL 28 (.bool false) hR (fun w _ => ev_ndec (show _ = Result.ok (Next.value (Value.bool (decide ((Prod.rk p.cl p.t p.im p0.cl p0.t p0.im : Int) ≤ (0 : Int))))) _ from by kernel_rfl) (Int.not_le_of_gt (Prod.rk_pos.2 h6))) hS ?_;refine wW 29 (.bool false) 30 (.bool false) hR hS ?_;refine wW 31 (.bool false) 32 (pw O1 3) hR hS ?_;refine wM 33 (sv Bv Bw n c) hR (fun w hS => ld30 (hS.2.2.2.2.2.1)) hS ?_;refine wV 34 (iv i) hR hS ?_;refine wL 35 (sv Bv Bw i c) hR (fun w _ => ex_slice (p := sv Bv Bw n c) rfl (by kernel_rfl) (by kernel_rfl) (by kernel_rfl) (by kernel_rfl) (sl30_010 (m := i) (by omega) (by omega))) hS ?_;refine wV 36 (pw Bx 0) hR hS ?_;refine wM 37 (iv p.im) hR (fun w hS => ld3 (hS.1)) hS ?_;refine wC 38 59 #[iv p.im] hR ((twin_c p.im _).mono ?_);rintro e Hj ⟨Ez, rfl, Fd, D7, hb⟩;refine mv2 hb hE Bc fun hE Bc=>?_;have Fj := hb.size;have G2 := World.block_lt_of_cell? _ _ D7;refine ⟨_, rfl, ⟨(Bf.c Bc), (Bg.c Bc), (Bh.c Bc), (Bb.c Bc), (b3.c Bc), (Be.c Bc), (hE.cell z0), (hE.cell z1), (hE.cell z2), (hE.cell z3)⟩, ?_⟩;refine wC 39 58 #[sv Bv Bw i c, .func (.func 105) #[] #[pw Ez 0]] hR ((ContainsTwin_r (r := true) _ _ ((hP).take (by omega)) hE (D7) (Ext.refl _) h5).mono ?_);rintro e Hk ⟨rfl, hb⟩;refine mv2 hb hE Bc fun hE Bc=>?_;have Fk := hb.size;have hS := A10 (Bf.c Bc) (Bg.c Bc) (Bh.c Bc) (Bb.c Bc) (b3.c Bc) (Be.c Bc) (hE.cell z0) (hE.cell z1) (hE.cell z2) (hE.cell z3);refine ⟨_, rfl, hS, ?_⟩;refine wV 40 (.bool true) hR hS ?_;refine we hL hR hK ?_;refine zq (cK [1,3,5,31,32,33,78] (fun L => ?_));refine zt ?_
          refine zc (zp (pT (.bool false) ?_));refine zn (cw_ret (qw_then_ret (qw_block_ret (qw_then_ret (qw_then_ret (qw_block_ret (qw_then_ret (qw_ret [.bool false] rfl ⟨(by kernel_rfl), trivial⟩ ?_))))))));exact ⟨rb (show Prod.validP id ver ar ps = false by unfold Prod.validP; rw [Hv, hst, hso]; simp).symm, hE⟩
         ·
          obtain ⟨C3, Cf, rfl, rfl, D0⟩ := va_of Cz (Prod.okP_t.1 h1).2.2;have G3 := D0.lt;obtain ⟨p0, Dj, k0, c0, Eo, z0, z1, z2, z3⟩ := PcsAt.get hP (i := i - 1) (by omega);obtain rfl : p0 = p9 := Option.some.inj (Eo.symm.trans Eu);have hso : Prod.stepOk (Prod.rest ar (ps.take i)) (ps.take i) p = true := by rw [Prod.step_later h1 h2 h3 hgl h6, show (!(ps.take i).any fun q => decide (q.im = p.im)) = !(Prod.hasIm (ps.take i) p.im) from rfl, h5];rfl
          have B7 := Ext.refl Cg;refine dE Tz39_0 (fun w' => w'.cell? ⟨Bx, 0, none⟩ = some (iv p.im) ∧ w'.cell? ⟨Bx, 1, none⟩ = some (iv p.t) ∧ w'.cell? ⟨Bx, 2, none⟩ = some (.bool p.cl) ∧ w'.cell? ⟨Bx, 3, none⟩ = some (sv C3 Cf 24 Bu) ∧ w'.cell? ⟨D3, 0, none⟩ = some (sv BB oB 24 kB) ∧ w'.cell? ⟨O1, 3, none⟩ = some (sv Bv Bw n c) ∧ w'.cell? ⟨Bv, Bw + (i - 1) * 4, none⟩ = some (iv p0.im) ∧ w'.cell? ⟨Bv, Bw + (i - 1) * 4 + 1, none⟩ = some (iv p0.t) ∧ w'.cell? ⟨Bv, Bw + (i - 1) * 4 + 2, none⟩ = some (.bool p0.cl) ∧ w'.cell? ⟨Bv, Bw + (i - 1) * 4 + 3, none⟩ = some (.slice Dj k0 c0)) (⟨Bf.1, Bg.1, Bh.1, Bb.1, b3.1, Be.1, (hE.cell z0), (hE.cell z1), (hE.cell z2), (hE.cell z3)⟩) (fun ops Q Ga hb hL hR hK => ?_);refine mv2 hb hE B7 fun hE B7=>?_;have Dc := hb.size;refine wM 0 (.agg #[iv p.im, iv p.t, .bool p.cl, sv C3 Cf 24 Bu]) hR (fun w hS => ld49 (hS.1) (hS.2.1) (hS.2.2.1) (hS.2.2.2.1)) (⟨(Bf.c B7), (Bg.c B7), (Bh.c B7), (Bb.c B7), (b3.c B7), (Be.c B7), (hE.cell z0), (hE.cell z1), (hE.cell z2), (hE.cell z3)⟩) ?_;refine wC 1 57 #[.agg #[iv p.im, iv p.t, .bool p.cl, sv C3 Cf 24 Bu]] hR ((right_r (x := p) (r := true) _ (D0.aa) hE h1).mono ?_);rintro e Hm ⟨rfl, hb⟩;refine mv2 hb hE B7 fun hE B7=>?_;have Dd := hb.size;have hS := A10 (Bf.c B7) (Bg.c B7) (Bh.c B7) (Bb.c B7) (b3.c B7) (Be.c B7) (hE.cell z0) (hE.cell z1) (hE.cell z2) (hE.cell z3);refine ⟨_, rfl, hS, ?_⟩;refine wW 2 (.bool false) 3 (.bool false) hR hS ?_;refine wV 4 (pw Bx 3) hR hS ?_;refine wM 5 (.agg #[sv C3 Cf 24 Bu]) hR (fun w hS => ld33 (hS.2.2.2.1)) hS ?_;refine wC 6 68 #[.agg #[sv C3 Cf 24 Bu]] hR ((Count_v _ _ D0 hE (hT.ext hE)).mono ?_);rintro e Ho ⟨rfl, hb⟩;refine mv2 hb hE B7 fun hE B7=>?_;have De := hb.size;have hS := A10 (Bf.c B7) (Bg.c B7) (Bh.c B7) (Bb.c B7) (b3.c B7) (Be.c B7) (hE.cell z0) (hE.cell z1) (hE.cell z2) (hE.cell z3);refine ⟨_, rfl, hS, ?_⟩;refine wL 7 (.bool false) hR (fun w _ => ev_neq (show _ = Result.ok (Next.value (Value.bool (((((Globe.cellsTo p.rw 24).length : Nat) : Int) : Int) == (0 : Int)))) _ from by kernel_rfl) (Prod.noC_ne h2)) hS ?_;refine wW 8 (.bool false) 9 (.bool false) hR hS ?_;refine wM 10 (.agg #[sv BB oB 24 kB]) hR (fun w hS => ld33 (hS.2.2.2.2.1)) hS ?_;refine wV 11 (pw Bx 3) hR hS ?_;refine wM 12 (.agg #[sv C3 Cf 24 Bu]) hR (fun w hS => ld33 (hS.2.2.2.1)) hS ?_;refine wC 13 10 #[.agg #[sv BB oB 24 kB], .agg #[sv C3 Cf 24 Bu]] hR ((Contains_q (r := true) _ _ _ (vB.aa) B7 (D0.aa) hE h3).mono ?_);rintro e Ht ⟨rfl, hb⟩;refine mv2 hb hE B7 fun hE B7=>?_;have Df := hb.size;have hS := A10 (Bf.c B7) (Bg.c B7) (Bh.c B7) (Bb.c B7) (b3.c B7) (Be.c B7) (hE.cell z0) (hE.cell z1) (hE.cell z2) (hE.cell z3);refine ⟨_, rfl, hS, ?_⟩;refine wW 14 (.bool false) 15 (.bool false) hR hS ?_;refine wW 16 (.bool false) 17 (iv i) hR hS ?_;refine wL 18 (.bool true) hR (fun w _ => ev_dec (show _ = Result.ok (Next.value (Value.bool (decide (((i : Nat) : Int) > (0 : Int))))) _ from by kernel_rfl) (by omega)) hS ?_;refine wV 19 (.bool true) hR hS ?_;refine wM 20 (.agg #[iv p.im, iv p.t, .bool p.cl, sv C3 Cf 24 Bu]) hR (fun w hS => ld49 (hS.1) (hS.2.1) (hS.2.2.1) (hS.2.2.2.1)) hS ?_;refine wV 21 (pw O1 3) hR hS ?_;refine wM 22 (sv Bv Bw n c) hR (fun w hS => ld30 (hS.2.2.2.2.2.1)) hS ?_;refine wV 23 (iv i) hR hS ?_;refine wL 24 (iv ((i - 1 : Nat) : Int)) hR (fun w _ => ev_int (ev_wrap (a := ((i : Nat) : Int) - 1) (by kernel_rfl) (by omega) (by omega)) (by omega)) hS ?_;refine wL 25 (pw Bv (Bw + (i - 1) * 4)) hR (fun w _ => ex_index (p := sv Bv Bw n c) (i := iv ((i - 1 : Nat) : Int)) rfl (by kernel_rfl) (by kernel_rfl) (ix30 (k := i - 1) (by omega))) hS ?_;refine wM 26 (.agg #[iv p0.im, iv p0.t, .bool p0.cl, .slice Dj k0 c0]) hR (fun w hS => ld49 (hS.2.2.2.2.2.2.1) (hS.2.2.2.2.2.2.2.1) (hS.2.2.2.2.2.2.2.2.1) (hS.2.2.2.2.2.2.2.2.2)) hS ?_;refine wC 27 80 #[.agg #[iv p.im, iv p.t, .bool p.cl, sv C3 Cf 24 Bu], .agg #[iv p0.im, iv p0.t, .bool p0.cl, .slice Dj k0 c0]] hR ((rank_c _).mono ?_);rintro e Hu ⟨rfl, hb⟩;refine mv2 hb hE B7 fun hE B7=>?_;have Dg := hb.size;have hS := A10 (Bf.c B7) (Bg.c B7) (Bh.c B7) (Bb.c B7) (b3.c B7) (Be.c B7) (hE.cell z0) (hE.cell z1) (hE.cell z2) (hE.cell z3);refine ⟨_, rfl, hS, ?_⟩;refine wL 28 (.bool false) hR (fun w _ => ev_ndec (show _ = Result.ok (Next.value (Value.bool (decide ((Prod.rk p.cl p.t p.im p0.cl p0.t p0.im : Int) ≤ (0 : Int))))) _ from by kernel_rfl) (Int.not_le_of_gt (Prod.rk_pos.2 h6))) hS ?_;refine wW 29 (.bool false) 30 (.bool false) hR hS ?_;refine wW 31 (.bool false) 32 (pw O1 3) hR hS ?_;refine wM 33 (sv Bv Bw n c) hR (fun w hS => ld30 (hS.2.2.2.2.2.1)) hS ?_;refine wV 34 (iv i) hR hS ?_;refine wL 35 (sv Bv Bw i c) hR (fun w _ => ex_slice (p := sv Bv Bw n c) rfl (by kernel_rfl) (by kernel_rfl) (by kernel_rfl) (by kernel_rfl) (sl30_010 (m := i) (by omega) (by omega))) hS ?_;refine wV 36 (pw Bx 0) hR hS ?_;refine wM 37 (iv p.im) hR (fun w hS => ld3 (hS.1)) hS ?_;refine wC 38 59 #[iv p.im] hR ((twin_c p.im _).mono ?_);rintro e Hw ⟨F0, rfl, Eh, C2, hb⟩;refine mv2 hb hE B7 fun hE B7=>?_;have Do := hb.size;have G4 := World.block_lt_of_cell? _ _ C2;refine ⟨_, rfl, ⟨(Bf.c B7), (Bg.c B7), (Bh.c B7), (Bb.c B7), (b3.c B7), (Be.c B7), (hE.cell z0), (hE.cell z1), (hE.cell z2), (hE.cell z3)⟩, ?_⟩;refine wC 39 58 #[sv Bv Bw i c, .func (.func 105) #[] #[pw F0 0]] hR ((ContainsTwin_r (r := false) _ _ ((hP).take (by omega)) hE (C2) (Ext.refl _) h5).mono ?_);rintro e Hz ⟨rfl, hb⟩;refine mv2 hb hE B7 fun hE B7=>?_;have Dp := hb.size;have hS := A10 (Bf.c B7) (Bg.c B7) (Bh.c B7) (Bb.c B7) (b3.c B7) (Be.c B7) (hE.cell z0) (hE.cell z1) (hE.cell z2) (hE.cell z3);refine ⟨_, rfl, hS, ?_⟩;refine wV 40 (.bool false) hR hS ?_;refine we hL hR hK ?_;refine zq (cK [1,3,5,31,32,33,78] (fun L => ?_));refine zf ?_
          refine cw_skip (zq (zp (pU (.agg #[sv BB oB 24 kB]) (xl (ld33 (b3.c B7))) ?_)));refine pT (pw Bx 3) ?_;refine pU (.agg #[sv C3 Cf 24 Bu]) (xl (ld33 (Bb.c B7))) ?_;refine pS (sc 64 #[.agg #[sv BB oB 24 kB], .agg #[sv C3 Cf 24 Bu]] ((lessP_v _ _ _ vB B7 D0 hE).mono ?_));rintro e Fa ⟨E4, E8, rfl, E1, Di, hb⟩;refine mv2 hb hE B7 fun hE B7=>?_;have Ek := hb.size;have G5 := Di.lt;refine ⟨_, rfl, ?_⟩;have C9 := (Bq.x B7);have Ca := (Bt.x B7);have Cb := (Br.x B7);have Cc := (Be.x B7);have Cq := (b3.x B7);have Dt := (vB.ext B7);have Cl := (Bf.x B7);have Cm := (Bg.x B7);have Cn := (Bh.x B7);have Co := (Bb.x B7);refine pP (zF D3 0 (sv E4 0 24 E8) (st33 Cq.1 Cq.2) Cq ?_);intro F2 ho Cq hk;replace hE := ho.ext hE (T (T En (T Dx (T Cu Cv))) (Nat.le_of_eq Ce));have q9 := ho.bx O1 (Nat.ne_of_gt (Nat.lt_of_lt_of_le Ev (T (T Dx (T Cu Cv)) (Nat.le_of_eq Ce))));replace C9 := q9 C9;replace Ca := q9 Ca;replace Cb := q9 Cb;replace Cc := q9 Cc;clear q9;have q9 := ho.bx Bx (Nat.ne_of_lt (Nat.lt_of_lt_of_le Cw (T (T Cd C0) (Nat.le_of_eq Cr))));clear q9;replace Di := ho.va (Nat.ne_of_lt (Nat.lt_of_lt_of_le Cw (T (T Cd (T C0 (T D1 (T D2 (T Dc (T Dd (T De (T Df (T Dg (T Do Dp)))))))))) E1))) Di;have El := Nat.le_of_eq ho.size.symm;clear ho hk;refine pl_nil (qw_block (zq (zp (pU (iv ((i + 1 : Nat) : Int)) (ew (by omega) (by omega)) ?_))));refine pT (iv ((i + 1 : Nat) : Int)) ?_;refine pl_nil (qw_round [1, 3, 31, 32, 33] (ws' := [(1, pw O1 0), (3, pw D3 0), (31, sv Bv Bw n c), (32, iv n), (33, iv ((i + 1 : Nat) : Int))]) (by kernel_rfl) _ ?_ ⟨(i + 1), E4, 0, E8, rfl, rfl, (T C0 (T D1 (T D2 (T Dc (T Dd (T De (T Df (T Dg (T Do (T Dp (T Ek El))))))))))), hE, C9, Ca, Cb, Cc, Cq, (by rw [hrs]; exact Di), by omega, (by rw [Hv, hst, hso, ← hrs, ← htk]; rfl), Lib.hid (Nat.ne_of_lt (Nat.lt_of_lt_of_le Cw (T (T Cd (T C0 (T D1 (T D2 (T Dc (T Dd (T De (T Df (T Dg (T Do Dp)))))))))) E1)))⟩);omega
        ·
         obtain ⟨Ct, Cy, rfl, rfl, D6⟩ := va_of Cz (Prod.okP_t.1 h1).2.2;have G6 := D6.lt;obtain ⟨p0, Dj, k0, c0, Eo, z0, z1, z2, z3⟩ := PcsAt.get hP (i := i - 1) (by omega);obtain rfl : p0 = p9 := Option.some.inj (Eo.symm.trans Eu);have hso : Prod.stepOk (Prod.rest ar (ps.take i)) (ps.take i) p = false := Prod.step_worse hgl h6;have Bi := Ext.refl Cg;refine dE Tz39_0 (fun w' => w'.cell? ⟨Bx, 0, none⟩ = some (iv p.im) ∧ w'.cell? ⟨Bx, 1, none⟩ = some (iv p.t) ∧ w'.cell? ⟨Bx, 2, none⟩ = some (.bool p.cl) ∧ w'.cell? ⟨Bx, 3, none⟩ = some (sv Ct Cy 24 Bu) ∧ w'.cell? ⟨D3, 0, none⟩ = some (sv BB oB 24 kB) ∧ w'.cell? ⟨O1, 3, none⟩ = some (sv Bv Bw n c) ∧ w'.cell? ⟨Bv, Bw + (i - 1) * 4, none⟩ = some (iv p0.im) ∧ w'.cell? ⟨Bv, Bw + (i - 1) * 4 + 1, none⟩ = some (iv p0.t) ∧ w'.cell? ⟨Bv, Bw + (i - 1) * 4 + 2, none⟩ = some (.bool p0.cl) ∧ w'.cell? ⟨Bv, Bw + (i - 1) * 4 + 3, none⟩ = some (.slice Dj k0 c0)) (⟨Bf.1, Bg.1, Bh.1, Bb.1, b3.1, Be.1, (hE.cell z0), (hE.cell z1), (hE.cell z2), (hE.cell z3)⟩) (fun ops Q Gc hb hL hR hK => ?_);refine mv2 hb hE Bi fun hE Bi=>?_;have Fl := hb.size;refine wM 0 (.agg #[iv p.im, iv p.t, .bool p.cl, sv Ct Cy 24 Bu]) hR (fun w hS => ld49 (hS.1) (hS.2.1) (hS.2.2.1) (hS.2.2.2.1)) (⟨(Bf.c Bi), (Bg.c Bi), (Bh.c Bi), (Bb.c Bi), (b3.c Bi), (Be.c Bi), (hE.cell z0), (hE.cell z1), (hE.cell z2), (hE.cell z3)⟩) ?_;refine wC 1 57 #[.agg #[iv p.im, iv p.t, .bool p.cl, sv Ct Cy 24 Bu]] hR ((right_r (x := p) (r := true) _ (D6.aa) hE h1).mono ?_);rintro e I5 ⟨rfl, hb⟩;refine mv2 hb hE Bi fun hE Bi=>?_;have Fm := hb.size;have hS := A10 (Bf.c Bi) (Bg.c Bi) (Bh.c Bi) (Bb.c Bi) (b3.c Bi) (Be.c Bi) (hE.cell z0) (hE.cell z1) (hE.cell z2) (hE.cell z3);refine ⟨_, rfl, hS, ?_⟩;refine wW 2 (.bool false) 3 (.bool false) hR hS ?_;refine wV 4 (pw Bx 3) hR hS ?_;refine wM 5 (.agg #[sv Ct Cy 24 Bu]) hR (fun w hS => ld33 (hS.2.2.2.1)) hS ?_;refine wC 6 68 #[.agg #[sv Ct Cy 24 Bu]] hR ((Count_v _ _ D6 hE (hT.ext hE)).mono ?_);rintro e I6 ⟨rfl, hb⟩;refine mv2 hb hE Bi fun hE Bi=>?_;have Fn := hb.size;have hS := A10 (Bf.c Bi) (Bg.c Bi) (Bh.c Bi) (Bb.c Bi) (b3.c Bi) (Be.c Bi) (hE.cell z0) (hE.cell z1) (hE.cell z2) (hE.cell z3);refine ⟨_, rfl, hS, ?_⟩;refine wL 7 (.bool false) hR (fun w _ => ev_neq (show _ = Result.ok (Next.value (Value.bool (((((Globe.cellsTo p.rw 24).length : Nat) : Int) : Int) == (0 : Int)))) _ from by kernel_rfl) (Prod.noC_ne h2)) hS ?_;refine wW 8 (.bool false) 9 (.bool false) hR hS ?_;refine wM 10 (.agg #[sv BB oB 24 kB]) hR (fun w hS => ld33 (hS.2.2.2.2.1)) hS ?_;refine wV 11 (pw Bx 3) hR hS ?_;refine wM 12 (.agg #[sv Ct Cy 24 Bu]) hR (fun w hS => ld33 (hS.2.2.2.1)) hS ?_;refine wC 13 10 #[.agg #[sv BB oB 24 kB], .agg #[sv Ct Cy 24 Bu]] hR ((Contains_q (r := true) _ _ _ (vB.aa) Bi (D6.aa) hE h3).mono ?_);rintro e I7 ⟨rfl, hb⟩;refine mv2 hb hE Bi fun hE Bi=>?_;have Fo := hb.size;have hS := A10 (Bf.c Bi) (Bg.c Bi) (Bh.c Bi) (Bb.c Bi) (b3.c Bi) (Be.c Bi) (hE.cell z0) (hE.cell z1) (hE.cell z2) (hE.cell z3);refine ⟨_, rfl, hS, ?_⟩;refine wW 14 (.bool false) 15 (.bool false) hR hS ?_;refine wW 16 (.bool false) 17 (iv i) hR hS ?_;refine wL 18 (.bool true) hR (fun w _ => ev_dec (show _ = Result.ok (Next.value (Value.bool (decide (((i : Nat) : Int) > (0 : Int))))) _ from by kernel_rfl) (by omega)) hS ?_;refine wV 19 (.bool true) hR hS ?_;refine wM 20 (.agg #[iv p.im, iv p.t, .bool p.cl, sv Ct Cy 24 Bu]) hR (fun w hS => ld49 (hS.1) (hS.2.1) (hS.2.2.1) (hS.2.2.2.1)) hS ?_;refine wV 21 (pw O1 3) hR hS ?_;refine wM 22 (sv Bv Bw n c) hR (fun w hS => ld30 (hS.2.2.2.2.2.1)) hS ?_;refine wV 23 (iv i) hR hS ?_;refine wL 24 (iv ((i - 1 : Nat) : Int)) hR (fun w _ => ev_int (ev_wrap (a := ((i : Nat) : Int) - 1) (by kernel_rfl) (by omega) (by omega)) (by omega)) hS ?_;refine wL 25 (pw Bv (Bw + (i - 1) * 4)) hR (fun w _ => ex_index (p := sv Bv Bw n c) (i := iv ((i - 1 : Nat) : Int)) rfl (by kernel_rfl) (by kernel_rfl) (ix30 (k := i - 1) (by omega))) hS ?_;refine wM 26 (.agg #[iv p0.im, iv p0.t, .bool p0.cl, .slice Dj k0 c0]) hR (fun w hS => ld49 (hS.2.2.2.2.2.2.1) (hS.2.2.2.2.2.2.2.1) (hS.2.2.2.2.2.2.2.2.1) (hS.2.2.2.2.2.2.2.2.2)) hS ?_;refine wC 27 80 #[.agg #[iv p.im, iv p.t, .bool p.cl, sv Ct Cy 24 Bu], .agg #[iv p0.im, iv p0.t, .bool p0.cl, .slice Dj k0 c0]] hR ((rank_c _).mono ?_);rintro e I8 ⟨rfl, hb⟩;refine mv2 hb hE Bi fun hE Bi=>?_;have Fp := hb.size;have hS := A10 (Bf.c Bi) (Bg.c Bi) (Bh.c Bi) (Bb.c Bi) (b3.c Bi) (Be.c Bi) (hE.cell z0) (hE.cell z1) (hE.cell z2) (hE.cell z3);refine ⟨_, rfl, hS, ?_⟩;refine wL 28 (.bool true) hR (fun w _ => ev_dec (show _ = Result.ok (Next.value (Value.bool (decide ((Prod.rk p.cl p.t p.im p0.cl p0.t p0.im : Int) ≤ (0 : Int))))) _ from by kernel_rfl) (Int.not_lt.1 (fun q => by have h7 : Prod.better p p0 = true := Prod.rk_pos.1 q; rw [h7] at h6; cases h6))) hS ?_;refine wW 29 (.bool true) 30 (.bool true) hR hS ?_;refine wV 31 (.bool true) hR hS ?_;refine wK 32 hR hS ?_;refine wK 33 hR hS ?_;refine wK 34 hR hS ?_;refine wK 35 hR hS ?_;refine wK 36 hR hS ?_;refine wK 37 hR hS ?_;refine wK 38 hR hS ?_;refine wK 39 hR hS ?_;refine wV 40 (.bool true) hR hS ?_;refine we hL hR hK ?_;refine zq (cK [1,3,5,31,32,33,78] (fun L => ?_));refine zt ?_;refine zc (zp (pT (.bool false) ?_));refine zn (cw_ret (qw_then_ret (qw_block_ret (qw_then_ret (qw_then_ret (qw_block_ret (qw_then_ret (qw_ret [.bool false] rfl ⟨(by kernel_rfl), trivial⟩ ?_))))))));exact ⟨rb (show Prod.validP id ver ar ps = false by unfold Prod.validP; rw [Hv, hst, hso]; simp).symm, hE⟩
     ·
      have hin : i = n := by omega
      refine zc (zp (pU (.bool false) (en (((i : Nat) : Int) < ((n : Nat) : Int)) (by omega)) ?_));refine zn (zc (zf ?_));refine cw_exit (qw_then_exit (qw_then_exit (qw_block_out (zq (zc (zp (pT (.bool true) ?_)))))));refine zn (cw_ret (qw_ret [.bool true] rfl ⟨(by kernel_rfl), trivial⟩ ?_));exact ⟨rb (show Prod.validP id ver ar ps = true by unfold Prod.validP; rw [hh, Hv, hin, List.drop_of_length_le (Nat.le_of_eq hln)]; rfl).symm, hE⟩
   ·
    refine pS (sc 50 #[.agg #[.slice a1 n1 c1]] ((Valid_q (r := false) _ _ (hA) hE D4).mono ?_));rintro e I9 ⟨rfl, hb⟩;replace hE := hE.trans hb;have Fq := hb.size;refine ⟨_, rfl, pD (.bool true) (.bool true) ?_⟩;refine pT (.bool true) ?_;refine pK ?_;refine pK ?_;refine pK ?_;refine pK ?_;refine pT (.bool true) ?_;refine zn (cK [1,27] (fun L => ?_));refine zt ?_;refine zc (zp (pT (.bool false) ?_));refine zn (cw_ret (qw_then_ret (qw_ret [.bool false] rfl ⟨(by kernel_rfl), trivial⟩ ?_)));exact ⟨rb (show Prod.validP id ver ar ps = false by simp [Prod.validP, Prod.headOk, hln, Dz, E6, D4] <;> (intro hq; omega)).symm, hE⟩
  ·
   refine pS (sc 79 #[iv ver, iv 1, iv 100] ((in_r (r := false) ver 1 100 _ (E6)).mono ?_));rintro e Ia ⟨rfl, hb⟩;replace hE := hE.trans hb;have Fr := hb.size;refine ⟨_, rfl, pD (.bool true) (.bool true) ?_⟩;refine pT (.bool true) ?_;refine pK ?_;refine pK ?_;refine pK ?_;refine pK ?_;refine pD (.bool true) (.bool true) ?_;refine pK ?_;refine pK ?_;refine pK ?_;refine pK ?_;refine pT (.bool true) ?_;refine zn (cK [1,27] (fun L => ?_));refine zt ?_;refine zc (zp (pT (.bool false) ?_));refine zn (cw_ret (qw_then_ret (qw_ret [.bool false] rfl ⟨(by kernel_rfl), trivial⟩ ?_)));exact ⟨rb (show Prod.validP id ver ar ps = false by simp [Prod.validP, Prod.headOk, hln, Dz, E6] <;> (intro hq; omega)).symm, hE⟩
 ·
  refine pS (sc 79 #[iv id, iv 0, iv 63] ((in_r (r := false) id 0 63 _ (Dz)).mono ?_));rintro e Ib ⟨rfl, hb⟩;replace hE := hE.trans hb;have Fs := hb.size;refine ⟨_, rfl, pD (.bool true) (.bool true) ?_⟩;refine pK ?_;refine pK ?_;refine pK ?_;refine pK ?_;refine pD (.bool true) (.bool true) ?_;refine pK ?_;refine pK ?_;refine pK ?_;refine pK ?_;refine pD (.bool true) (.bool true) ?_;refine pK ?_;refine pK ?_;refine pK ?_;refine pK ?_;refine pT (.bool true) ?_;refine zn (cK [1,27] (fun L => ?_));refine zt ?_;refine zc (zp (pT (.bool false) ?_));refine zn (cw_ret (qw_then_ret (qw_ret [.bool false] rfl ⟨(by kernel_rfl), trivial⟩ ?_)));exact ⟨rb (show Prod.validP id ver ar ps = false by simp [Prod.validP, Prod.headOk, hln, Dz] <;> (intro hq; omega)).symm, hE⟩
theorem pValid_r {w1 w2 : World} {id ver : Int} {ar : List Int} {ps : List Prod.Pc} {a1 a : Option Addr} {n1 n : Nat} (c1 : Nat) {c : Nat} {r : Bool} (w : World) (hnc : n ≤ c) (hA : AA w1 a1 ar n1 (Globe.validL ar)) (e1 : Ext w1 w) (hP : PcsAt w2 a n ps) (e2 : Ext w2 w) (hT : Tab w) (hr : Prod.validP id ver ar ps = r) : Calls Tryz.prog 28 #[.agg #[.int .i64 id, .int .i64 ver, .slice a1 n1 c1, .slice a n c]] w fun e w' => e = .returned (.bool r) ∧ Ext w w' := hr ▸ pValid_c c1 w hnc hA e1 hP e2 hT
end Go.Proofs.YtajdohcgjgknmaaGreatDoor

namespace Go.Proofs.YtajdohcgjgknmaaGreatDoor
open Go.RowKit
theorem rows_of_own {w : World} {base : Nat} {v : Value} {L : List Int} (hL : L.length = 24) (h : w.ownsRow base 3 1 v 24 (intVals L)) : ∃ g k, v = .slice (some ⟨g, 0, none⟩) 24 k ∧ base ≤ g ∧ RowsAt w g L := by
  rcases h.2 with ⟨_, h0⟩ | ⟨g, cap, cur, rfl, hb, _, _⟩
  · omega
  · refine ⟨g, cap, rfl, hb, hL, fun i hi => ?_, fun i hi => h.frozenAt i⟩
    rw [h.cellAt i (by omega)]
    simp [intVals, Globe.nth, show i < L.length by omega]
set_option maxHeartbeats 1000000 in
theorem Clone_v {w0 : World} {b o : Nat} (c : Nat) {l : List Int} (w : World) (h : VA w0 b o l) (hE : Ext w0 w) :
  Calls Tryz.prog 61 #[.slice (some ⟨b, o, none⟩) 24 c] w fun e w' => ∃ B k, e = .returned (.slice (some ⟨B, 0, none⟩) 24 k) ∧ w.heap.size ≤ B ∧ RowsAt w' B l ∧ Ext w w' := by
 replace h := h.ext hE; clear hE
 obtain ⟨i0, hi, hz0, hz1, hz2⟩ := info_parts (P := Tryz.prog) (e := 3) (z := .int .i64 0) (size := 1) (bytes := 8) (by kernel_rfl)
 have hn : ∀ w, (binOp .eql 24 (.slice (some ⟨b, o, none⟩) 24 c) (.slice none 0 0)).run Tryz.prog w = .ok (.bool false) w := fun _ => by kernel_rfl
 have hx : ∀ j u, (intVals l)[j]? = some u → w.cell? ((⟨b, o, none⟩ : Addr).add j) = some u := fun j u hj => by
  have hl : j < l.length := by rw [← List.length_map (f := Value.int .i64)]; exact (List.getElem?_eq_some_iff.1 hj).1
  have e := intVals_at hl
  rw [List.getElem?_toArray, hj] at e
  cases e
  rw [Addr.add_mid]; exact h.1 j (by rw [← h.len]; exact hl)
 have Hx := Lib.hid hx; clear hx
 have hl24 := h.len
 have Hl := Lib.hid hl24; clear hl24
 go_enter Tryz.func61, Tryz.ntmps61
 go_wp2_with (at_builtin; refine wpList_append_own _ rfl _ _ 24 rfl w.heap.size 3 i0 (.int .i64 0) 1 8 Tryz.underlying24 hi hz0 hz1 hz2 rfl (by decide) _ 0 [] rfl (World.ownsRow_made w #[] 0 (Nat.le_refl _) (by unfold maxLen; omega) rfl) ⟨b, o, none⟩ 24 c (intVals l) rfl (by simp [intVals, Hl.out]) (fun j u hj => Ext.cell (by (repeat' (first | (with_reducible assumption) | (with_reducible exact Ext.refl _) | (with_reducible refine Ext.alloc ?_ _) | (with_reducible refine Ext.drew ?_) | (with_reducible refine Ext.drewN ?_ _) | (with_reducible refine Ext.setCell ?_ ?_ _) | (with_reducible refine Ext.trans ?_ (by assumption)) | go_size))) (Hx.out j u hj)) (by simp [intVals, Value.oneCell']) (by unfold maxLen; omega) (by omega) (by simp) ?_; intro v' w3 hown' hg3 hnil3; go_frame)
 have hE : Ext w w3 := ((Below.refl _ w).alloc (Nat.le_refl _) _).grown hg3 (by simp) (fun j e => by simp [Act.eval, Value.ownBlock] at e; omega)
 obtain ⟨g, k, rfl, hg, hr⟩ := rows_of_own Hl.out (by simpa using hown')
 go_ret
 exact ⟨g, k, rfl, hg, hr, hE⟩
end Go.Proofs.YtajdohcgjgknmaaGreatDoor

namespace Go.Proofs.YtajdohcgjgknmaaGreatDoor
set_option maxRecDepth 1000000
set_option maxHeartbeats 4000000
set_option synthInstance.maxHeartbeats 0
set_option synthInstance.maxSize 9999
open Go.RowKit
def Tz41_0 : List Row := [(some 10, [4], []), (some 11, [10], [0]), (some 12, [1], []), (some 13, [6], []), (some 14, [13], [3]), (some 15, [14], [4]), (some 16, [15], [5]), (some 17, [6], []), (some 18, [3], []), (some 19, [17, 18], [7, 8, 5]), (some 20, [11, 12, 16, 19], [1, 2, 6, 9]), (none, [4, 20], [10, 9, 0, 1, 2, 3, 4, 5, 6, 7, 8, 9, 10])]
theorem aa_q {w : World} {a : Option Addr} {l : List Int} {n : Nat} {v : Bool} (h : AA w a l n v) : AA w a l n (Globe.validL l) := ⟨h.1, h.2.1, h.2.2.1, rfl⟩
def RetPrd (w : World) (id ver : Int) (ar : List Int) (l : List Prod.Pc) (e : Ending) (w' : World) : Prop :=
 ∃ (a1 : Option Addr) (n1 k : Nat) (a : Option Addr) (n c : Nat), e = .returned (.tuple #[.agg #[.int .i64 id, .int .i64 ver, .slice a1 n1 k, .slice a n c], .int .i64 0]) ∧ AA w' a1 ar n1 (Globe.validL ar) ∧ (∀ ad, a1 = some ad → w.heap.size ≤ ad.block) ∧ PcsS (fun k => w.heap.size ≤ k) w' a n l ∧ n ≤ c ∧ Pl a ∧ Ext w w'
def RetPrdErr (w : World) (e : Ending) (w' : World) : Prop := e = .returned (.tuple #[.agg #[.int .i64 0, .int .i64 0, .slice none 0 0, .slice none 0 0], .int .i64 310]) ∧ Ext w w'
namespace Prod
theorem vGo_pcs : ∀ {l : List Pc} {F : List Int} {pre : List Pc}, vGo F pre l = true → ∀ p ∈ l, okP p = true
 | x :: l, F, pre, h, p, hp => by
  rw [vGo, Bool.and_eq_true] at h
  rcases List.mem_cons.1 hp with rfl | hp
  · have := h.1; simp [stepOk] at this; exact this.1
  · exact vGo_pcs h.2 p hp
theorem validP_t {id ver : Int} {ar : List Int} {ps : List Pc} (h : validP id ver ar ps = true) : (0 ≤ id ∧ id ≤ 63) ∧ (1 ≤ ver ∧ ver ≤ 100) ∧ Globe.validL ar = true ∧ ps.length ≤ 24 ∧ vGo ar [] ps = true := by
 unfold validP headOk at h
 simp only [Bool.and_eq_true, decide_eq_true_eq, Globe.inB_t] at h
 exact ⟨h.1.1.1, h.1.1.2, h.1.2.1, h.1.2.2, h.2⟩
theorem validP_ar {id ver : Int} {ar : List Int} {ps : List Pc} (h : validP id ver ar ps = true) : Globe.validL ar = true := (validP_t h).2.2.1
theorem validP_pcs {id ver : Int} {ar : List Int} {ps : List Pc} (h : validP id ver ar ps = true) : ∀ p ∈ ps, Globe.validL p.rw = true := fun p hp => (okP_t.1 (vGo_pcs (validP_t h).2.2.2.2 p hp)).2.2
end Prod
theorem Missing_v {w1 w2 : World} {id ver : Int} {ar : List Int} {ps : List Prod.Pc} {a1 a : Option Addr} {n1 n : Nat} (c1 : Nat) {c : Nat} (w : World) (hnc : n ≤ c) (hA : AA w1 a1 ar n1 (Globe.validL ar)) (e1 : Ext w1 w) (hP : PcsAt w2 a n ps) (e2 : Ext w2 w) (hT : Tab w) (hv : Prod.validP id ver ar ps = true) : Calls Tryz.prog 14 #[.agg #[iv id, iv ver, .slice a1 n1 c1, .slice a n c]] w fun e w' => ∃ B o k : Nat, e = .returned (.tuple #[.agg #[sv B o 24 k], iv 0]) ∧ VA w' B o (Prod.rest ar ps) ∧ Ext w w' := by
 replace hA := hA.ext e1;replace hP := hP.ext e2;have hnb := hP.max;have hln := hP.len;clear e1 e2;have hok := Prod.validP_pcs hv;have hva := Prod.validP_ar hv;obtain ⟨b1, o2, rfl, rfl, Bx⟩ := va_of hA hva;have Cn := Bx.lt;refine calls_cw 18 [(0, .agg #[iv id, iv ver, sv b1 o2 24 c1, .slice a n c])] Tryz.func14 rfl Tryz.ntmps14 (by kernel_rfl) (by kernel_rfl) (fun L => ?_);have hE := Ext.refl w;refine zc (zp (pS (sw 53 #[iv id, iv ver, sv b1 o2 24 c1, .slice a n c] ?_)));intro O5 X6 Ci Cg hb hbx;have ⟨Ba, Bf, Bb, Bc⟩ := bq4 hbx;replace hE := hE.trans hb;have C8 := hb.size;have Ca := Ba.lt;refine pS (sw 33 #[.slice none 0 0] ?_);intro O9 Cm Bv Ch hb hbx;have B7 := bq1 hbx;refine mv5 hb hE Ba Bf Bb Bc fun hE Ba Bf Bb Bc=>?_;have Bt := hb.size;have Bm := B7.lt;refine pT (iv 0) ?_;refine zn (zc (zc (zp (pU (.agg #[iv id, iv ver, sv b1 o2 24 c1, .slice a n c]) (xl (ld53 (Ba.1) (Bf.1) (Bb.1) (Bc.1))) ?_))));refine pS (sc 28 #[.agg #[iv id, iv ver, sv b1 o2 24 c1, .slice a n c]] ((pValid_r (id := id) (ver := ver) (r := true) _ _ (by omega) (aa_q (Bx.aa)) hE (hP) hE (hT.ext hE) hv).mono ?_));rintro e Co ⟨rfl, hb⟩;refine mv4 hb hE Bb Bc B7 fun hE Bb Bc B7=>?_;have Bi := hb.size;refine ⟨_, rfl, pT (.bool false) ?_⟩;refine zn (zf ?_);refine cw_skip (zq (zc (zp (pD (pw O5 2) (pw O5 2) ?_))));refine pU (sv b1 o2 24 c1) (xl (ld24 (Bb.1))) ?_;refine pS (sc 61 #[sv b1 o2 24 c1] ((Clone_v _ _ Bx hE).mono ?_));rintro e Cp ⟨Bp, Bw, rfl, Bq, C0, hb⟩;refine mv3 hb hE Bc B7 fun hE Bc B7=>?_;have Bj := hb.size;have Bg := C0.va Bx.2;have C4 := Bg.lt;refine ⟨_, rfl, pT (.agg #[sv Bp 0 24 Bw]) ?_⟩;refine pS (sw 33 #[.slice none 0 0] ?_);intro C6 Cb Bh C9 hb hbx;have Be := bq1 hbx;refine mv4 hb hE Bc B7 Bg fun hE Bc B7 Bg=>?_;have C1 := hb.size;have Cj := Be.lt;refine pP (zF C6 0 (sv Bp 0 24 Bw) (st33 Be.1 Be.2) Be ?_);intro Cc ho Be hk;replace hE := ho.ext hE (T (T C8 (T Bt (T Bi Bj))) (Nat.le_of_eq Bh));have q9 := ho.bx O5 (Nat.ne_of_gt (Nat.lt_of_lt_of_le Ca (T (T Bt (T Bi Bj)) (Nat.le_of_eq Bh))));replace Bc := q9 Bc;clear q9;replace B7 := ho.box (Nat.ne_of_gt (Nat.lt_of_lt_of_le Bm (T (T Bi Bj) (Nat.le_of_eq Bh)))) B7;replace Bg := ho.va (Nat.ne_of_gt (Nat.lt_of_lt_of_le C4 (Nat.le_of_eq Bh))) Bg;have C2 := Nat.le_of_eq ho.size.symm;clear ho hk;refine zn (zc (zp (pT (pw O5 3) ?_)));refine pU (.slice a n c) (xl (ld30 (Bc.1))) ?_;refine pU (.agg #[sv Bp 0 24 Bw]) (xl (ld33 (Be.1))) ?_;refine pS (sc 62 #[.slice a n c, .agg #[sv Bp 0 24 Bw], .func (.func 63) #[] #[]] ((foldM_v _ _ _ (hP) hE Bg (Ext.refl _) hok).mono ?_));rintro e Cl ⟨Bz, C5, C3, rfl, Bk, Br, hb⟩;refine mv2 hb hE B7 fun hE B7=>?_;have Ce := hb.size;have Ck := Bk.lt;refine ⟨_, rfl, pP (zF O9 0 (sv Bz C5 24 C3) (st33 B7.1 B7.2) B7 ?_)⟩;intro Cd ho B7 hk;replace hE := ho.ext hE (T C8 (Nat.le_of_eq Bv));have q9 := ho.bx O5 (Nat.ne_of_gt (Nat.lt_of_lt_of_le Ca (Nat.le_of_eq Bv)));clear q9;replace Bk := ho.va (Nat.ne_of_lt (Nat.lt_of_lt_of_le Bm (T Bi (Br.elim (fun e => e.symm ▸ Bq) (fun h => T (T Bj (T C1 C2)) h))))) Bk;have Cf := Nat.le_of_eq ho.size.symm;clear ho hk;refine pT (iv 0) ?_;refine zn (cK [2,3] (fun L => ?_));refine cw_ret (qw_ret [.agg #[sv Bz C5 24 C3], iv 0] rfl ⟨⟨_, by kernel_rfl, res_ld (ld33 (B7.1))⟩, (by kernel_rfl), trivial⟩ ?_);exact ⟨_, _, _, rfl, Bk, hE⟩
theorem Missing_n {w1 w2 : World} {id ver : Int} {ar : List Int} {ps : List Prod.Pc} {a1 a : Option Addr} {n1 n : Nat} (c1 : Nat) {c : Nat} (w : World) (hnc : n ≤ c) (hA : AA w1 a1 ar n1 (Globe.validL ar)) (e1 : Ext w1 w) (hP : PcsAt w2 a n ps) (e2 : Ext w2 w) (hT : Tab w) (hv : Prod.validP id ver ar ps = false) : Calls Tryz.prog 14 #[.agg #[iv id, iv ver, .slice a1 n1 c1, .slice a n c]] w (RetErr w 310) := by
 replace hA := hA.ext e1;replace hP := hP.ext e2;have hnb := hP.max;have hln := hP.len;clear e1 e2;refine calls_cw 18 [(0, .agg #[iv id, iv ver, .slice a1 n1 c1, .slice a n c])] Tryz.func14 rfl Tryz.ntmps14 (by kernel_rfl) (by kernel_rfl) (fun L => ?_);have hE := Ext.refl w;refine zc (zp (pS (sw 53 #[iv id, iv ver, .slice a1 n1 c1, .slice a n c] ?_)));intro O1 X2 hzO1 hyO1 hb hbx;have ⟨bO1_0, bO1_1, bO1_2, bO1_3⟩ := bq4 hbx;replace hE := hE.trans hb;have hs3 := hb.size;have lt4 := bO1_0.lt;refine pS (sw 33 #[.slice none 0 0] ?_);intro O5 X6 hzO5 hyO5 hb hbx;have bO5_0 := bq1 hbx;refine mv5 hb hE bO1_0 bO1_1 bO1_2 bO1_3 fun hE bO1_0 bO1_1 bO1_2 bO1_3=>?_;have hs7 := hb.size;have lt8 := bO5_0.lt;refine pT (iv 0) ?_;refine zn (zc (zc (zp (pU (.agg #[iv id, iv ver, .slice a1 n1 c1, .slice a n c]) (xl (ld53 (bO1_0.1) (bO1_1.1) (bO1_2.1) (bO1_3.1))) ?_))));refine pS (sc 28 #[.agg #[iv id, iv ver, .slice a1 n1 c1, .slice a n c]] ((pValid_r (id := id) (ver := ver) (r := false) _ _ (by omega) (aa_q (hA)) hE (hP) hE (hT.ext hE) hv).mono ?_));rintro e w9 ⟨rfl, hb⟩;refine mv2 hb hE bO5_0 fun hE bO5_0=>?_;have hs10 := hb.size;refine ⟨_, rfl, pT (.bool true) ?_⟩;refine zn (zt ?_);refine zc (zp (pT (.agg #[.slice none 0 0]) ?_));refine pP (zF O5 0 (.slice none 0 0) (st33 bO5_0.1 bO5_0.2) bO5_0 ?_);intro X11 ho bO5_0 hk;replace hE := ho.ext hE (T hs3 (Nat.le_of_eq hzO5));have q9 := ho.bx O1 (Nat.ne_of_gt (Nat.lt_of_lt_of_le lt4 (Nat.le_of_eq hzO5)));clear q9;have hs12 := Nat.le_of_eq ho.size.symm;clear ho hk;refine pT (iv 310) ?_;refine zn (cw_ret (qw_then_ret (qw_ret [.agg #[.slice none 0 0], iv 310] rfl ⟨⟨_, by kernel_rfl, res_ld (ld33 (bO5_0.1))⟩, (by kernel_rfl), trivial⟩ ?_)));exact ⟨rfl, hE⟩
theorem Complete_t {w1 w2 : World} {id ver : Int} {ar : List Int} {ps : List Prod.Pc} {a1 a : Option Addr} {n1 n : Nat} (c1 : Nat) {c : Nat} (w : World) (hnc : n ≤ c) (hA : AA w1 a1 ar n1 (Globe.validL ar)) (e1 : Ext w1 w) (hP : PcsAt w2 a n ps) (e2 : Ext w2 w) (hT : Tab w) (hv : Prod.validP id ver ar ps = true) : Calls Tryz.prog 17 #[.agg #[iv id, iv ver, .slice a1 n1 c1, .slice a n c]] w fun e w' => e = .returned (.bool (Prod.validP id ver ar ps && Prod.noC (Prod.rest ar ps))) ∧ Ext w w' := by
 replace hA := hA.ext e1;replace hP := hP.ext e2;have hnb := hP.max;have hln := hP.len;clear e1 e2;refine calls_cw 17 [(0, .agg #[iv id, iv ver, .slice a1 n1 c1, .slice a n c])] Tryz.func17 rfl Tryz.ntmps17 (by kernel_rfl) (by kernel_rfl) (fun L => ?_);have hE := Ext.refl w;refine zc (zp (pS (sw 53 #[iv id, iv ver, .slice a1 n1 c1, .slice a n c] ?_)));intro O1 X2 Bz Bx hb hbx;have ⟨Ba, Bb, Bc, Be⟩ := bq4 hbx;replace hE := hE.trans hb;have Bw := hb.size;have C1 := Ba.lt;refine pT (.bool false) ?_;refine zn (zc (zp (pU (.agg #[iv id, iv ver, .slice a1 n1 c1, .slice a n c]) (xl (ld53 (Ba.1) (Bb.1) (Bc.1) (Be.1))) ?_)));refine pS (sc 14 #[.agg #[iv id, iv ver, .slice a1 n1 c1, .slice a n c]] ((Missing_v (id := id) (ver := ver) _ _ (by omega) (aa_q (hA)) hE (hP) hE (hT.ext hE) hv).mono ?_));rintro e w9 ⟨B5, o6, k7, rfl, Bg, hb⟩;replace hE := hE.trans hb;have Bi := hb.size;have Bj := Bg.lt;refine ⟨_, rfl, pD (.tuple #[.agg #[sv B5 o6 24 k7], iv 0]) (.agg #[sv B5 o6 24 k7]) ?_⟩;refine pT (iv 0) ?_;refine pS (sw 33 #[.slice none 0 0] ?_);intro Bk Bq Bf Bp hb hbx;have B7 := bq1 hbx;refine mv2 hb hE Bg fun hE Bg=>?_;have Bt := hb.size;have C0 := B7.lt;refine pP (zF Bk 0 (sv B5 o6 24 k7) (st33 B7.1 B7.2) B7 ?_);intro Br ho B7 hk;replace hE := ho.ext hE (T (T Bw Bi) (Nat.le_of_eq Bf));have q9 := ho.bx O1 (Nat.ne_of_gt (Nat.lt_of_lt_of_le C1 (T Bi (Nat.le_of_eq Bf))));clear q9;replace Bg := ho.va (Nat.ne_of_gt (Nat.lt_of_lt_of_le Bj (Nat.le_of_eq Bf))) Bg;have Bu := Nat.le_of_eq ho.size.symm;clear ho hk;refine pT (iv 0) ?_;refine zn (zc (zp (pD (iv 0) (.bool true) ?_)));refine pT (.bool true) ?_;refine pU (.agg #[sv B5 o6 24 k7]) (xl (ld33 (B7.1))) ?_;refine pS (sc 68 #[.agg #[sv B5 o6 24 k7]] ((Count_v _ _ Bg (Ext.refl _) (hT.ext hE)).mono ?_));rintro e C2 ⟨rfl, hb⟩;replace hE := hE.trans hb;have Bv := hb.size;refine ⟨_, rfl, ?_⟩
 by_cases Bh : ((((Globe.cellsTo (Prod.rest ar ps) 24).length : Nat) : Int) : Int) = (0 : Int)
 ·
  refine pU (.bool true) (eE ((((Globe.cellsTo (Prod.rest ar ps) 24).length : Nat) : Int) : Int) (0 : Int) (Bh)) ?_;refine pD (.bool true) (.bool true) ?_;refine zn (cK [2] (fun L => ?_));refine cw_ret (qw_ret [.bool true] rfl ⟨(by kernel_rfl), trivial⟩ ?_);exact ⟨rb (show (Prod.validP id ver ar ps && Prod.noC (Prod.rest ar ps)) = true by rw [hv, Bool.true_and]; unfold Prod.noC; rw [decide_eq_true_eq]; omega).symm, hE⟩
 ·
  refine pU (.bool false) (eN ((((Globe.cellsTo (Prod.rest ar ps) 24).length : Nat) : Int) : Int) (0 : Int) (Bh)) ?_;refine pD (.bool false) (.bool false) ?_;refine zn (cK [2] (fun L => ?_));refine cw_ret (qw_ret [.bool false] rfl ⟨(by kernel_rfl), trivial⟩ ?_);exact ⟨rb (show (Prod.validP id ver ar ps && Prod.noC (Prod.rest ar ps)) = false by rw [hv, Bool.true_and]; unfold Prod.noC; rw [decide_eq_false_iff_not]; omega).symm, hE⟩
theorem Complete_f {w1 w2 : World} {id ver : Int} {ar : List Int} {ps : List Prod.Pc} {a1 a : Option Addr} {n1 n : Nat} (c1 : Nat) {c : Nat} (w : World) (hnc : n ≤ c) (hA : AA w1 a1 ar n1 (Globe.validL ar)) (e1 : Ext w1 w) (hP : PcsAt w2 a n ps) (e2 : Ext w2 w) (hT : Tab w) (hv : Prod.validP id ver ar ps = false) : Calls Tryz.prog 17 #[.agg #[iv id, iv ver, .slice a1 n1 c1, .slice a n c]] w fun e w' => e = .returned (.bool (Prod.validP id ver ar ps && Prod.noC (Prod.rest ar ps))) ∧ Ext w w' := by
 replace hA := hA.ext e1;replace hP := hP.ext e2;have hnb := hP.max;have hln := hP.len;clear e1 e2;refine calls_cw 17 [(0, .agg #[iv id, iv ver, .slice a1 n1 c1, .slice a n c])] Tryz.func17 rfl Tryz.ntmps17 (by kernel_rfl) (by kernel_rfl) (fun L => ?_);have hE := Ext.refl w;refine zc (zp (pS (sw 53 #[iv id, iv ver, .slice a1 n1 c1, .slice a n c] ?_)));intro O1 X2 hzO1 hyO1 hb hbx;have ⟨bO1_0, bO1_1, bO1_2, bO1_3⟩ := bq4 hbx;replace hE := hE.trans hb;have hs3 := hb.size;have lt4 := bO1_0.lt;refine pT (.bool false) ?_;refine zn (zc (zp (pU (.agg #[iv id, iv ver, .slice a1 n1 c1, .slice a n c]) (xl (ld53 (bO1_0.1) (bO1_1.1) (bO1_2.1) (bO1_3.1))) ?_)));refine pS (sc 14 #[.agg #[iv id, iv ver, .slice a1 n1 c1, .slice a n c]] ((Missing_n (id := id) (ver := ver) _ _ (by omega) (aa_q (hA)) hE (hP) hE (hT.ext hE) hv).mono ?_));rintro e w5 ⟨rfl, hb⟩;replace hE := hE.trans hb;have hs6 := hb.size;refine ⟨_, rfl, pD (.tuple #[.agg #[.slice none 0 0], iv 310]) (.agg #[.slice none 0 0]) ?_⟩;refine pT (iv 310) ?_;refine pS (sw 33 #[.slice none 0 0] ?_);intro O7 X8 hzO7 hyO7 hb hbx;have bO7_0 := bq1 hbx;replace hE := hE.trans hb;have hs9 := hb.size;have lt10 := bO7_0.lt;refine pP (zF O7 0 (.slice none 0 0) (st33 bO7_0.1 bO7_0.2) bO7_0 ?_);intro X11 ho bO7_0 hk;replace hE := ho.ext hE (T (T hs3 hs6) (Nat.le_of_eq hzO7));have q9 := ho.bx O1 (Nat.ne_of_gt (Nat.lt_of_lt_of_le lt4 (T hs6 (Nat.le_of_eq hzO7))));clear q9;have hs12 := Nat.le_of_eq ho.size.symm;clear ho hk;refine pT (iv 310) ?_;refine zn (zc (zp (pD (iv 310) (.bool false) ?_)));refine pT (.bool false) ?_;refine pK ?_;refine pK ?_;refine pK ?_;refine pD (.bool false) (.bool false) ?_;refine zn (cK [2] (fun L => ?_));refine cw_ret (qw_ret [.bool false] rfl ⟨(by kernel_rfl), trivial⟩ ?_);exact ⟨rb (show (Prod.validP id ver ar ps && Prod.noC (Prod.rest ar ps)) = false by rw [hv]; rfl).symm, hE⟩
theorem Complete_c {w1 w2 : World} {id ver : Int} {ar : List Int} {ps : List Prod.Pc} {a1 a : Option Addr} {n1 n : Nat} (c1 : Nat) {c : Nat} (w : World) (hnc : n ≤ c) (hA : AA w1 a1 ar n1 (Globe.validL ar)) (e1 : Ext w1 w) (hP : PcsAt w2 a n ps) (e2 : Ext w2 w) (hT : Tab w) : Calls Tryz.prog 17 #[.agg #[.int .i64 id, .int .i64 ver, .slice a1 n1 c1, .slice a n c]] w fun e w' => e = .returned (.bool (Prod.validP id ver ar ps && Prod.noC (Prod.rest ar ps))) ∧ Ext w w' := by
 cases hv : Prod.validP id ver ar ps
 · rw [← hv]; exact Complete_f c1 w hnc hA e1 hP e2 hT hv
 · rw [← hv]; exact Complete_t c1 w hnc hA e1 hP e2 hT hv
theorem made_t {w1 w2 : World} {id v0 ver : Int} {x1 x2 : Option Addr} {m1 q1 m2 q2 : Nat} {ar : List Int} {b o : Nat} {a : Option Addr} {n : Nat} {l : List Prod.Pc} (k c : Nat) (w : World) (hv : VA w1 b o ar) (e1 : Ext w1 w) (h : PcsAt w2 a n l) (e2 : Ext w2 w) (hn : n ≤ 100) (hd : Prod.Dist l) (hok : ∀ p ∈ l, Globe.validL p.rw = true) (hT : Tab w) (hvp : Prod.validP id ver ar (Prod.divide ar l) = true) :
  Calls Tryz.prog 60 #[.agg #[iv id, iv v0, .slice x1 m1 q1, .slice x2 m2 q2], iv ver, .agg #[sv b o 24 k], .slice a n c] w (RetPrd w id ver ar (Prod.divide ar l)) := by
 replace hv := hv.ext e1;replace h := h.ext e2;have ltb := hv.lt;clear e1 e2;refine calls_cw 26 [(3, .slice a n c), (2, .agg #[sv b o 24 k]), (1, iv ver), (0, .agg #[iv id, iv v0, .slice x1 m1 q1, .slice x2 m2 q2])] Tryz.func60 rfl Tryz.ntmps60 (by kernel_rfl) (by kernel_rfl) (fun L => ?_);have hE := Ext.refl w;refine zc (zp (pS (sw 53 #[iv id, iv v0, .slice x1 m1 q1, .slice x2 m2 q2] ?_)));intro O1 X2 Ce Dg hb hbx;have ⟨B7, Bb, Bc, Be⟩ := bq4 hbx;replace hE := hE.trans hb;have D1 := hb.size;have C0 := B7.lt;refine pS (sw 33 #[sv b o 24 k] ?_);intro O5 X6 Cf Dh hb hbx;have Ba := bq1 hbx;refine mv5 hb hE B7 Bb Bc Be fun hE B7 Bb Bc Be=>?_;have Bx := hb.size;have Dm := Ba.lt;refine pS (sw 53 #[iv 0, iv 0, .slice none 0 0, .slice none 0 0] ?_);intro O9 Cg Bz Di hb hbx;have ⟨Bf, Bg, Bh, Bi⟩ := bq4 hbx;refine mv6 hb hE B7 Bb Bc Be Ba fun hE B7 Bb Bc Be Ba=>?_;have Bq := hb.size;have Co := Bf.lt;refine pT (iv 0) ?_;refine zn (zc (cw_join (fun ws' Y => ∃ Br Bw : Nat, ∃ Bt : Option Addr, ∃ Bu Bv : Nat, ws' = [(4, pw O1 0), (8, pw O9 0)] ∧ Ext w Y ∧ BoxAt Y O5 0 (sv b o 24 k) ∧ BoxAt Y O9 0 (iv 0) ∧ BoxAt Y O9 1 (iv 0) ∧ BoxAt Y O9 2 (.slice none 0 0) ∧ BoxAt Y O9 3 (.slice none 0 0) ∧ VA Y Br 0 ar ∧ Bu ≤ Bv ∧ Pl Bt ∧ PcsS (fun k => Cg.heap.size ≤ k) Y Bt Bu (Prod.divide ar l) ∧ BoxAt Y O1 0 (iv id) ∧ BoxAt Y O1 1 (iv ver) ∧ BoxAt Y O1 2 (sv Br 0 24 Bw) ∧ BoxAt Y O1 3 (.slice Bt Bu Bv) ∧ Cg.heap.size ≤ Y.heap.size ∧ Cg.heap.size ≤ Br) (fun hJ => ?_) ?_))
 ·
  refine dE Tz41_0 (fun w' => w'.cell? ⟨O5, 0, none⟩ = some (sv b o 24 k)) (Ba.1) (fun ops Q D8 hb hL hR hK => ?_);refine mv9 hb hE B7 Bb Bc Be Ba Bf Bg Bh fun hE B7 Bb Bc Be Ba Bf Bg Bh=>?_;replace Bi := Bi.x hb;have Bp := hb.size;have hS := Ba.1;refine wW 0 (pw O1 0) 2 (iv ver) hR hS ?_;refine wV 3 (pw O5 0) hR hS ?_;refine wM 4 (sv b o 24 k) hR (fun w hS => ld24 (hS)) hS ?_;refine wM 7 (.agg #[sv b o 24 k]) hR (fun w hS => ld33 (hS)) hS ?_;refine wV 8 (.slice a n c) hR hS ?_;refine zw 1 5 hR ?_ ?_
  ·
   refine sn_eff (v := iv id) (w' := D8) (xl (ld3 (B7.1))) ⟨Ba.1, ?_⟩;refine wC 5 61 #[sv b o 24 k] hR ((Clone_v _ _ hv hE).mono ?_);rintro e Dt ⟨Br, Bw, rfl, Ch, Cy, hb⟩;refine mv9 hb hE B7 Bb Bc Be Ba Bf Bg Bh fun hE B7 Bb Bc Be Ba Bf Bg Bh=>?_;replace Bi := Bi.x hb;have Cn := hb.size;have Bj := Cy.va hv.2;have Dj := Bj.lt;have hS := Ba.1;refine ⟨_, rfl, hS, ?_⟩;refine wV 6 (.agg #[sv Br 0 24 Bw]) hR hS ?_;refine wC 9 92 #[.agg #[sv b o 24 k], .slice a n c] hR ((divide_c _ _ _ (h) hE hv hE (by omega) hd (hT.ext hE) hok).mono ?_);rintro e Dn ⟨Bt, Bu, Bv, rfl, Cv, Cd, C3, hb⟩;refine mv9 hb hE B7 Bb Bc Be Ba Bf Bg Bh fun hE B7 Bb Bc Be Ba Bf Bg Bh=>?_;refine mv2 hb Bi Bj fun Bi Bj=>?_;have D0 := hb.size;have Bm := PcsS.mono (T := fun k => Cg.heap.size ≤ k) Cv (fun k hk => T (T Bp Cn) hk);have hS := Ba.1;refine ⟨_, rfl, hS, ?_⟩;refine wV 10 (.agg #[iv id, iv ver, sv Br 0 24 Bw, .slice Bt Bu Bv]) hR hS ?_;refine wS 11 hR (sn_setK4 (O := O1) (j := 0) (v0 := iv id) (v1 := iv ver) (v2 := sv Br 0 24 Bw) (v3 := .slice Bt Bu Bv) (ex_store (p := pw O1 0) (v := .agg #[iv id, iv ver, sv Br 0 24 Bw, .slice Bt Bu Bv]) rfl (by kernel_rfl) (by kernel_rfl) (st53 B7.1 B7.2 Bb.1 Bb.2 Bc.1 Bc.2 Be.1 Be.2)) B7 Bb Bc Be ?_);intro D9 ho B7 Bb Bc Be hk;replace hE := ho.ext hE (Nat.le_of_eq Ce);replace Ba := ho.box (Nat.ne_of_lt (Nat.lt_of_lt_of_le C0 (Nat.le_of_eq Cf))) Ba;have q9 := ho.bx O9 (Nat.ne_of_lt (Nat.lt_of_lt_of_le C0 (T Bx (Nat.le_of_eq Bz))));replace Bf := q9 Bf;replace Bg := q9 Bg;replace Bh := q9 Bh;replace Bi := q9 Bi;clear q9;replace Bj := ho.va (Nat.ne_of_lt (Nat.lt_of_lt_of_le C0 (T (T Bx (T Bq Bp)) Ch))) Bj;replace Bm := Bm.turn ho (Nat.not_le_of_lt (Nat.lt_of_lt_of_le C0 (T Bx Bq)));have D2 := Nat.le_of_eq ho.size.symm;clear ho hk;refine ⟨Ba.1, ?_⟩;refine we hL hR hK ?_;exact zl hJ [4, 8] ⟨Br, Bw, Bt, Bu, Bv, rfl, hE, Ba, Bf, Bg, Bh, Bi, Bj, Cd, C3, Bm, B7, Bb, Bc, Be, (T Bp (T Cn (T D0 D2))), (T Bp Ch)⟩
  ·
   refine sc 61 #[sv b o 24 k] ((Clone_v _ _ hv hE).mono ?_);rintro e Do ⟨C9, Cc, rfl, Ca, Cz, hb⟩;refine mv9 hb hE B7 Bb Bc Be Ba Bf Bg Bh fun hE B7 Bb Bc Be Ba Bf Bg Bh=>?_;replace Bi := Bi.x hb;have Cb := hb.size;have Bk := Cz.va hv.2;have Dk := Bk.lt;have hS := Ba.1;refine ⟨_, rfl, hS, ?_⟩;refine wV 6 (.agg #[sv C9 0 24 Cc]) hR hS ?_;refine zw 1 9 hR ?_ ?_
   ·
    refine sn_eff (v := iv id) (w' := Do) (xl (ld3 (B7.1))) ⟨Ba.1, ?_⟩;refine wC 9 92 #[.agg #[sv b o 24 k], .slice a n c] hR ((divide_c _ _ _ (h) hE hv hE (by omega) hd (hT.ext hE) hok).mono ?_);rintro e Dp ⟨Cp, Ct, Cr, rfl, Cw, Cj, Cl, hb⟩;refine mv9 hb hE B7 Bb Bc Be Ba Bf Bg Bh fun hE B7 Bb Bc Be Ba Bf Bg Bh=>?_;refine mv2 hb Bi Bk fun Bi Bk=>?_;have D3 := hb.size;have C1 := PcsS.mono (T := fun k => Cg.heap.size ≤ k) Cw (fun k hk => T (T Bp Cb) hk);have hS := Ba.1;refine ⟨_, rfl, hS, ?_⟩;refine wV 10 (.agg #[iv id, iv ver, sv C9 0 24 Cc, .slice Cp Ct Cr]) hR hS ?_;refine wS 11 hR (sn_setK4 (O := O1) (j := 0) (v0 := iv id) (v1 := iv ver) (v2 := sv C9 0 24 Cc) (v3 := .slice Cp Ct Cr) (ex_store (p := pw O1 0) (v := .agg #[iv id, iv ver, sv C9 0 24 Cc, .slice Cp Ct Cr]) rfl (by kernel_rfl) (by kernel_rfl) (st53 B7.1 B7.2 Bb.1 Bb.2 Bc.1 Bc.2 Be.1 Be.2)) B7 Bb Bc Be ?_);intro Da ho B7 Bb Bc Be hk;replace hE := ho.ext hE (Nat.le_of_eq Ce);replace Ba := ho.box (Nat.ne_of_lt (Nat.lt_of_lt_of_le C0 (Nat.le_of_eq Cf))) Ba;have q9 := ho.bx O9 (Nat.ne_of_lt (Nat.lt_of_lt_of_le C0 (T Bx (Nat.le_of_eq Bz))));replace Bf := q9 Bf;replace Bg := q9 Bg;replace Bh := q9 Bh;replace Bi := q9 Bi;clear q9;replace Bk := ho.va (Nat.ne_of_lt (Nat.lt_of_lt_of_le C0 (T (T Bx (T Bq Bp)) Ca))) Bk;replace C1 := C1.turn ho (Nat.not_le_of_lt (Nat.lt_of_lt_of_le C0 (T Bx Bq)));have D4 := Nat.le_of_eq ho.size.symm;clear ho hk;refine ⟨Ba.1, ?_⟩;refine we hL hR hK ?_;exact zl hJ [4, 8] ⟨C9, Cc, Cp, Ct, Cr, rfl, hE, Ba, Bf, Bg, Bh, Bi, Bk, Cj, Cl, C1, B7, Bb, Bc, Be, (T Bp (T Cb (T D3 D4))), (T Bp Ca)⟩
   ·
    refine sc 92 #[.agg #[sv b o 24 k], .slice a n c] ((divide_c _ _ _ (h) hE hv hE (by omega) hd (hT.ext hE) hok).mono ?_);rintro e D7 ⟨Cq, Cu, Cs, rfl, Cx, Ck, Cm, hb⟩;refine mv9 hb hE B7 Bb Bc Be Ba Bf Bg Bh fun hE B7 Bb Bc Be Ba Bf Bg Bh=>?_;refine mv2 hb Bi Bk fun Bi Bk=>?_;have D5 := hb.size;have C2 := PcsS.mono (T := fun k => Cg.heap.size ≤ k) Cx (fun k hk => T (T Bp Cb) hk);refine ⟨_, rfl, Ba.1, ?_⟩;refine wS 1 hR (sn_eff (v := iv id) (w' := D7) (ex_load rfl (by kernel_rfl) (ld3 (B7.1))) ⟨Ba.1, ?_⟩);refine wV 10 (.agg #[iv id, iv ver, sv C9 0 24 Cc, .slice Cq Cu Cs]) hR (Ba.1) ?_;refine wS 11 hR (sn_setK4 (O := O1) (j := 0) (v0 := iv id) (v1 := iv ver) (v2 := sv C9 0 24 Cc) (v3 := .slice Cq Cu Cs) (ex_store (p := pw O1 0) (v := .agg #[iv id, iv ver, sv C9 0 24 Cc, .slice Cq Cu Cs]) rfl (by kernel_rfl) (by kernel_rfl) (st53 B7.1 B7.2 Bb.1 Bb.2 Bc.1 Bc.2 Be.1 Be.2)) B7 Bb Bc Be ?_);intro Db ho B7 Bb Bc Be hk;replace hE := ho.ext hE (Nat.le_of_eq Ce);replace Ba := ho.box (Nat.ne_of_lt (Nat.lt_of_lt_of_le C0 (Nat.le_of_eq Cf))) Ba;have q9 := ho.bx O9 (Nat.ne_of_lt (Nat.lt_of_lt_of_le C0 (T Bx (Nat.le_of_eq Bz))));replace Bf := q9 Bf;replace Bg := q9 Bg;replace Bh := q9 Bh;replace Bi := q9 Bi;clear q9;replace Bk := ho.va (Nat.ne_of_lt (Nat.lt_of_lt_of_le C0 (T (T Bx (T Bq Bp)) Ca))) Bk;replace C2 := C2.turn ho (Nat.not_le_of_lt (Nat.lt_of_lt_of_le C0 (T Bx Bq)));have D6 := Nat.le_of_eq ho.size.symm;clear ho hk;refine ⟨Ba.1, ?_⟩;refine we hL hR hK ?_;exact zl hJ [4, 8] ⟨C9, Cc, Cq, Cu, Cs, rfl, hE, Ba, Bf, Bg, Bh, Bi, Bk, Ck, Cm, C2, B7, Bb, Bc, Be, (T Bp (T Cb (T D5 D6))), (T Bp Ca)⟩
 ·
  clear B7 Bb Bc Be Ba Bf Bg Bh Bi hE;rintro L ws Dr ⟨Br, Bw, Bt, Bu, Bv, rfl, hE, Ba, Bf, Bg, Bh, Bi, Bj, Cd, C3, Bm, B7, Bb, Bc, Be, Dd, Ci⟩;have Dl := Bj.lt;refine zq (zc (zc (zp (pU (.agg #[iv id, iv ver, sv Br 0 24 Bw, .slice Bt Bu Bv]) (xl (ld53 (B7.1) (Bb.1) (Bc.1) (Be.1))) ?_))));refine pS (sc 28 #[.agg #[iv id, iv ver, sv Br 0 24 Bw, .slice Bt Bu Bv]] ((pValid_r (id := id) (ver := ver) (r := true) _ _ (by omega) (aa_q (Bj.aa)) (Ext.refl _) (Bm.pcs) (Ext.refl _) (hT.ext hE) hvp).mono ?_));rintro e Dq ⟨rfl, hb⟩;refine mv9 hb hE Bf Bg Bh Bi Bj Bm B7 Bb fun hE Bf Bg Bh Bi Bj Bm B7 Bb=>?_;refine mv2 hb Bc Be fun Bc Be=>?_;have De := hb.size;refine ⟨_, rfl, pT (.bool false) ?_⟩;refine zn (zf ?_);refine cw_skip (zq (zc (zp (pU (.agg #[iv id, iv ver, sv Br 0 24 Bw, .slice Bt Bu Bv]) (xl (ld53 (B7.1) (Bb.1) (Bc.1) (Be.1))) ?_))));refine pP (zG O9 (iv id) (iv ver) (sv Br 0 24 Bw) (.slice Bt Bu Bv) (st53 Bf.1 Bf.2 Bg.1 Bg.2 Bh.1 Bh.2 Bi.1 Bi.2) Bf Bg Bh Bi ?_);intro Dc ho Bf Bg Bh Bi hk;replace hE := ho.ext hE (T (T D1 Bx) (Nat.le_of_eq Bz));replace Bj := ho.va (Nat.ne_of_lt (Nat.lt_of_lt_of_le Co Ci)) Bj;replace Bm := Bm.turn ho (Nat.not_le_of_lt (Nat.lt_of_lt_of_le Co (Nat.le_refl _)));have q9 := ho.bx O1 (Nat.ne_of_gt (Nat.lt_of_lt_of_le C0 (T Bx (Nat.le_of_eq Bz))));clear q9;have Df := Nat.le_of_eq ho.size.symm;clear ho hk;refine pT (iv 0) ?_;refine zn (cw_ret (qw_ret [.agg #[iv id, iv ver, sv Br 0 24 Bw, .slice Bt Bu Bv], iv 0] rfl ⟨⟨_, by kernel_rfl, res_ld (ld53 (Bf.1) (Bg.1) (Bh.1) (Bi.1))⟩, (by kernel_rfl), trivial⟩ ?_));exact ⟨_, _, _, _, _, _, rfl, aa_q (VA.aa (Bj)), (fun ad e => by cases e; exact (T (T D1 (T Bx Bq)) Ci)), (Bm).mono fun k hk => T (T D1 (T Bx Bq)) hk, by omega, C3, hE⟩
theorem made_f {w1 w2 : World} {id v0 ver : Int} {x1 x2 : Option Addr} {m1 q1 m2 q2 : Nat} {ar : List Int} {b o : Nat} {a : Option Addr} {n : Nat} {l : List Prod.Pc} (k c : Nat) (w : World) (hv : VA w1 b o ar) (e1 : Ext w1 w) (h : PcsAt w2 a n l) (e2 : Ext w2 w) (hn : n ≤ 100) (hd : Prod.Dist l) (hok : ∀ p ∈ l, Globe.validL p.rw = true) (hT : Tab w) (hvp : Prod.validP id ver ar (Prod.divide ar l) = false) :
  Calls Tryz.prog 60 #[.agg #[iv id, iv v0, .slice x1 m1 q1, .slice x2 m2 q2], iv ver, .agg #[sv b o 24 k], .slice a n c] w (RetPrdErr w) := by
 replace hv := hv.ext e1;replace h := h.ext e2;have ltb := hv.lt;clear e1 e2;refine calls_cw 26 [(3, .slice a n c), (2, .agg #[sv b o 24 k]), (1, iv ver), (0, .agg #[iv id, iv v0, .slice x1 m1 q1, .slice x2 m2 q2])] Tryz.func60 rfl Tryz.ntmps60 (by kernel_rfl) (by kernel_rfl) (fun L => ?_);have hE := Ext.refl w;refine zc (zp (pS (sw 53 #[iv id, iv v0, .slice x1 m1 q1, .slice x2 m2 q2] ?_)));intro O1 X2 Ce Dg hb hbx;have ⟨B7, Bb, Bc, Be⟩ := bq4 hbx;replace hE := hE.trans hb;have Dd := hb.size;have Bt := B7.lt;refine pS (sw 33 #[sv b o 24 k] ?_);intro O5 X6 Cf Dh hb hbx;have Ba := bq1 hbx;refine mv5 hb hE B7 Bb Bc Be fun hE B7 Bb Bc Be=>?_;have Bz := hb.size;have Dm := Ba.lt;refine pS (sw 53 #[iv 0, iv 0, .slice none 0 0, .slice none 0 0] ?_);intro O9 Cg Br Di hb hbx;have ⟨Bf, Bg, Bh, Bi⟩ := bq4 hbx;refine mv6 hb hE B7 Bb Bc Be Ba fun hE B7 Bb Bc Be Ba=>?_;have Bq := hb.size;have Cn := Bf.lt;refine pT (iv 0) ?_;refine zn (zc (cw_join (fun ws' Y => ∃ Bu C6 : Nat, ∃ Bv : Option Addr, ∃ C4 C5 : Nat, ws' = [(4, pw O1 0), (8, pw O9 0)] ∧ Ext w Y ∧ BoxAt Y O5 0 (sv b o 24 k) ∧ BoxAt Y O9 0 (iv 0) ∧ BoxAt Y O9 1 (iv 0) ∧ BoxAt Y O9 2 (.slice none 0 0) ∧ BoxAt Y O9 3 (.slice none 0 0) ∧ VA Y Bu 0 ar ∧ C4 ≤ C5 ∧ Pl Bv ∧ PcsS (fun k => Cg.heap.size ≤ k) Y Bv C4 (Prod.divide ar l) ∧ BoxAt Y O1 0 (iv id) ∧ BoxAt Y O1 1 (iv ver) ∧ BoxAt Y O1 2 (sv Bu 0 24 C6) ∧ BoxAt Y O1 3 (.slice Bv C4 C5) ∧ Cg.heap.size ≤ Y.heap.size ∧ Cg.heap.size ≤ Bu) (fun hJ => ?_) ?_))
 ·
  refine dE Tz41_0 (fun w' => w'.cell? ⟨O5, 0, none⟩ = some (sv b o 24 k)) (Ba.1) (fun ops Q D7 hb hL hR hK => ?_);refine mv9 hb hE B7 Bb Bc Be Ba Bf Bg Bh fun hE B7 Bb Bc Be Ba Bf Bg Bh=>?_;replace Bi := Bi.x hb;have Bp := hb.size;have hS := Ba.1;refine wW 0 (pw O1 0) 2 (iv ver) hR hS ?_;refine wV 3 (pw O5 0) hR hS ?_;refine wM 4 (sv b o 24 k) hR (fun w hS => ld24 (hS)) hS ?_;refine wM 7 (.agg #[sv b o 24 k]) hR (fun w hS => ld33 (hS)) hS ?_;refine wV 8 (.slice a n c) hR hS ?_;refine zw 1 5 hR ?_ ?_
  ·
   refine sn_eff (v := iv id) (w' := D7) (xl (ld3 (B7.1))) ⟨Ba.1, ?_⟩;refine wC 5 61 #[sv b o 24 k] hR ((Clone_v _ _ hv hE).mono ?_);rintro e Dt ⟨Bu, C6, rfl, Ch, Cy, hb⟩;refine mv9 hb hE B7 Bb Bc Be Ba Bf Bg Bh fun hE B7 Bb Bc Be Ba Bf Bg Bh=>?_;replace Bi := Bi.x hb;have Cm := hb.size;have Bj := Cy.va hv.2;have Dj := Bj.lt;have hS := Ba.1;refine ⟨_, rfl, hS, ?_⟩;refine wV 6 (.agg #[sv Bu 0 24 C6]) hR hS ?_;refine wC 9 92 #[.agg #[sv b o 24 k], .slice a n c] hR ((divide_c _ _ _ (h) hE hv hE (by omega) hd (hT.ext hE) hok).mono ?_);rintro e Dn ⟨Bv, C4, C5, rfl, Cu, Cc, Cd, hb⟩;refine mv9 hb hE B7 Bb Bc Be Ba Bf Bg Bh fun hE B7 Bb Bc Be Ba Bf Bg Bh=>?_;refine mv2 hb Bi Bj fun Bi Bj=>?_;have D0 := hb.size;have Bm := PcsS.mono (T := fun k => Cg.heap.size ≤ k) Cu (fun k hk => T (T Bp Cm) hk);have hS := Ba.1;refine ⟨_, rfl, hS, ?_⟩;refine wV 10 (.agg #[iv id, iv ver, sv Bu 0 24 C6, .slice Bv C4 C5]) hR hS ?_;refine wS 11 hR (sn_setK4 (O := O1) (j := 0) (v0 := iv id) (v1 := iv ver) (v2 := sv Bu 0 24 C6) (v3 := .slice Bv C4 C5) (ex_store (p := pw O1 0) (v := .agg #[iv id, iv ver, sv Bu 0 24 C6, .slice Bv C4 C5]) rfl (by kernel_rfl) (by kernel_rfl) (st53 B7.1 B7.2 Bb.1 Bb.2 Bc.1 Bc.2 Be.1 Be.2)) B7 Bb Bc Be ?_);intro D8 ho B7 Bb Bc Be hk;replace hE := ho.ext hE (Nat.le_of_eq Ce);replace Ba := ho.box (Nat.ne_of_lt (Nat.lt_of_lt_of_le Bt (Nat.le_of_eq Cf))) Ba;have q9 := ho.bx O9 (Nat.ne_of_lt (Nat.lt_of_lt_of_le Bt (T Bz (Nat.le_of_eq Br))));replace Bf := q9 Bf;replace Bg := q9 Bg;replace Bh := q9 Bh;replace Bi := q9 Bi;clear q9;replace Bj := ho.va (Nat.ne_of_lt (Nat.lt_of_lt_of_le Bt (T (T Bz (T Bq Bp)) Ch))) Bj;replace Bm := Bm.turn ho (Nat.not_le_of_lt (Nat.lt_of_lt_of_le Bt (T Bz Bq)));have D1 := Nat.le_of_eq ho.size.symm;clear ho hk;refine ⟨Ba.1, ?_⟩;refine we hL hR hK ?_;exact zl hJ [4, 8] ⟨Bu, C6, Bv, C4, C5, rfl, hE, Ba, Bf, Bg, Bh, Bi, Bj, Cc, Cd, Bm, B7, Bb, Bc, Be, (T Bp (T Cm (T D0 D1))), (T Bp Ch)⟩
  ·
   refine sc 61 #[sv b o 24 k] ((Clone_v _ _ hv hE).mono ?_);rintro e Do ⟨C8, Cb, rfl, C9, Cz, hb⟩;refine mv9 hb hE B7 Bb Bc Be Ba Bf Bg Bh fun hE B7 Bb Bc Be Ba Bf Bg Bh=>?_;replace Bi := Bi.x hb;have Ca := hb.size;have Bk := Cz.va hv.2;have Dk := Bk.lt;have hS := Ba.1;refine ⟨_, rfl, hS, ?_⟩;refine wV 6 (.agg #[sv C8 0 24 Cb]) hR hS ?_;refine zw 1 9 hR ?_ ?_
   ·
    refine sn_eff (v := iv id) (w' := Do) (xl (ld3 (B7.1))) ⟨Ba.1, ?_⟩;refine wC 9 92 #[.agg #[sv b o 24 k], .slice a n c] hR ((divide_c _ _ _ (h) hE hv hE (by omega) hd (hT.ext hE) hok).mono ?_);rintro e Dp ⟨Co, Cs, Cq, rfl, Cv, Ci, Ck, hb⟩;refine mv9 hb hE B7 Bb Bc Be Ba Bf Bg Bh fun hE B7 Bb Bc Be Ba Bf Bg Bh=>?_;refine mv2 hb Bi Bk fun Bi Bk=>?_;have D2 := hb.size;have Bw := PcsS.mono (T := fun k => Cg.heap.size ≤ k) Cv (fun k hk => T (T Bp Ca) hk);have hS := Ba.1;refine ⟨_, rfl, hS, ?_⟩;refine wV 10 (.agg #[iv id, iv ver, sv C8 0 24 Cb, .slice Co Cs Cq]) hR hS ?_;refine wS 11 hR (sn_setK4 (O := O1) (j := 0) (v0 := iv id) (v1 := iv ver) (v2 := sv C8 0 24 Cb) (v3 := .slice Co Cs Cq) (ex_store (p := pw O1 0) (v := .agg #[iv id, iv ver, sv C8 0 24 Cb, .slice Co Cs Cq]) rfl (by kernel_rfl) (by kernel_rfl) (st53 B7.1 B7.2 Bb.1 Bb.2 Bc.1 Bc.2 Be.1 Be.2)) B7 Bb Bc Be ?_);intro D9 ho B7 Bb Bc Be hk;replace hE := ho.ext hE (Nat.le_of_eq Ce);replace Ba := ho.box (Nat.ne_of_lt (Nat.lt_of_lt_of_le Bt (Nat.le_of_eq Cf))) Ba;have q9 := ho.bx O9 (Nat.ne_of_lt (Nat.lt_of_lt_of_le Bt (T Bz (Nat.le_of_eq Br))));replace Bf := q9 Bf;replace Bg := q9 Bg;replace Bh := q9 Bh;replace Bi := q9 Bi;clear q9;replace Bk := ho.va (Nat.ne_of_lt (Nat.lt_of_lt_of_le Bt (T (T Bz (T Bq Bp)) C9))) Bk;replace Bw := Bw.turn ho (Nat.not_le_of_lt (Nat.lt_of_lt_of_le Bt (T Bz Bq)));have D3 := Nat.le_of_eq ho.size.symm;clear ho hk;refine ⟨Ba.1, ?_⟩;refine we hL hR hK ?_;exact zl hJ [4, 8] ⟨C8, Cb, Co, Cs, Cq, rfl, hE, Ba, Bf, Bg, Bh, Bi, Bk, Ci, Ck, Bw, B7, Bb, Bc, Be, (T Bp (T Ca (T D2 D3))), (T Bp C9)⟩
   ·
    refine sc 92 #[.agg #[sv b o 24 k], .slice a n c] ((divide_c _ _ _ (h) hE hv hE (by omega) hd (hT.ext hE) hok).mono ?_);rintro e D6 ⟨Cp, Ct, Cr, rfl, Cw, Cj, Cl, hb⟩;refine mv9 hb hE B7 Bb Bc Be Ba Bf Bg Bh fun hE B7 Bb Bc Be Ba Bf Bg Bh=>?_;refine mv2 hb Bi Bk fun Bi Bk=>?_;have D4 := hb.size;have Bx := PcsS.mono (T := fun k => Cg.heap.size ≤ k) Cw (fun k hk => T (T Bp Ca) hk);refine ⟨_, rfl, Ba.1, ?_⟩;refine wS 1 hR (sn_eff (v := iv id) (w' := D6) (ex_load rfl (by kernel_rfl) (ld3 (B7.1))) ⟨Ba.1, ?_⟩);refine wV 10 (.agg #[iv id, iv ver, sv C8 0 24 Cb, .slice Cp Ct Cr]) hR (Ba.1) ?_;refine wS 11 hR (sn_setK4 (O := O1) (j := 0) (v0 := iv id) (v1 := iv ver) (v2 := sv C8 0 24 Cb) (v3 := .slice Cp Ct Cr) (ex_store (p := pw O1 0) (v := .agg #[iv id, iv ver, sv C8 0 24 Cb, .slice Cp Ct Cr]) rfl (by kernel_rfl) (by kernel_rfl) (st53 B7.1 B7.2 Bb.1 Bb.2 Bc.1 Bc.2 Be.1 Be.2)) B7 Bb Bc Be ?_);intro Da ho B7 Bb Bc Be hk;replace hE := ho.ext hE (Nat.le_of_eq Ce);replace Ba := ho.box (Nat.ne_of_lt (Nat.lt_of_lt_of_le Bt (Nat.le_of_eq Cf))) Ba;have q9 := ho.bx O9 (Nat.ne_of_lt (Nat.lt_of_lt_of_le Bt (T Bz (Nat.le_of_eq Br))));replace Bf := q9 Bf;replace Bg := q9 Bg;replace Bh := q9 Bh;replace Bi := q9 Bi;clear q9;replace Bk := ho.va (Nat.ne_of_lt (Nat.lt_of_lt_of_le Bt (T (T Bz (T Bq Bp)) C9))) Bk;replace Bx := Bx.turn ho (Nat.not_le_of_lt (Nat.lt_of_lt_of_le Bt (T Bz Bq)));have D5 := Nat.le_of_eq ho.size.symm;clear ho hk;refine ⟨Ba.1, ?_⟩;refine we hL hR hK ?_;exact zl hJ [4, 8] ⟨C8, Cb, Cp, Ct, Cr, rfl, hE, Ba, Bf, Bg, Bh, Bi, Bk, Cj, Cl, Bx, B7, Bb, Bc, Be, (T Bp (T Ca (T D4 D5))), (T Bp C9)⟩
 ·
  clear B7 Bb Bc Be Ba Bf Bg Bh Bi hE;rintro L ws Dr ⟨Bu, C6, Bv, C4, C5, rfl, hE, Ba, Bf, Bg, Bh, Bi, Bj, Cc, Cd, Bm, B7, Bb, Bc, Be, Dc, Cx⟩;have Dl := Bj.lt;refine zq (zc (zc (zp (pU (.agg #[iv id, iv ver, sv Bu 0 24 C6, .slice Bv C4 C5]) (xl (ld53 (B7.1) (Bb.1) (Bc.1) (Be.1))) ?_))));refine pS (sc 28 #[.agg #[iv id, iv ver, sv Bu 0 24 C6, .slice Bv C4 C5]] ((pValid_r (id := id) (ver := ver) (r := false) _ _ (by omega) (aa_q (Bj.aa)) (Ext.refl _) (Bm.pcs) (Ext.refl _) (hT.ext hE) hvp).mono ?_));rintro e Dq ⟨rfl, hb⟩;refine mv5 hb hE Bf Bg Bh Bi fun hE Bf Bg Bh Bi=>?_;have De := hb.size;refine ⟨_, rfl, pT (.bool true) ?_⟩;refine zn (zt ?_);refine zc (zp (pT (.agg #[iv 0, iv 0, .slice none 0 0, .slice none 0 0]) ?_));refine pP (zG O9 (iv 0) (iv 0) (.slice none 0 0) (.slice none 0 0) (st53 Bf.1 Bf.2 Bg.1 Bg.2 Bh.1 Bh.2 Bi.1 Bi.2) Bf Bg Bh Bi ?_);intro Db ho Bf Bg Bh Bi hk;replace hE := ho.ext hE (T (T Dd Bz) (Nat.le_of_eq Br));have q9 := ho.bx O1 (Nat.ne_of_gt (Nat.lt_of_lt_of_le Bt (T Bz (Nat.le_of_eq Br))));clear q9;have Df := Nat.le_of_eq ho.size.symm;clear ho hk;refine pT (iv 310) ?_;refine zn (cw_ret (qw_then_ret (qw_ret [.agg #[iv 0, iv 0, .slice none 0 0, .slice none 0 0], iv 310] rfl ⟨⟨_, by kernel_rfl, res_ld (ld53 (Bf.1) (Bg.1) (Bh.1) (Bi.1))⟩, (by kernel_rfl), trivial⟩ ?_)));exact ⟨rfl, hE⟩
end Go.Proofs.YtajdohcgjgknmaaGreatDoor

namespace Go.Proofs.YtajdohcgjgknmaaGreatDoor
set_option maxRecDepth 1000000
set_option maxHeartbeats 4000000
set_option synthInstance.maxHeartbeats 0
set_option synthInstance.maxSize 9999
open Go.RowKit
def Tz42_0 : List Row := [(some 26, [9], []), (some 27, [26], [0]), (some 28, [27], [1]), (some 29, [28], [2, 1]), (some 30, [2, 29], [3]), (some 31, [8, 29], [3]), (some 32, [30, 31, 29], [4, 5, 3]), (some 33, [9, 29], [3]), (some 34, [33, 29], [7, 3]), (some 35, [34, 29], [8, 3, 3]), (some 36, [32, 35, 29], [6, 9, 9, 3]), (some 37, [29, 36], [3, 10])]
def AFr (S : Nat → Prop) (w : World) (a : Option Addr) (l : List Int) (n : Nat) : Prop := AA w a l n (Globe.validL l) ∧ ∀ ad, a = some ad → S ad.block
theorem AFr.ext {S : Nat → Prop} {w w' : World} {a : Option Addr} {l : List Int} {n : Nat} (h : AFr S w a l n) (hE : Ext w w') : AFr S w' a l n := ⟨h.1.ext hE, h.2⟩
theorem AFr.turn {S : Nat → Prop} {w X : World} {a : Option Addr} {l : List Int} {n : Nat} {O : Nat} (h : AFr S w a l n) (ho : Turns O w X) (hO : ¬ S O) : AFr S X a l n := ⟨aa_turn h.1 ho fun _ ad e q => hO (q ▸ h.2 ad e), h.2⟩
def RetB (w : World) (ok : Bool) (id ver : Int) (ar : List Int) (l : List Prod.Pc) (e : Ending) (w' : World) : Prop := (ok = true ∧ RetPrd w id ver ar l e w') ∨ (ok = false ∧ RetPrdErr w e w')
theorem RetB.yes {w : World} {ok : Bool} {id ver : Int} {ar : List Int} {l : List Prod.Pc} {e : Ending} {w' : World} (h : ok = true) (k : RetPrd w id ver ar l e w') : RetB w ok id ver ar l e w' := .inl ⟨h, k⟩
theorem RetB.no {w : World} {ok : Bool} {id ver : Int} {ar : List Int} {l : List Prod.Pc} {e : Ending} {w' : World} (h : ok = false) (k : RetPrdErr w e w') : RetB w ok id ver ar l e w' := .inr ⟨h, k⟩
theorem RetB.y {w : World} {ok : Bool} {id ver : Int} {ar : List Int} {l : List Prod.Pc} {e : Ending} {w' : World} (h : RetB w ok id ver ar l e w') (k : ok = true) : RetPrd w id ver ar l e w' := h.elim (fun q => q.2) fun q => by rw [k] at q; cases q.1
theorem RetB.n {w : World} {ok : Bool} {id ver : Int} {ar : List Int} {l : List Prod.Pc} {e : Ending} {w' : World} (h : RetB w ok id ver ar l e w') (k : ok = false) : RetPrdErr w e w' := h.elim (fun q => by rw [k] at q; cases q.1) fun q => q.2
namespace Prod
def goodGo (pre : List Pc) : List Pc → Bool
 | [] => true
 | x :: l => (okP x && !hasIm pre x.im) && goodGo (pre ++ [x]) l
def goodL (l : List Pc) : Bool := goodGo [] l
def buildOk (id : Int) (ar : List Int) (l : List Pc) : Bool := (decide (l.length ≤ 24) && Globe.validL ar) && (goodL l && validP id 1 ar (divide ar l))
theorem goodGo_step {pre l : List Pc} {i : Nat} {p : Pc} (hp : l[i]? = some p) : goodGo pre (l.drop i) = ((okP p && !hasIm pre p.im) && goodGo (pre ++ [p]) (l.drop (i + 1))) := by
 obtain ⟨hi, rfl⟩ := List.getElem?_eq_some_iff.1 hp
 rw [List.drop_eq_getElem_cons hi, goodGo]
theorem good_cases (p : Pc) (b : Bool) : okP p = false ∨ (okP p = true ∧ b = true) ∨ (okP p = true ∧ b = false) := by cases okP p <;> cases b <;> simp
theorem hasIm_f {l : List Pc} {im : Int} (h : hasIm l im = false) : ∀ q ∈ l, q.im ≠ im := fun q hq e => by
 have : hasIm l im = true := by unfold hasIm; rw [List.any_eq_true]; exact ⟨q, hq, by simp [e]⟩
 rw [h] at this; cases this
theorem goodGo_t : ∀ {l pre : List Pc}, goodGo pre l = true → (∀ p ∈ l, okP p = true) ∧ Dist l ∧ ∀ p ∈ l, ∀ q ∈ pre, q.im ≠ p.im
  | [], _, _ => ⟨(fun p hp => by cases hp), List.Pairwise.nil, fun p hp => by cases hp⟩
  | x :: l, pre, h => by
    rw [goodGo] at h
    simp only [Bool.and_eq_true, Bool.not_eq_true'] at h
    obtain ⟨i1, i2, i3⟩ := goodGo_t h.2
    refine ⟨fun p hp => ?_, Dist.cons.2 ⟨fun y hy => i3 y hy x (by simp), i2⟩, fun p hp q hq => ?_⟩
    · rcases List.mem_cons.1 hp with rfl | hp
      · exact h.1.1
      · exact i1 p hp
    · rcases List.mem_cons.1 hp with rfl | hp
      · exact hasIm_f h.1.2 q hq
      · exact i3 p hp q (by simp [hq])
theorem goodL_ok {l : List Pc} (h : goodL l = true) : ∀ p ∈ l, okP p = true := (goodGo_t h).1
theorem goodL_dist {l : List Pc} (h : goodL l = true) : Dist l := (goodGo_t h).2.1
theorem goodL_valid {l : List Pc} (h : goodL l = true) : ∀ p ∈ l, Globe.validL p.rw = true := fun p hp => (okP_t.1 (goodL_ok h p hp)).2.2
end Prod
theorem Build_c {w1 w2 : World} {id : Int} {ar : List Int} {a1 a : Option Addr} {n1 n : Nat} {l : List Prod.Pc} (c1 : Nat) {c : Nat} (w : World) (hnc : n ≤ c) (hA : AA w1 a1 ar n1 (Globe.validL ar)) (e1 : Ext w1 w) (hP : PcsAt w2 a n l) (e2 : Ext w2 w) (hT : Tab w) :
  Calls Tryz.prog 13 #[iv id, .agg #[.slice a1 n1 c1], .slice a n c] w (RetB w (Prod.buildOk id ar l) id 1 ar (Prod.divide ar l)) := by
 replace hA := hA.ext e1;replace hP := hP.ext e2;have hnb := hP.max;have hln := hP.len;clear e1 e2;refine calls_cw 47 [(2, .slice a n c), (1, .agg #[.slice a1 n1 c1]), (0, iv id)] Tryz.func13 rfl Tryz.ntmps13 (by kernel_rfl) (by kernel_rfl) (fun L => ?_);have hE := Ext.refl w;refine zc (zp (pS (sw 33 #[.slice a1 n1 c1] ?_)));intro O1 X2 Eo Em hb hbx;have Be := bq1 hbx;replace hE := hE.trans hb;have Ct := hb.size;have Cz := Be.lt;refine pS (sw 53 #[iv 0, iv 0, .slice none 0 0, .slice none 0 0] ?_);intro O5 X6 Bz En hb hbx;have ⟨B7, Ba, Bb, Bc⟩ := bq4 hbx;refine mv2 hb hE Be fun hE Be=>?_;have Dc := hb.size;have D1 := B7.lt;refine pT (iv 0) ?_;refine zn (zc (zc (zp (pD (.slice a n c) (iv n) ?_))))
 by_cases Dz : ((n : Nat) : Int) > (24 : Int)
 ·
  refine pU (.bool true) (ed (((n : Nat) : Int) > (24 : Int)) (Dz)) ?_;refine pT (.bool true) ?_;refine pK ?_;refine pK ?_;refine pK ?_;refine pT (.bool true) ?_;refine zn (zt ?_);refine zc (zp (pT (.agg #[iv 0, iv 0, .slice none 0 0, .slice none 0 0]) ?_));refine pP (zG O5 (iv 0) (iv 0) (.slice none 0 0) (.slice none 0 0) (st53 B7.1 B7.2 Ba.1 Ba.2 Bb.1 Bb.2 Bc.1 Bc.2) B7 Ba Bb Bc ?_);intro Ea ho B7 Ba Bb Bc hk;replace hE := ho.ext hE (T Ct (Nat.le_of_eq Bz));replace Be := ho.box (Nat.ne_of_gt (Nat.lt_of_lt_of_le Cz (Nat.le_of_eq Bz))) Be;have Ef := Nat.le_of_eq ho.size.symm;clear ho hk;refine pT (iv 310) ?_;refine zn (cK [6,7] (fun L => ?_));refine cw_ret (qw_then_ret (qw_ret [.agg #[iv 0, iv 0, .slice none 0 0, .slice none 0 0], iv 310] rfl ⟨⟨_, by kernel_rfl, res_ld (ld53 (B7.1) (Ba.1) (Bb.1) (Bc.1))⟩, (by kernel_rfl), trivial⟩ ?_));exact RetB.no (by unfold Prod.buildOk; rw [decide_eq_false (show ¬ l.length ≤ 24 by omega)]; rfl) ⟨rfl, hE⟩
 ·
  refine pU (.bool false) (en (((n : Nat) : Int) > (24 : Int)) (Dz)) ?_;refine pT (.bool false) ?_;refine pU (.agg #[.slice a1 n1 c1]) (xl (ld33 (Be.1))) ?_;rcases Bool.eq_false_or_eq_true (Globe.validL ar) with Co | Co
  ·
   refine pS (sc 50 #[.agg #[.slice a1 n1 c1]] ((Valid_q (r := true) _ _ (hA) hE Co).mono ?_));rintro e Eu ⟨rfl, hb⟩;refine mv6 hb hE Be B7 Ba Bb Bc fun hE Be B7 Ba Bb Bc=>?_;have C1 := hb.size;refine ⟨_, rfl, pD (.bool false) (.bool false) ?_⟩;refine zn (zf ?_);refine cw_skip (zq (zc (cw_seq ?_)));have hva : Globe.validL ar = true := Co;obtain ⟨Da, Df, rfl, rfl, Cw⟩ := va_of hA hva;have Ep := Cw.lt;refine zp (pD (.slice a n c) (iv n) ?_);refine pT (iv 0) ?_;refine zn (cK [0,2,4,6,19,20,21] (fun L => ?_));refine cw_block ?_;refine cw_loop [0, 2, 4, 6, 19, 20, 21] (fun ws' wr m => ∃ i : Nat, ws' = [(0, iv id), (2, .slice a n c), (4, pw O1 0), (6, pw O5 0), (19, .slice a n c), (20, iv n), (21, iv i)] ∧ m = n - i ∧ Eu.heap.size ≤ wr.heap.size ∧ Ext w wr ∧ BoxAt wr O1 0 (sv Da Df 24 c1) ∧ BoxAt wr O5 0 (iv 0) ∧ BoxAt wr O5 1 (iv 0) ∧ BoxAt wr O5 2 (.slice none 0 0) ∧ BoxAt wr O5 3 (.slice none 0 0) ∧ i ≤ n ∧ Prod.goodGo [] l = Prod.goodGo (l.take i) (l.drop i)) (ws0 := [(0, iv id), (2, .slice a n c), (4, pw O1 0), (6, pw O5 0), (19, .slice a n c), (20, iv n), (21, iv 0)]) (by kernel_rfl) _ ⟨0, rfl, rfl, Nat.le_refl _, hE, Be, B7, Ba, Bb, Bc, by omega, rfl⟩ ?_;clear Be B7 Ba Bb Bc hE;rintro F1 L ws E7 ⟨i, rfl, rfl, C0, hE, Be, B7, Ba, Bb, Bc, hi, Hv⟩
   by_cases hlt : i < n
   ·
    obtain ⟨Cm, Cn, p, C6, Cu, Cr, rfl, D6, Dm, Dn, Do, Dp, Cv⟩ := hP.at hlt;have hst := Prod.goodGo_step (pre := l.take i) D6;have htk : l.take (i + 1) = l.take i ++ [p] := by rw [List.take_add_one, D6];rfl
    refine zc (zp (pU (.bool true) (ed (((i : Nat) : Int) < ((n : Nat) : Int)) (by omega)) ?_));refine zn (zc (zt ?_));refine cw_skip (zq (zc (cw_block ?_)));refine zc (zp (pT (iv i) ?_));refine pU (pw Cm (Cn + i * 4)) (xi (sv Cm Cn n c) (iv i) (ix30 (k := i) (by omega))) ?_;refine pU (.agg #[iv p.im, iv p.t, .bool p.cl, .slice C6 Cu Cr]) (xl (ld49 ((hE.cell Dm)) ((hE.cell Dn)) ((hE.cell Do)) ((hE.cell Dp)))) ?_;refine pS (sw 49 #[iv 0, iv 0, .bool false, .slice none 0 0] ?_);intro D0 Eb Cg E6 hb hbx;have ⟨Bg, Bj, Bk, Bm⟩ := bq4 hbx;refine mv6 hb hE Be B7 Ba Bb Bc fun hE Be B7 Ba Bb Bc=>?_;have D4 := hb.size;have Er := Bg.lt;refine pT (iv i) ?_;refine pP (zG D0 (iv p.im) (iv p.t) (.bool p.cl) (.slice C6 Cu Cr) (st49 Bg.1 Bg.2 Bj.1 Bj.2 Bk.1 Bk.2 Bm.1 Bm.2) Bg Bj Bk Bm ?_);intro Cq ho Bg Bj Bk Bm hk;replace hE := ho.ext hE (T (T Ct (T Dc (T C1 C0))) (Nat.le_of_eq Cg));replace Be := ho.box (Nat.ne_of_gt (Nat.lt_of_lt_of_le Cz (T (T Dc (T C1 C0)) (Nat.le_of_eq Cg)))) Be;have q9 := ho.bx O5 (Nat.ne_of_gt (Nat.lt_of_lt_of_le D1 (T (T C1 C0) (Nat.le_of_eq Cg))));replace B7 := q9 B7;replace Ba := q9 Ba;replace Bb := q9 Bb;replace Bc := q9 Bc;clear q9;have D5 := Nat.le_of_eq ho.size.symm;clear ho hk;refine zn (cw_seq ?_);rcases Prod.good_cases p (Prod.hasIm (l.take i) p.im) with h1 | ⟨h1, h2⟩ | ⟨h1, h2⟩
    ·
     have hfl : Prod.goodL l = false := by unfold Prod.goodL;rw [Hv, hst, h1];rfl
     have Bh := Ext.refl Cq;refine dE Tz42_0 (fun w' => Ext Cq w') (Ext.drew (Ext.refl _)) (fun ops Q Ey hb hL hR hK => ?_);refine mv2 hb hE Bh fun hE Bh=>?_;have Eg := hb.size;refine wM 0 (.agg #[iv p.im, iv p.t, .bool p.cl, .slice C6 Cu Cr]) hR (fun w hS => ld49 (Bg.c hS) (Bj.c hS) (Bk.c hS) (Bm.c hS)) Bh ?_;refine wC 1 57 #[.agg #[iv p.im, iv p.t, .bool p.cl, .slice C6 Cu Cr]] hR ((right_r (x := p) (r := false) _ (Cv) hE h1).mono ?_);rintro e Ev ⟨rfl, hb⟩;refine mv2 hb hE Bh fun hE Bh=>?_;have Eh := hb.size;refine ⟨_, rfl, Bh, ?_⟩;refine wW 2 (.bool true) 3 (.bool true) hR Bh ?_;refine wK 4 hR Bh ?_;refine wK 5 hR Bh ?_;refine wK 6 hR Bh ?_;refine wK 7 hR Bh ?_;refine wK 8 hR Bh ?_;refine wK 9 hR Bh ?_;refine wK 10 hR Bh ?_;refine wV 11 (.bool true) hR Bh ?_;refine we hL hR hK ?_;refine zq (cK [0,2,4,6,19,20,21,37] (fun L => ?_));refine zt ?_;refine zc (zp (pT (.agg #[iv 0, iv 0, .slice none 0 0, .slice none 0 0]) ?_));have Ci := (Be.x Bh);have Bp := (B7.x Bh);have Bq := (Ba.x Bh);have Br := (Bb.x Bh);have Bt := (Bc.x Bh);have C8 := (Bg.x Bh);have C9 := (Bj.x Bh);have Ca := (Bk.x Bh);have Cb := (Bm.x Bh);refine pP (zG O5 (iv 0) (iv 0) (.slice none 0 0) (.slice none 0 0) (st53 Bp.1 Bp.2 Bq.1 Bq.2 Br.1 Br.2 Bt.1 Bt.2) Bp Bq Br Bt ?_);intro Ec ho Bp Bq Br Bt hk;replace hE := ho.ext hE (T Ct (Nat.le_of_eq Bz));have q9 := ho.bx D0 (Nat.ne_of_lt (Nat.lt_of_lt_of_le D1 (T (T C1 C0) (Nat.le_of_eq Cg))));clear q9;have Ei := Nat.le_of_eq ho.size.symm;clear ho hk;refine pT (iv 310) ?_;refine zn (cw_ret (qw_block_ret (qw_then_ret (qw_then_ret (qw_block_ret (qw_then_ret (qw_ret [.agg #[iv 0, iv 0, .slice none 0 0, .slice none 0 0], iv 310] rfl ⟨⟨_, by kernel_rfl, res_ld (ld53 (Bp.1) (Bq.1) (Br.1) (Bt.1))⟩, (by kernel_rfl), trivial⟩ ?_)))))));exact RetB.no (by unfold Prod.buildOk; rw [hfl]; simp) ⟨rfl, hE⟩
    ·
     have hfl : Prod.goodL l = false := by unfold Prod.goodL;rw [Hv, hst, h1, h2];rfl
     have Bf := Ext.refl Cq;refine dE Tz42_0 (fun w' => Ext Cq w') (Ext.drew (Ext.refl _)) (fun ops Q Ez hb hL hR hK => ?_);refine mv2 hb hE Bf fun hE Bf=>?_;have Dq := hb.size;refine wM 0 (.agg #[iv p.im, iv p.t, .bool p.cl, .slice C6 Cu Cr]) hR (fun w hS => ld49 (Bg.c hS) (Bj.c hS) (Bk.c hS) (Bm.c hS)) Bf ?_;refine wC 1 57 #[.agg #[iv p.im, iv p.t, .bool p.cl, .slice C6 Cu Cr]] hR ((right_r (x := p) (r := true) _ (Cv) hE h1).mono ?_);rintro e F2 ⟨rfl, hb⟩;refine mv2 hb hE Bf fun hE Bf=>?_;have Dr := hb.size;refine ⟨_, rfl, Bf, ?_⟩;refine wW 2 (.bool false) 3 (.bool false) hR Bf ?_;refine wW 4 (sv Cm Cn n c) 5 (iv i) hR Bf ?_;refine wL 6 (sv Cm Cn i c) hR (fun w _ => ex_slice (p := sv Cm Cn n c) rfl (by kernel_rfl) (by kernel_rfl) (by kernel_rfl) (by kernel_rfl) (sl30_010 (m := i) (by omega) (by omega))) Bf ?_;refine wV 7 (pw D0 0) hR Bf ?_;refine wM 8 (iv p.im) hR (fun w hS => ld3 (Bg.c hS)) Bf ?_;refine wC 9 59 #[iv p.im] hR ((twin_c p.im _).mono ?_);rintro e F3 ⟨E8, rfl, Dk, Cl, hb⟩;refine mv2 hb hE Bf fun hE Bf=>?_;have Ej := hb.size;have Es := World.block_lt_of_cell? _ _ Cl;refine ⟨_, rfl, Bf, ?_⟩;refine wC 10 58 #[sv Cm Cn i c, .func (.func 105) #[] #[pw E8 0]] hR ((ContainsTwin_r (r := true) _ _ ((hP).take (by omega)) hE (Cl) (Ext.refl _) h2).mono ?_);rintro e Ew ⟨rfl, hb⟩;refine mv2 hb hE Bf fun hE Bf=>?_;have Ek := hb.size;refine ⟨_, rfl, Bf, ?_⟩;refine wV 11 (.bool true) hR Bf ?_;refine we hL hR hK ?_;refine zq (cK [0,2,4,6,19,20,21,37] (fun L => ?_));refine zt ?_;refine zc (zp (pT (.agg #[iv 0, iv 0, .slice none 0 0, .slice none 0 0]) ?_));have Cj := (Be.x Bf);have Bu := (B7.x Bf);have Bv := (Ba.x Bf);have Bw := (Bb.x Bf);have Bx := (Bc.x Bf);have Cc := (Bg.x Bf);have Cd := (Bj.x Bf);have Ce := (Bk.x Bf);have Cf := (Bm.x Bf);refine pP (zG O5 (iv 0) (iv 0) (.slice none 0 0) (.slice none 0 0) (st53 Bu.1 Bu.2 Bv.1 Bv.2 Bw.1 Bw.2 Bx.1 Bx.2) Bu Bv Bw Bx ?_);intro Ed ho Bu Bv Bw Bx hk;replace hE := ho.ext hE (T Ct (Nat.le_of_eq Bz));have q9 := ho.bx D0 (Nat.ne_of_lt (Nat.lt_of_lt_of_le D1 (T (T C1 C0) (Nat.le_of_eq Cg))));clear q9;have El := Nat.le_of_eq ho.size.symm;clear ho hk;refine pT (iv 310) ?_;refine zn (cw_ret (qw_block_ret (qw_then_ret (qw_then_ret (qw_block_ret (qw_then_ret (qw_ret [.agg #[iv 0, iv 0, .slice none 0 0, .slice none 0 0], iv 310] rfl ⟨⟨_, by kernel_rfl, res_ld (ld53 (Bu.1) (Bv.1) (Bw.1) (Bx.1))⟩, (by kernel_rfl), trivial⟩ ?_)))))));exact RetB.no (by unfold Prod.buildOk; rw [hfl]; simp) ⟨rfl, hE⟩
    ·
     skip
     have Bi := Ext.refl Cq;refine dE Tz42_0 (fun w' => Ext Cq w') (Ext.drew (Ext.refl _)) (fun ops Q F0 hb hL hR hK => ?_);refine mv2 hb hE Bi fun hE Bi=>?_;have Dt := hb.size;refine wM 0 (.agg #[iv p.im, iv p.t, .bool p.cl, .slice C6 Cu Cr]) hR (fun w hS => ld49 (Bg.c hS) (Bj.c hS) (Bk.c hS) (Bm.c hS)) Bi ?_;refine wC 1 57 #[.agg #[iv p.im, iv p.t, .bool p.cl, .slice C6 Cu Cr]] hR ((right_r (x := p) (r := true) _ (Cv) hE h1).mono ?_);rintro e F4 ⟨rfl, hb⟩;refine mv2 hb hE Bi fun hE Bi=>?_;have Du := hb.size;refine ⟨_, rfl, Bi, ?_⟩;refine wW 2 (.bool false) 3 (.bool false) hR Bi ?_;refine wW 4 (sv Cm Cn n c) 5 (iv i) hR Bi ?_;refine wL 6 (sv Cm Cn i c) hR (fun w _ => ex_slice (p := sv Cm Cn n c) rfl (by kernel_rfl) (by kernel_rfl) (by kernel_rfl) (by kernel_rfl) (sl30_010 (m := i) (by omega) (by omega))) Bi ?_;refine wV 7 (pw D0 0) hR Bi ?_;refine wM 8 (iv p.im) hR (fun w hS => ld3 (Bg.c hS)) Bi ?_;refine wC 9 59 #[iv p.im] hR ((twin_c p.im _).mono ?_);rintro e F5 ⟨E9, rfl, Ee, Cs, hb⟩;refine mv2 hb hE Bi fun hE Bi=>?_;have Dv := hb.size;have Et := World.block_lt_of_cell? _ _ Cs;refine ⟨_, rfl, Bi, ?_⟩;refine wC 10 58 #[sv Cm Cn i c, .func (.func 105) #[] #[pw E9 0]] hR ((ContainsTwin_r (r := false) _ _ ((hP).take (by omega)) hE (Cs) (Ext.refl _) h2).mono ?_);rintro e F6 ⟨rfl, hb⟩;refine mv2 hb hE Bi fun hE Bi=>?_;have Dw := hb.size;refine ⟨_, rfl, Bi, ?_⟩;refine wV 11 (.bool false) hR Bi ?_;refine we hL hR hK ?_;refine zq (cK [0,2,4,6,19,20,21,37] (fun L => ?_));refine zf ?_;refine cw_skip (qw_block (zq (zp (pU (iv ((i + 1 : Nat) : Int)) (ew (by omega) (by omega)) ?_))));refine pT (iv ((i + 1 : Nat) : Int)) ?_;refine pl_nil (qw_round [0, 2, 4, 6, 19, 20, 21] (ws' := [(0, iv id), (2, sv Cm Cn n c), (4, pw O1 0), (6, pw O5 0), (19, sv Cm Cn n c), (20, iv n), (21, iv ((i + 1 : Nat) : Int))]) (by kernel_rfl) _ ?_ ⟨(i + 1), rfl, rfl, (T C0 (T D4 (T D5 (T Dt (T Du (T Dv Dw)))))), hE, (Be.x Bi), (B7.x Bi), (Ba.x Bi), (Bb.x Bi), (Bc.x Bi), by omega, (by rw [Hv, hst, h1, h2, ← htk]; rfl)⟩);omega
   ·
    have hin : i = n := by omega
    have hgd : Prod.goodL l = true := by unfold Prod.goodL;rw [Hv, hin, List.drop_of_length_le (Nat.le_of_eq hln)];rfl
    have hd := Prod.goodL_dist hgd;have hok := Prod.goodL_valid hgd;refine zc (zp (pU (.bool false) (en (((i : Nat) : Int) < ((n : Nat) : Int)) (by omega)) ?_));refine zn (zc (zf ?_));refine cw_exit (qw_then_exit (qw_then_exit (qw_block_out (zq (zc (zp (pD (iv id) (.agg #[iv id, iv 0, .slice none 0 0, .slice none 0 0]) ?_)))))));refine pU (.agg #[sv Da Df 24 c1]) (xl (ld33 (Be.1))) ?_;refine pT (.slice a n c) ?_;rcases Bool.eq_false_or_eq_true (Prod.validP id 1 ar (Prod.divide ar l)) with Cp | Cp
    ·
     refine pS (sc 60 #[.agg #[iv id, iv 0, .slice none 0 0, .slice none 0 0], iv 1, .agg #[sv Da Df 24 c1], .slice a n c] ((made_t (l := l) _ _ _ Cw hE (hP) hE (by omega) hd hok (hT.ext hE) Cp).mono ?_));rintro e D8 ⟨D2, D7, Dd, D9, De, Db, rfl, Dj, Cx, D3, Dl, Cy, hb⟩;refine mv5 hb hE B7 Ba Bb Bc fun hE B7 Ba Bb Bc=>?_;have E0 := hb.size;have Ck : AFr (fun k => E7.heap.size ≤ k) D8 D2 ar D7 := ⟨Dj, fun ad e => T (Nat.le_refl _) (Cx ad e)⟩;have Ch := PcsS.mono (T := fun k => E7.heap.size ≤ k) D3 (fun k hk => T (Nat.le_refl _) hk);refine ⟨_, rfl, pD (.agg #[iv id, iv 1, .slice D2 D7 Dd, .slice D9 De Db]) (iv 0) ?_⟩;refine pP (zG O5 (iv id) (iv 1) (.slice D2 D7 Dd) (.slice D9 De Db) (st53 B7.1 B7.2 Ba.1 Ba.2 Bb.1 Bb.2 Bc.1 Bc.2) B7 Ba Bb Bc ?_);intro Dg ho B7 Ba Bb Bc hk;replace hE := ho.ext hE (T Ct (Nat.le_of_eq Bz));replace Ck := Ck.turn ho (Nat.not_le_of_lt (Nat.lt_of_lt_of_le D1 (T C1 C0)));replace Ch := Ch.turn ho (Nat.not_le_of_lt (Nat.lt_of_lt_of_le D1 (T C1 C0)));have E1 := Nat.le_of_eq ho.size.symm;clear ho hk;refine pT (iv 0) ?_;refine zn (cK [6,7] (fun L => ?_));refine cw_ret (qw_ret [.agg #[iv id, iv 1, .slice D2 D7 Dd, .slice D9 De Db], iv 0] rfl ⟨⟨_, by kernel_rfl, res_ld (ld53 (B7.1) (Ba.1) (Bb.1) (Bc.1))⟩, (by kernel_rfl), trivial⟩ ?_);exact RetB.yes (by unfold Prod.buildOk; rw [hva, hgd, Cp, decide_eq_true (show l.length ≤ 24 by omega)]; rfl) ⟨_, _, _, _, _, _, rfl, (Ck).1, fun ad e => T (T Ct (T Dc (T C1 C0))) ((Ck).2 ad e), (Ch).mono fun k hk => T (T Ct (T Dc (T C1 C0))) hk, by omega, Cy, hE⟩
    ·
     refine pS (sc 60 #[.agg #[iv id, iv 0, .slice none 0 0, .slice none 0 0], iv 1, .agg #[sv Da Df 24 c1], .slice a n c] ((made_f (l := l) _ _ _ Cw hE (hP) hE (by omega) hd hok (hT.ext hE) Cp).mono ?_));rintro e Dx ⟨rfl, hb⟩;refine mv5 hb hE B7 Ba Bb Bc fun hE B7 Ba Bb Bc=>?_;have E2 := hb.size;refine ⟨_, rfl, pD (.agg #[iv 0, iv 0, .slice none 0 0, .slice none 0 0]) (iv 310) ?_⟩;refine pP (zG O5 (iv 0) (iv 0) (.slice none 0 0) (.slice none 0 0) (st53 B7.1 B7.2 Ba.1 Ba.2 Bb.1 Bb.2 Bc.1 Bc.2) B7 Ba Bb Bc ?_);intro Dh ho B7 Ba Bb Bc hk;replace hE := ho.ext hE (T Ct (Nat.le_of_eq Bz));have E3 := Nat.le_of_eq ho.size.symm;clear ho hk;refine pT (iv 310) ?_;refine zn (cK [6,7] (fun L => ?_));refine cw_ret (qw_ret [.agg #[iv 0, iv 0, .slice none 0 0, .slice none 0 0], iv 310] rfl ⟨⟨_, by kernel_rfl, res_ld (ld53 (B7.1) (Ba.1) (Bb.1) (Bc.1))⟩, (by kernel_rfl), trivial⟩ ?_);exact RetB.no (by unfold Prod.buildOk; rw [Cp]; simp) ⟨rfl, hE⟩
  ·
   refine pS (sc 50 #[.agg #[.slice a1 n1 c1]] ((Valid_q (r := false) _ _ (hA) hE Co).mono ?_));rintro e Dy ⟨rfl, hb⟩;refine mv5 hb hE B7 Ba Bb Bc fun hE B7 Ba Bb Bc=>?_;have E4 := hb.size;refine ⟨_, rfl, pD (.bool true) (.bool true) ?_⟩;refine zn (zt ?_);refine zc (zp (pT (.agg #[iv 0, iv 0, .slice none 0 0, .slice none 0 0]) ?_));refine pP (zG O5 (iv 0) (iv 0) (.slice none 0 0) (.slice none 0 0) (st53 B7.1 B7.2 Ba.1 Ba.2 Bb.1 Bb.2 Bc.1 Bc.2) B7 Ba Bb Bc ?_);intro Di ho B7 Ba Bb Bc hk;replace hE := ho.ext hE (T Ct (Nat.le_of_eq Bz));have E5 := Nat.le_of_eq ho.size.symm;clear ho hk;refine pT (iv 310) ?_;refine zn (cK [6,7] (fun L => ?_));refine cw_ret (qw_then_ret (qw_ret [.agg #[iv 0, iv 0, .slice none 0 0, .slice none 0 0], iv 310] rfl ⟨⟨_, by kernel_rfl, res_ld (ld53 (B7.1) (Ba.1) (Bb.1) (Bc.1))⟩, (by kernel_rfl), trivial⟩ ?_));exact RetB.no (by unfold Prod.buildOk; rw [Co]; simp) ⟨rfl, hE⟩
instance {S : Nat → Prop} {w w' : World} {a : Option Addr} {l : List Int} {n : Nat} : MvC w w' (AFr S w a l n) (AFr S w' a l n) := ⟨fun e h => h.ext e⟩
end Go.Proofs.YtajdohcgjgknmaaGreatDoor

namespace Go.Proofs.YtajdohcgjgknmaaGreatDoor
set_option maxRecDepth 1000000
set_option maxHeartbeats 4000000
set_option synthInstance.maxHeartbeats 0
set_option synthInstance.maxSize 9999
open Go.RowKit
namespace Prod
end Prod
end Go.Proofs.YtajdohcgjgknmaaGreatDoor

namespace Go.Proofs.YtajdohcgjgknmaaGreatDoor
open Go.RowKit
section
variable {P : Program} {ops : Array Oper} {Q : Exit → Act → World → Prop} {md : Region.Mode} {S : World → Prop}
theorem at_drop {i : Nat} {o : Oper} {r : List Oper} (h : ops.toList.drop i = o :: r) : ops[i]? = some o := by
 rw [← Array.getElem?_toList, ← Nat.add_zero i, ← List.getElem?_drop, h]; rfl
theorem rg_take (i : Nat) {oi : Oper} {r : List Oper} {v : Value} {fuel : Nat} {listed : Array Bool} {a : Act} {w : World} (hi : ops.toList.drop i = oi :: r)
  (hs : Region.noSelect ops = true) (hf : Region.free md ops listed i = true) (hr : (Region.ready md ops listed).contains i = true)
  (hQ : ∀ c a w, Q (.panic c) (a.put oi.dst v) w → Q (.panic c) a w) (hw : Region.wanted oi (yielded ops a.tmps) = true) (hy : ∀ w, S w → (execOp a.eval oi).run P w = .ok (.value v) w) (hS : S w)
  (h : wpAnyH P md ops Q S fuel (listed.setIfInBounds i true) (a.put oi.dst v) w) : wpAnyH P md ops Q S (fuel + 1) listed a w :=
 wpAnyH_take (at_drop hi) hs hf hr hQ (.inl ⟨hw, hy⟩) hS h
theorem rg_skip (i : Nat) {oi : Oper} {r : List Oper} {fuel : Nat} {listed : Array Bool} {a : Act} {w : World} (hi : ops.toList.drop i = oi :: r)
  (hs : Region.noSelect ops = true) (hf : Region.free md ops listed i = true) (hr : (Region.ready md ops listed).contains i = true)
  (hQ : ∀ c a w, Q (.panic c) (a.put oi.dst undef) w → Q (.panic c) a w) (hw : Region.wanted oi (yielded ops a.tmps) = false) (hS : S w)
  (h : wpAnyH P md ops Q S fuel (listed.setIfInBounds i true) (a.put oi.dst undef) w) : wpAnyH P md ops Q S (fuel + 1) listed a w :=
 wpAnyH_take (at_drop hi) hs hf hr hQ (.inr ⟨hw, rfl⟩) hS h
theorem rg_step (i : Nat) {oi : Oper} {r : List Oper} {fuel : Nat} {listed : Array Bool} {a : Act} {w : World} (hi : ops.toList.drop i = oi :: r) (hr : Region.ready md ops listed = [i])
  (hw : Region.wanted oi (yielded ops a.tmps) = true)
  (h : ∀ K' : Act → World → Prop, Shut (∀ a w, S w → (S w → wpAnyH P md ops Q S fuel (listed.setIfInBounds i true) a w) → K' a w) → Oper.wp P oi a w K' Q) : wpAnyH P md ops Q S (fuel + 1) listed a w :=
 wpAnyH_ready hr (by simp) (AllReadyH.cons (at_drop hi) (fun K hK => by rw [if_pos hw]; exact h K hK) AllReadyH.nil)
end
end Go.Proofs.YtajdohcgjgknmaaGreatDoor

namespace Go.Proofs.YtajdohcgjgknmaaGreatDoor
namespace Globe
theorem ext_iff {a b : List Int} (ha : validL a = true) (hb : validL b = true) (h : ∀ x y, x < 48 → y < 24 → (hasL a x y = true ↔ hasL b x y = true)) : a = b :=
 ext_has ha hb fun x y hx hy => by rw [Bool.eq_iff_iff]; exact h x y hx hy
end Globe
end Go.Proofs.YtajdohcgjgknmaaGreatDoor

namespace Go.Proofs.YtajdohcgjgknmaaGreatDoor
open Go.RowKit
set_option maxHeartbeats 1000000 in
theorem Has_y (b o c : Nat) (l : List Int) (x y : Nat) (w : World) (h : ∀ i, i < 24 → w.cell? ⟨b, o + i, none⟩ = some (.int .i64 (Globe.nth l i))) (hv : Globe.validL l = true) (hx : x < 48) (hy : y < 24) :
  Calls Tryz.prog 20 #[.agg #[.slice (some ⟨b, o, none⟩) 24 c], .agg #[.int .i64 x, .int .i64 y]] w fun e w' => e = .returned (.bool (Globe.hasL l x y)) ∧ Ext w w' := by
 have hR := Globe.rowN_lt hv y
 have hbl := IntsAt.lt h
 have hc : w.cell? ⟨b, o + y, none⟩ = some (.int .i64 (Globe.rowN l y : Nat)) := by rw [← Globe.rowN_cast hv]; exact h y hy
 have H := Lib.hid h; clear h
 have Hv := Lib.hid hv; clear hv
 have hb1 := bit_and1 (Globe.rowN l y) x (by omega)
 rw [Globe.rowN_bit] at hb1
 generalize Globe.rowN l y = R at *
 have hvc : Globe.vcB (x : Int) (y : Int) = true := Globe.vcB_t.2 (by omega)
 have y0 : (0 : Int) ≤ (y : Int) := by omega
 have y1 : (y : Int) < 24 := by omega
 have x0 : (0 : Int) ≤ (x : Int) := by omega
 cases hbit : Globe.hasL l x y
 all_goals
  rw [hbit] at hb1
  simp only [if_true, Bool.false_eq_true, if_false] at hb1
  clear hbit
  go_enter Tryz.func20, Tryz.ntmps20
  go_wp2_with fail
  go_region_held3 (fun w' => Ext w w' ∧ w'.cell? ⟨w.heap.size, 0, none⟩ = some (.slice (some ⟨b, o, none⟩) 24 c) ∧ w'.cell? ⟨w.heap.size + 1, 0, none⟩ = some (.int .i64 x) ∧ w'.cell? ⟨w.heap.size + 1, 1, none⟩ = some (.int .i64 y) ∧ w'.cell? ⟨b, o + y, none⟩ = some (.int .i64 R))
   ((first | ((repeat' (with_reducible apply And.intro)) <;> (first | (with_reducible assumption) | (simp [go_sem]; done) | ((repeat' (first | (with_reducible assumption) | (with_reducible exact Ext.refl _) | (with_reducible refine Ext.alloc ?_ _) | (with_reducible refine Ext.drew ?_) | (with_reducible refine Ext.drewN ?_ _) | (with_reducible refine Ext.setCell ?_ ?_ _) | (with_reducible refine Ext.trans ?_ (by assumption)) | go_size)); done) | (refine Ext.cell ?_ (by with_reducible assumption); (repeat' (first | (with_reducible assumption) | (with_reducible exact Ext.refl _) | (with_reducible refine Ext.alloc ?_ _) | (with_reducible refine Ext.drew ?_) | (with_reducible refine Ext.drewN ?_ _) | (with_reducible refine Ext.setCell ?_ ?_ _) | (with_reducible refine Ext.trans ?_ (by assumption)) | go_size)); done))) | (rcases (show Ext w _ ∧ _ from by with_reducible assumption) with ⟨_, _, _, _, _⟩; (repeat' (with_reducible apply And.intro)) <;> (first | (with_reducible assumption) | ((repeat' (first | (with_reducible assumption) | (with_reducible exact Ext.refl _) | (with_reducible refine Ext.alloc ?_ _) | (with_reducible refine Ext.drew ?_) | (with_reducible refine Ext.drewN ?_ _) | (with_reducible refine Ext.setCell ?_ ?_ _) | (with_reducible refine Ext.trans ?_ (by assumption)) | go_size)); done) | (refine Ext.cell ?_ (by with_reducible assumption); (repeat' (first | (with_reducible assumption) | (with_reducible exact Ext.refl _) | (with_reducible refine Ext.alloc ?_ _) | (with_reducible refine Ext.drew ?_) | (with_reducible refine Ext.drewN ?_ _) | (with_reducible refine Ext.setCell ?_ ?_ _) | (with_reducible refine Ext.trans ?_ (by assumption)) | go_size)); done)))))
   (first | (go_at_call 50; refine (Valid_y _ _ _ _ _ (fun i hi => Ext.cell (And.left (a := Ext w _) (by assumption)) (H.out i hi)) Hv.out).mono ?_; rintro e w1 ⟨rfl, hb⟩) | (go_at_call 72; refine (ValidCell_v _ _ _ (by assumption)).mono ?_; rintro e w1 ⟨rfl, hb⟩))
  go_wp2
  rcases (show Ext w _ ∧ _ from by with_reducible assumption) with ⟨hE, -⟩
  go_ret
  exact ⟨rfl, by (repeat' (first | (with_reducible assumption) | (with_reducible exact Ext.refl _) | (with_reducible refine Ext.alloc ?_ _) | (with_reducible refine Ext.drew ?_) | (with_reducible refine Ext.drewN ?_ _) | (with_reducible refine Ext.setCell ?_ ?_ _) | (with_reducible refine Ext.trans ?_ (by assumption)) | go_size))⟩
set_option maxHeartbeats 1000000 in
theorem Has_n (a : Option Addr) (l : List Int) (n c : Nat) (x y : Int) (w : World) (h : IntsAt w a l) (hn : l.length = n) (hl : n ≤ 140737488355328) (hv : (Globe.validL l && Globe.vcB x y) = false) :
    Calls Tryz.prog 20 #[.agg #[.slice a n c], .agg #[.int .i64 x, .int .i64 y]] w fun e w' => e = .returned (.bool false) ∧ Ext w w' := by
  have H := Lib.hid h; clear h
  have Hn := Lib.hid hn; clear hn
  cases hq : Globe.validL l
  · clear hv
    go_enter Tryz.func20, Tryz.ntmps20
    go_wp2_with fail
    refine wp_region_held_drew (S := fun w' => Ext w w' ∧ w'.cell? ⟨w.heap.size, 0, none⟩ = some (.slice a n c)) (by kernel_rfl) ⟨by (repeat' (first | (with_reducible assumption) | (with_reducible exact Ext.refl _) | (with_reducible refine Ext.alloc ?_ _) | (with_reducible refine Ext.drew ?_) | (with_reducible refine Ext.drewN ?_ _) | (with_reducible refine Ext.setCell ?_ ?_ _) | (with_reducible refine Ext.trans ?_ (by assumption)) | go_size)), by simp [go_sem]⟩ (fun hHeld => ?_)
    (refine rg_take 0 (v := ?_) rfl (by kernel_rfl) (by kernel_rfl) (by kernel_rfl) (fun _ _ _ h => h) (by kernel_rfl) ?_ (by with_reducible assumption) ?_; rotate_left; (focus (intro w hSw; (try dsimp only at hSw); go_simp; (try with_reducible rfl))); (try simp only [Act.put, List.setIfInBounds_toArray, List.set_cons_zero, List.set_cons_succ]))
    (refine rg_step 1 rfl (by kernel_rfl) (by kernel_rfl) (fun K hK => ?_); go_simp; (go_at_call 50; refine (Valid_v _ _ _ _ _ (H.out.ext hHeld.1) Hn.out hl hq).mono ?_; rintro e w1 ⟨rfl, hb⟩); refine hK.out _ _ (⟨hHeld.1.trans hb, hb.cell hHeld.2⟩) (fun hHeld => ?_); clear hK K; (try simp only [Act.put, List.setIfInBounds_toArray, List.set_cons_zero, List.set_cons_succ]))
    (refine rg_take 2 (v := ?_) rfl (by kernel_rfl) (by kernel_rfl) (by kernel_rfl) (fun _ _ _ h => h) (by kernel_rfl) ?_ (by with_reducible assumption) ?_; rotate_left; (focus (intro w hSw; (try dsimp only at hSw); go_simp; (try with_reducible rfl))); (try simp only [Act.put, List.setIfInBounds_toArray, List.set_cons_zero, List.set_cons_succ]))
    (refine rg_skip 3 rfl (by kernel_rfl) (by kernel_rfl) (by kernel_rfl) (fun _ _ _ h => h) (by kernel_rfl) (by with_reducible assumption) ?_; (try simp only [Act.put, List.setIfInBounds_toArray, List.set_cons_zero, List.set_cons_succ]))
    (refine rg_skip 4 rfl (by kernel_rfl) (by kernel_rfl) (by kernel_rfl) (fun _ _ _ h => h) (by kernel_rfl) (by with_reducible assumption) ?_; (try simp only [Act.put, List.setIfInBounds_toArray, List.set_cons_zero, List.set_cons_succ]))
    (refine rg_take 5 (v := ?_) rfl (by kernel_rfl) (by kernel_rfl) (by kernel_rfl) (fun _ _ _ h => h) (by kernel_rfl) ?_ (by with_reducible assumption) ?_; rotate_left; (focus (intro w hSw; (try dsimp only at hSw); go_simp; (try with_reducible rfl))); (try simp only [Act.put, List.setIfInBounds_toArray, List.set_cons_zero, List.set_cons_succ]))
    (refine rg_take 6 (v := ?_) rfl (by kernel_rfl) (by kernel_rfl) (by kernel_rfl) (fun _ _ _ h => h) (by kernel_rfl) ?_ (by with_reducible assumption) ?_; rotate_left; (focus (intro w hSw; (try dsimp only at hSw); go_simp; (try with_reducible rfl))); (try simp only [Act.put, List.setIfInBounds_toArray, List.set_cons_zero, List.set_cons_succ]))
    (refine rg_skip 7 rfl (by kernel_rfl) (by kernel_rfl) (by kernel_rfl) (fun _ _ _ h => h) (by kernel_rfl) (by with_reducible assumption) ?_; (try simp only [Act.put, List.setIfInBounds_toArray, List.set_cons_zero, List.set_cons_succ]))
    (refine rg_skip 8 rfl (by kernel_rfl) (by kernel_rfl) (by kernel_rfl) (fun _ _ _ h => h) (by kernel_rfl) (by with_reducible assumption) ?_; (try simp only [Act.put, List.setIfInBounds_toArray, List.set_cons_zero, List.set_cons_succ]))
    (refine rg_skip 9 rfl (by kernel_rfl) (by kernel_rfl) (by kernel_rfl) (fun _ _ _ h => h) (by kernel_rfl) (by with_reducible assumption) ?_; (try simp only [Act.put, List.setIfInBounds_toArray, List.set_cons_zero, List.set_cons_succ]))
    (refine rg_skip 10 rfl (by kernel_rfl) (by kernel_rfl) (by kernel_rfl) (fun _ _ _ h => h) (by kernel_rfl) (by with_reducible assumption) ?_; (try simp only [Act.put, List.setIfInBounds_toArray, List.set_cons_zero, List.set_cons_succ]))
    (refine rg_skip 11 rfl (by kernel_rfl) (by kernel_rfl) (by kernel_rfl) (fun _ _ _ h => h) (by kernel_rfl) (by with_reducible assumption) ?_; (try simp only [Act.put, List.setIfInBounds_toArray, List.set_cons_zero, List.set_cons_succ]))
    (refine rg_skip 12 rfl (by kernel_rfl) (by kernel_rfl) (by kernel_rfl) (fun _ _ _ h => h) (by kernel_rfl) (by with_reducible assumption) ?_; (try simp only [Act.put, List.setIfInBounds_toArray, List.set_cons_zero, List.set_cons_succ]))
    (refine rg_skip 13 rfl (by kernel_rfl) (by kernel_rfl) (by kernel_rfl) (fun _ _ _ h => h) (by kernel_rfl) (by with_reducible assumption) ?_; (try simp only [Act.put, List.setIfInBounds_toArray, List.set_cons_zero, List.set_cons_succ]))
    (refine rg_skip 14 rfl (by kernel_rfl) (by kernel_rfl) (by kernel_rfl) (fun _ _ _ h => h) (by kernel_rfl) (by with_reducible assumption) ?_; (try simp only [Act.put, List.setIfInBounds_toArray, List.set_cons_zero, List.set_cons_succ]))
    (refine rg_skip 15 rfl (by kernel_rfl) (by kernel_rfl) (by kernel_rfl) (fun _ _ _ h => h) (by kernel_rfl) (by with_reducible assumption) ?_; (try simp only [Act.put, List.setIfInBounds_toArray, List.set_cons_zero, List.set_cons_succ]))
    (refine rg_skip 16 rfl (by kernel_rfl) (by kernel_rfl) (by kernel_rfl) (fun _ _ _ h => h) (by kernel_rfl) (by with_reducible assumption) ?_; (try simp only [Act.put, List.setIfInBounds_toArray, List.set_cons_zero, List.set_cons_succ]))
    (refine rg_skip 17 rfl (by kernel_rfl) (by kernel_rfl) (by kernel_rfl) (fun _ _ _ h => h) (by kernel_rfl) (by with_reducible assumption) ?_; (try simp only [Act.put, List.setIfInBounds_toArray, List.set_cons_zero, List.set_cons_succ]))
    (refine rg_take 18 (v := ?_) rfl (by kernel_rfl) (by kernel_rfl) (by kernel_rfl) (fun _ _ _ h => h) (by kernel_rfl) ?_ (by with_reducible assumption) ?_; rotate_left; (focus (intro w hSw; (try dsimp only at hSw); go_simp; (try with_reducible rfl))); (try simp only [Act.put, List.setIfInBounds_toArray, List.set_cons_zero, List.set_cons_succ]))
    (refine rg_take 19 (v := ?_) rfl (by kernel_rfl) (by kernel_rfl) (by kernel_rfl) (fun _ _ _ h => h) (by kernel_rfl) ?_ (by with_reducible assumption) ?_; rotate_left; (focus (intro w hSw; (try dsimp only at hSw); go_simp; (try with_reducible rfl))); (try simp only [Act.put, List.setIfInBounds_toArray, List.set_cons_zero, List.set_cons_succ]))
    refine wpAnyH_done (by kernel_rfl) ?_ _
    go_wp2
    go_ret
    exact ⟨rfl, hHeld.1⟩
  · rw [hq] at hv
    replace hv : Globe.vcB x y = false := by simpa using hv
    obtain ⟨b, o, rfl, hr⟩ := H.out.rows (Globe.len_of_valid hq)
    go_enter Tryz.func20, Tryz.ntmps20
    go_wp2_with fail
    refine wp_region_held_drew (S := fun w' => Ext w w' ∧ w'.cell? ⟨w.heap.size, 0, none⟩ = some (.slice (some ⟨b, o, none⟩) n c) ∧ w'.cell? ⟨w.heap.size + 1, 0, none⟩ = some (.int .i64 x) ∧ w'.cell? ⟨w.heap.size + 1, 1, none⟩ = some (.int .i64 y)) (by kernel_rfl) ⟨by (repeat' (first | (with_reducible assumption) | (with_reducible exact Ext.refl _) | (with_reducible refine Ext.alloc ?_ _) | (with_reducible refine Ext.drew ?_) | (with_reducible refine Ext.drewN ?_ _) | (with_reducible refine Ext.setCell ?_ ?_ _) | (with_reducible refine Ext.trans ?_ (by assumption)) | go_size)), by simp [go_sem], by simp [go_sem], by simp [go_sem]⟩ (fun hHeld => ?_)
    (refine rg_take 0 (v := ?_) rfl (by kernel_rfl) (by kernel_rfl) (by kernel_rfl) (fun _ _ _ h => h) (by kernel_rfl) ?_ (by with_reducible assumption) ?_; rotate_left; (focus (intro w hSw; (try dsimp only at hSw); go_simp; (try with_reducible rfl))); (try simp only [Act.put, List.setIfInBounds_toArray, List.set_cons_zero, List.set_cons_succ]))
    (refine rg_step 1 rfl (by kernel_rfl) (by kernel_rfl) (fun K hK => ?_); go_simp; (go_at_call 50; refine (Valid_v _ _ _ _ _ (H.out.ext hHeld.1) Hn.out hl hq).mono ?_; rintro e w1 ⟨rfl, hb⟩); refine hK.out _ _ (⟨hHeld.1.trans hb, hb.cell hHeld.2.1, hb.cell hHeld.2.2.1, hb.cell hHeld.2.2.2⟩) (fun hHeld => ?_); clear hK K; (try simp only [Act.put, List.setIfInBounds_toArray, List.set_cons_zero, List.set_cons_succ]))
    (refine rg_take 2 (v := ?_) rfl (by kernel_rfl) (by kernel_rfl) (by kernel_rfl) (fun _ _ _ h => h) (by kernel_rfl) ?_ (by with_reducible assumption) ?_; rotate_left; (focus (intro w hSw; (try dsimp only at hSw); go_simp; (try with_reducible rfl))); (try simp only [Act.put, List.setIfInBounds_toArray, List.set_cons_zero, List.set_cons_succ]))
    (refine rg_take 3 (v := ?_) rfl (by kernel_rfl) (by kernel_rfl) (by kernel_rfl) (fun _ _ _ h => h) (by kernel_rfl) ?_ (by with_reducible assumption) ?_; rotate_left; (focus (intro w hSw; (try dsimp only at hSw); go_simp; (try with_reducible rfl))); (try simp only [Act.put, List.setIfInBounds_toArray, List.set_cons_zero, List.set_cons_succ]))
    (refine rg_step 4 rfl (by kernel_rfl) (by kernel_rfl) (fun K hK => ?_); go_simp; (go_at_call 72; refine (ValidCell_v _ _ _ hv).mono ?_; rintro e w1 ⟨rfl, hb⟩); refine hK.out _ _ (⟨hHeld.1.trans hb, hb.cell hHeld.2.1, hb.cell hHeld.2.2.1, hb.cell hHeld.2.2.2⟩) (fun hHeld => ?_); clear hK K; (try simp only [Act.put, List.setIfInBounds_toArray, List.set_cons_zero, List.set_cons_succ]))
    (refine rg_take 5 (v := ?_) rfl (by kernel_rfl) (by kernel_rfl) (by kernel_rfl) (fun _ _ _ h => h) (by kernel_rfl) ?_ (by with_reducible assumption) ?_; rotate_left; (focus (intro w hSw; (try dsimp only at hSw); go_simp; (try with_reducible rfl))); (try simp only [Act.put, List.setIfInBounds_toArray, List.set_cons_zero, List.set_cons_succ]))
    (refine rg_take 6 (v := ?_) rfl (by kernel_rfl) (by kernel_rfl) (by kernel_rfl) (fun _ _ _ h => h) (by kernel_rfl) ?_ (by with_reducible assumption) ?_; rotate_left; (focus (intro w hSw; (try dsimp only at hSw); go_simp; (try with_reducible rfl))); (try simp only [Act.put, List.setIfInBounds_toArray, List.set_cons_zero, List.set_cons_succ]))
    (refine rg_skip 7 rfl (by kernel_rfl) (by kernel_rfl) (by kernel_rfl) (fun _ _ _ h => h) (by kernel_rfl) (by with_reducible assumption) ?_; (try simp only [Act.put, List.setIfInBounds_toArray, List.set_cons_zero, List.set_cons_succ]))
    (refine rg_skip 8 rfl (by kernel_rfl) (by kernel_rfl) (by kernel_rfl) (fun _ _ _ h => h) (by kernel_rfl) (by with_reducible assumption) ?_; (try simp only [Act.put, List.setIfInBounds_toArray, List.set_cons_zero, List.set_cons_succ]))
    (refine rg_skip 9 rfl (by kernel_rfl) (by kernel_rfl) (by kernel_rfl) (fun _ _ _ h => h) (by kernel_rfl) (by with_reducible assumption) ?_; (try simp only [Act.put, List.setIfInBounds_toArray, List.set_cons_zero, List.set_cons_succ]))
    (refine rg_skip 10 rfl (by kernel_rfl) (by kernel_rfl) (by kernel_rfl) (fun _ _ _ h => h) (by kernel_rfl) (by with_reducible assumption) ?_; (try simp only [Act.put, List.setIfInBounds_toArray, List.set_cons_zero, List.set_cons_succ]))
    (refine rg_skip 11 rfl (by kernel_rfl) (by kernel_rfl) (by kernel_rfl) (fun _ _ _ h => h) (by kernel_rfl) (by with_reducible assumption) ?_; (try simp only [Act.put, List.setIfInBounds_toArray, List.set_cons_zero, List.set_cons_succ]))
    (refine rg_skip 12 rfl (by kernel_rfl) (by kernel_rfl) (by kernel_rfl) (fun _ _ _ h => h) (by kernel_rfl) (by with_reducible assumption) ?_; (try simp only [Act.put, List.setIfInBounds_toArray, List.set_cons_zero, List.set_cons_succ]))
    (refine rg_skip 13 rfl (by kernel_rfl) (by kernel_rfl) (by kernel_rfl) (fun _ _ _ h => h) (by kernel_rfl) (by with_reducible assumption) ?_; (try simp only [Act.put, List.setIfInBounds_toArray, List.set_cons_zero, List.set_cons_succ]))
    (refine rg_skip 14 rfl (by kernel_rfl) (by kernel_rfl) (by kernel_rfl) (fun _ _ _ h => h) (by kernel_rfl) (by with_reducible assumption) ?_; (try simp only [Act.put, List.setIfInBounds_toArray, List.set_cons_zero, List.set_cons_succ]))
    (refine rg_skip 15 rfl (by kernel_rfl) (by kernel_rfl) (by kernel_rfl) (fun _ _ _ h => h) (by kernel_rfl) (by with_reducible assumption) ?_; (try simp only [Act.put, List.setIfInBounds_toArray, List.set_cons_zero, List.set_cons_succ]))
    (refine rg_skip 16 rfl (by kernel_rfl) (by kernel_rfl) (by kernel_rfl) (fun _ _ _ h => h) (by kernel_rfl) (by with_reducible assumption) ?_; (try simp only [Act.put, List.setIfInBounds_toArray, List.set_cons_zero, List.set_cons_succ]))
    (refine rg_skip 17 rfl (by kernel_rfl) (by kernel_rfl) (by kernel_rfl) (fun _ _ _ h => h) (by kernel_rfl) (by with_reducible assumption) ?_; (try simp only [Act.put, List.setIfInBounds_toArray, List.set_cons_zero, List.set_cons_succ]))
    (refine rg_take 18 (v := ?_) rfl (by kernel_rfl) (by kernel_rfl) (by kernel_rfl) (fun _ _ _ h => h) (by kernel_rfl) ?_ (by with_reducible assumption) ?_; rotate_left; (focus (intro w hSw; (try dsimp only at hSw); go_simp; (try with_reducible rfl))); (try simp only [Act.put, List.setIfInBounds_toArray, List.set_cons_zero, List.set_cons_succ]))
    (refine rg_take 19 (v := ?_) rfl (by kernel_rfl) (by kernel_rfl) (by kernel_rfl) (fun _ _ _ h => h) (by kernel_rfl) ?_ (by with_reducible assumption) ?_; rotate_left; (focus (intro w hSw; (try dsimp only at hSw); go_simp; (try with_reducible rfl))); (try simp only [Act.put, List.setIfInBounds_toArray, List.set_cons_zero, List.set_cons_succ]))
    refine wpAnyH_done (by kernel_rfl) ?_ _
    go_wp2
    go_ret
    exact ⟨rfl, hHeld.1⟩
def hasB (l : List Int) (x y : Int) : Bool := Globe.validL l && Globe.vcB x y && Globe.hasL l x.toNat y.toNat
theorem hasB_nat {l : List Int} (h : Globe.validL l = true) {x y : Nat} (hx : x < 48) (hy : y < 24) : hasB l x y = Globe.hasL l x y := by
 unfold hasB; rw [h, Globe.vcB_t.2 (by omega)]; simp
theorem Has_c (a : Option Addr) (l : List Int) (n c : Nat) (x y : Int) (w : World) (h : IntsAt w a l) (hn : l.length = n) (hl : n ≤ 140737488355328) :
    Calls Tryz.prog 20 #[.agg #[.slice a n c], .agg #[.int .i64 x, .int .i64 y]] w fun e w' => e = .returned (.bool (hasB l x y)) ∧ Ext w w' := by
  cases hq : Globe.validL l && Globe.vcB x y
  · have := Has_n a l n c x y w h hn hl hq
    unfold hasB; rw [hq]; exact this
  · obtain ⟨hv, hc⟩ := Bool.and_eq_true_iff.1 hq
    obtain ⟨h0, h1, h2, h3⟩ := Globe.vcB_t.1 hc
    have hn2 := Globe.len_of_valid hv
    obtain ⟨b, o, rfl, hr⟩ := h.rows hn2
    obtain rfl : n = 24 := by omega
    have := Has_y b o c l x.toNat y.toNat w hr hv (by omega) (by omega)
    rw [Int.toNat_of_nonneg h0, Int.toNat_of_nonneg h2] at this
    unfold hasB; rw [hq]; exact this
end Go.Proofs.YtajdohcgjgknmaaGreatDoor

namespace Go.Proofs.YtajdohcgjgknmaaGreatDoor
set_option maxRecDepth 1000000
set_option maxHeartbeats 4000000
set_option synthInstance.maxHeartbeats 0
set_option synthInstance.maxSize 9999
open Go.RowKit
theorem Prod.find_next {l : List Prod.Pc} {i : Nat} {p : Prod.Pc} {q : Prod.Pc → Bool} (h : (l.take i).find? q = none) (hp : l[i]? = some p) (hn : q p = false) : (l.take (i + 1)).find? q = none := by
 rw [List.take_add_one, hp, List.find?_append, h]; simp [hn]
theorem Prod.find_found {l : List Prod.Pc} {i : Nat} {p : Prod.Pc} {q : Prod.Pc → Bool} (h : (l.take i).find? q = none) (hp : l[i]? = some p) (hy : q p = true) : l.find? q = some p := by
 have e : l = l.take i ++ (p :: l.drop (i + 1)) := by
  obtain ⟨hi, rfl⟩ := List.getElem?_eq_some_iff.1 hp
  rw [← List.drop_eq_getElem_cons hi, List.take_append_drop]
 rw [e, List.find?_append, h]; simp [hy]
theorem Has_q {a : Option Addr} {l : List Int} {n : Nat} {b r : Bool} (c : Nat) {x y : Int} {w0 : World} (w : World) (h : AA w0 a l n b) (hE : Ext w0 w) (hr : hasB l x y = r) : Calls Tryz.prog 20 #[.agg #[.slice a n c], .agg #[.int .i64 x, .int .i64 y]] w fun e w' => e = .returned (.bool r) ∧ Ext w w' := hr ▸ Has_c a l n c x y w (h.1.ext hE) h.2.1 h.2.2.1
theorem giving1_c {x : Prod.Pc} {a : Option Addr} {k c B : Nat} {u v : Int} {w0 : World} (w : World) (hA : AA w0 a x.rw k (Globe.validL x.rw)) (e0 : Ext w0 w) (cB : w.cell? ⟨B, 0, none⟩ = some (iv u)) (cB1 : w.cell? ⟨B, 1, none⟩ = some (iv v)) : Calls Tryz.prog 111 #[.agg #[iv x.im, iv x.t, .bool x.cl, .slice a k c], pw B 0] w fun e w' => e = .returned (.bool (hasB x.rw u v)) ∧ Ext w w' := by
 replace hA := hA.ext e0;refine calls_cw 8 [(1, pw B 0), (0, .agg #[iv x.im, iv x.t, .bool x.cl, .slice a k c])] Tryz.func111 rfl Tryz.ntmps111 (by kernel_rfl) (by kernel_rfl) (fun L => ?_);have hE := Ext.refl w;refine zc (zp (pS (sw 49 #[iv x.im, iv x.t, .bool x.cl, .slice a k c] ?_)));intro O1 X2 hzO1 hyO1 hb hbx;have ⟨bO1_0, bO1_1, bO1_2, bO1_3⟩ := bq4 hbx;replace hE := hE.trans hb;have hs3 := hb.size;have lt4 := bO1_0.lt;refine pT (.bool false) ?_;refine pl_nil (qw_then ?_);refine cw_seq ?_;have hX5 := Ext.refl X2;refine zp (pT (pw O1 3) ?_);refine pU (.agg #[.slice a k c]) (xl (ld33 (bO1_3.1))) ?_;refine pU (.agg #[iv u, iv v]) (xl (ld65 ((hE.cell cB)) ((hE.cell cB1)))) ?_;rcases Bool.eq_false_or_eq_true (hasB x.rw u v) with hb6 | hb6
 ·
  refine pS (sc 20 #[.agg #[.slice a k c], .agg #[iv u, iv v]] ((Has_q (r := true) _ _ (hA) hE hb6).mono ?_));rintro e w7 ⟨rfl, hb⟩;replace hE := hE.trans hb;have hs8 := hb.size;refine ⟨_, rfl, pT (.bool true) ?_⟩;refine zn (cw_ret (qw_ret [.bool true] rfl ⟨(by kernel_rfl), trivial⟩ ?_));exact ⟨rb (hb6).symm, hE⟩
 ·
  refine pS (sc 20 #[.agg #[.slice a k c], .agg #[iv u, iv v]] ((Has_q (r := false) _ _ (hA) hE hb6).mono ?_));rintro e w9 ⟨rfl, hb⟩;replace hE := hE.trans hb;have hs10 := hb.size;refine ⟨_, rfl, pT (.bool false) ?_⟩;refine zn (cw_ret (qw_ret [.bool false] rfl ⟨(by kernel_rfl), trivial⟩ ?_));exact ⟨rb (hb6).symm, hE⟩
theorem giving1_r {x : Prod.Pc} {a : Option Addr} {k c B : Nat} {u v : Int} {w0 : World} {r f : Bool} (w : World) (hA : AA w0 a x.rw k f) (e0 : Ext w0 w) (cB : w.cell? ⟨B, 0, none⟩ = some (.int .i64 u)) (cB1 : w.cell? ⟨B, 1, none⟩ = some (.int .i64 v)) (hr : hasB x.rw u v = r) : Calls Tryz.prog 111 #[.agg #[.int .i64 x.im, .int .i64 x.t, .bool x.cl, .slice a k c], .pointer (some ⟨B, 0, none⟩)] w fun e w' => e = .returned (.bool r) ∧ Ext w w' := hr ▸ giving1_c w (aa_q hA) e0 cB cB1
theorem IndexG_c {w0 w1 : World} {a : Option Addr} {n : Nat} {l : List Prod.Pc} {B : Nat} {u v : Int} (c : Nat) (w : World) (h : PcsAt w0 a n l) (e0 : Ext w0 w) (cB : w1.cell? ⟨B, 0, none⟩ = some (iv u)) (cB1 : w1.cell? ⟨B, 1, none⟩ = some (iv v)) (e1 : Ext w1 w) : Calls Tryz.prog 104 #[.slice a n c, .func (.func 111) #[] #[pw B 0]] w fun e w' => ∃ z : Int, e = .returned (iv z) ∧ ((z = -1 ∧ l.find? (fun p => hasB p.rw u v) = none) ∨ ∃ (i : Nat) (p : Prod.Pc), z = (i : Int) ∧ i < n ∧ l[i]? = some p ∧ l.find? (fun p => hasB p.rw u v) = some p) ∧ Ext w w' := by
 replace cB := e1.cell cB;replace cB1 := e1.cell cB1;replace h := h.ext e0;have hnb := h.max;have hln := h.len;clear e0 e1;refine calls_cw 19 [(1, .func (.func 111) #[] #[pw B 0]), (0, .slice a n c)] Tryz.func104 rfl Tryz.ntmps104 (by kernel_rfl) (by kernel_rfl) (fun L => ?_);have hE := Ext.refl w;refine zc (zp (pT (iv 0) ?_));refine zn (zc (zc (zp (pD (.slice a n c) (iv n) ?_))));refine pT (iv 0) ?_;refine zn (cw_block ?_);refine cw_loop [0, 1, 7, 8] (fun ws' wr m => ∃ i : Nat, ws' = [(0, .slice a n c), (1, .func (.func 111) #[] #[pw B 0]), (7, iv n), (8, iv i)] ∧ m = n - i ∧ w.heap.size ≤ wr.heap.size ∧ Ext w wr ∧ i ≤ n ∧ (l.take i).find? (fun p => hasB p.rw u v) = none) (ws0 := [(0, .slice a n c), (1, .func (.func 111) #[] #[pw B 0]), (7, iv n), (8, iv 0)]) (by kernel_rfl) _ ⟨0, rfl, rfl, Nat.le_refl _, hE, by omega, rfl⟩ ?_;clear hE;rintro m3 L ws w2 ⟨i, rfl, rfl, Bj, hE, hi, hno⟩
 by_cases hlt : i < n
 ·
  obtain ⟨b4, o5, p, Bb, k7, c8, rfl, Bi, Bc, Be, Bf, Bg, Ba⟩ := h.at hlt;refine zc (zp (pU (.bool true) (ed (((i : Nat) : Int) < ((n : Nat) : Int)) (by omega)) ?_));refine zn (zc (zt ?_));refine cw_skip (zq (zc (cw_block ?_)));refine zc (zp (pD (iv i) (iv i) ?_));refine zn (zc (zp (pD (.func (.func 111) #[] #[pw B 0]) (sv b4 o5 n c) ?_)));refine pT (iv i) ?_;refine pU (pw b4 (o5 + i * 4)) (xi (sv b4 o5 n c) (iv i) (ix30 (k := i) (by omega))) ?_;refine pU (.agg #[iv p.im, iv p.t, .bool p.cl, .slice Bb k7 c8]) (xl (ld49 ((hE.cell Bc)) ((hE.cell Be)) ((hE.cell Bf)) ((hE.cell Bg)))) ?_;rcases Bool.eq_false_or_eq_true (hasB p.rw u v) with B7 | B7
  ·
   refine pS (sc 111 #[.agg #[iv p.im, iv p.t, .bool p.cl, .slice Bb k7 c8], pw B 0] ((giving1_r (x := p) (r := true) _ (Ba) hE ((hE.cell cB)) ((hE.cell cB1)) B7).mono ?_));rintro e Bm ⟨rfl, hb⟩;replace hE := hE.trans hb;have Bk := hb.size;refine ⟨_, rfl, ?_⟩;refine zn (zt ?_);refine zc (zp (pD (iv i) (iv i) ?_));refine zn (cK [4] (fun L => ?_));refine cw_ret (qw_block_ret (qw_then_ret (qw_then_ret (qw_block_ret (qw_then_ret (qw_ret [iv i] rfl ⟨(by kernel_rfl), trivial⟩ ?_))))));exact ⟨_, rfl, .inr ⟨i, p, rfl, hlt, Bi, Prod.find_found hno Bi B7⟩, hE⟩
  ·
   refine pS (sc 111 #[.agg #[iv p.im, iv p.t, .bool p.cl, .slice Bb k7 c8], pw B 0] ((giving1_r (x := p) (r := false) _ (Ba) hE ((hE.cell cB)) ((hE.cell cB1)) B7).mono ?_));rintro e Bp ⟨rfl, hb⟩;replace hE := hE.trans hb;have Bh := hb.size;refine ⟨_, rfl, ?_⟩;refine zn (zf ?_);refine cw_skip (qw_block (zq (zp (pU (iv ((i + 1 : Nat) : Int)) (ew (by omega) (by omega)) ?_))));refine pT (iv ((i + 1 : Nat) : Int)) ?_;refine pl_nil (zr [0, 1, 7, 8] _ ?_ ⟨(i + 1), rfl, rfl, (T Bj Bh), hE, by omega, Prod.find_next hno Bi B7⟩);omega
 ·
  have hin : i = n := by omega
  refine zc (zp (pU (.bool false) (en (((i : Nat) : Int) < ((n : Nat) : Int)) (by omega)) ?_));refine zn (zc (zf ?_));refine cw_exit (qw_then_exit (qw_then_exit (qw_block_out (zq (zc (zp (pT (iv (-1 : Int)) ?_)))))));refine zn (cw_ret (qw_ret [iv (-1 : Int)] rfl ⟨(by kernel_rfl), trivial⟩ ?_));exact ⟨_, rfl, .inl ⟨rfl, by rw [hin, List.take_of_length_le (Nat.le_of_eq hln)] at hno; exact hno⟩, hE⟩
theorem IndexG_y {w0 w1 : World} {a : Option Addr} {n : Nat} {l : List Prod.Pc} {B : Nat} {u v : Int} {p : Prod.Pc} (c : Nat) (w : World) (h : PcsAt w0 a n l) (e0 : Ext w0 w) (cB : w1.cell? ⟨B, 0, none⟩ = some (.int .i64 u)) (cB1 : w1.cell? ⟨B, 1, none⟩ = some (.int .i64 v)) (e1 : Ext w1 w) (hf : l.find? (fun p => hasB p.rw u v) = some p) : Calls Tryz.prog 104 #[.slice a n c, .func (.func 111) #[] #[.pointer (some ⟨B, 0, none⟩)]] w fun e w' => ∃ i : Nat, e = .returned (.int .i64 i) ∧ i < n ∧ l[i]? = some p ∧ Ext w w' :=
 (IndexG_c c w h e0 cB cB1 e1).mono fun _ _ ⟨z, he, hz, hE⟩ => by
  rcases hz with ⟨_, q⟩ | ⟨i, q, rfl, h1, h2, h3⟩
  · rw [hf] at q; cases q
  · rw [hf] at h3; cases h3; exact ⟨i, he, h1, h2, hE⟩
theorem IndexG_n {w0 w1 : World} {a : Option Addr} {n : Nat} {l : List Prod.Pc} {B : Nat} {u v : Int} (c : Nat) (w : World) (h : PcsAt w0 a n l) (e0 : Ext w0 w) (cB : w1.cell? ⟨B, 0, none⟩ = some (.int .i64 u)) (cB1 : w1.cell? ⟨B, 1, none⟩ = some (.int .i64 v)) (e1 : Ext w1 w) (hf : l.find? (fun p => hasB p.rw u v) = none) : Calls Tryz.prog 104 #[.slice a n c, .func (.func 111) #[] #[.pointer (some ⟨B, 0, none⟩)]] w fun e w' => e = .returned (.int .i64 (-1)) ∧ Ext w w' :=
 (IndexG_c c w h e0 cB cB1 e1).mono fun _ _ ⟨z, he, hz, hE⟩ => by
  rcases hz with ⟨rfl, _⟩ | ⟨i, q, rfl, h1, h2, h3⟩
  · exact ⟨he, hE⟩
  · rw [hf] at h3; cases h3
theorem giving_y {w1 w2 : World} {id ver : Int} {ar : List Int} {ps : List Prod.Pc} {a1 a : Option Addr} {n1 n : Nat} (c1 : Nat) {c : Nat} {u v : Int} {p : Prod.Pc} (w : World) (_hnc : n ≤ c) (_hA : AA w1 a1 ar n1 (Globe.validL ar)) (_e1 : Ext w1 w) (hP : PcsAt w2 a n ps) (e2 : Ext w2 w) (_hT : Tab w) (hf : ps.find? (fun p => hasB p.rw u v) = some p) : Calls Tryz.prog 71 #[.agg #[iv id, iv ver, .slice a1 n1 c1, .slice a n c], .agg #[iv u, iv v]] w fun e w' => ∃ (ar : Option Addr) (k c : Nat), e = .returned (.tuple #[.agg #[iv p.im, iv p.t, .bool p.cl, .slice ar k c], .bool true]) ∧ AA w' ar p.rw k (Globe.validL p.rw) ∧ Ext w w' := by
 replace hP := hP.ext e2;have hnb := hP.max;have hln := hP.len;clear _e1 e2;refine calls_cw 19 [(1, .agg #[iv u, iv v]), (0, .agg #[iv id, iv ver, .slice a1 n1 c1, .slice a n c])] Tryz.func71 rfl Tryz.ntmps71 (by kernel_rfl) (by kernel_rfl) (fun L => ?_);have hE := Ext.refl w;refine zc (zp (pS (sw 53 #[iv id, iv ver, .slice a1 n1 c1, .slice a n c] ?_)));intro O1 X2 Cf Cc hb hbx;have ⟨Ba, Bc, Be, B7⟩ := bq4 hbx;replace hE := hE.trans hb;have Cb := hb.size;have Ci := Ba.lt;refine pS (sw 65 #[iv u, iv v] ?_);intro O5 X6 Cg Cd hb hbx;have ⟨Bf, Bj⟩ := bq2 hbx;refine mv2 hb hE B7 fun hE B7=>?_;have C1 := hb.size;have Cj := Bf.lt;refine pS (sw 49 #[iv 0, iv 0, .bool false, .slice none 0 0] ?_);intro O9 Cl Bm Ce hb hbx;have ⟨Bb, Bg, Bh, Bi⟩ := bq4 hbx;refine mv4 hb hE B7 Bf Bj fun hE B7 Bf Bj=>?_;have C8 := hb.size;have Ch := Bb.lt;refine pT (.bool false) ?_;refine zn (zc (zp (pT (pw O1 3) ?_)));refine pU (.slice a n c) (xl (ld30 (B7.1))) ?_;refine pT (.func (.func 111) #[] #[pw O5 0]) ?_;refine pS (sc 104 #[.slice a n c, .func (.func 111) #[] #[pw O5 0]] ((IndexG_y _ _ (hP) hE (Bf.1) (Bj.1) (Ext.refl _) hf).mono ?_));rintro e Ck ⟨i, rfl, hin, hix, hb⟩;refine mv6 hb hE B7 Bb Bg Bh Bi fun hE B7 Bb Bg Bh Bi=>?_;have C9 := hb.size;refine ⟨_, rfl, pT (iv i) ?_⟩;refine zn (zc (zc (zp (pT (iv i) ?_))));refine pU (.bool false) (en (((i : Nat) : Int) < (0 : Int)) (by omega)) ?_;refine zn (zf ?_);refine cw_skip (zq (cw_seq ?_));obtain ⟨Br, C0, p0, Bk, Bq, Bp, rfl, Bz, Bu, Bv, Bw, Bx, Bt⟩ := hP.at hin;obtain rfl : p0 = p := Option.some.inj (Bz.symm.trans hix);refine zp (pT (pw O1 3) ?_);refine pU (sv Br C0 n c) (xl (ld30 (B7.1))) ?_;refine pT (iv i) ?_;refine pU (pw Br (C0 + i * 4)) (xi (sv Br C0 n c) (iv i) (ix30 (k := i) (by omega))) ?_;refine pU (.agg #[iv p0.im, iv p0.t, .bool p0.cl, .slice Bk Bq Bp]) (xl (ld49 ((hE.cell Bu)) ((hE.cell Bv)) ((hE.cell Bw)) ((hE.cell Bx)))) ?_;refine pP (zG O9 (iv p0.im) (iv p0.t) (.bool p0.cl) (.slice Bk Bq Bp) (st49 Bb.1 Bb.2 Bg.1 Bg.2 Bh.1 Bh.2 Bi.1 Bi.2) Bb Bg Bh Bi ?_);intro C6 ho Bb Bg Bh Bi hk;replace hE := ho.ext hE (T (T Cb C1) (Nat.le_of_eq Bm));have q9 := ho.bx O1 (Nat.ne_of_gt (Nat.lt_of_lt_of_le Ci (T C1 (Nat.le_of_eq Bm))));clear q9;have q9 := ho.bx O5 (Nat.ne_of_gt (Nat.lt_of_lt_of_le Cj (Nat.le_of_eq Bm)));clear q9;have Ca := Nat.le_of_eq ho.size.symm;clear ho hk;refine pT (.bool true) ?_;refine zn (cK [4,5] (fun L => ?_));refine cw_ret (qw_ret [.agg #[iv p0.im, iv p0.t, .bool p0.cl, .slice Bk Bq Bp], .bool true] rfl ⟨⟨_, by kernel_rfl, res_ld (ld49 (Bb.1) (Bg.1) (Bh.1) (Bi.1))⟩, (by kernel_rfl), trivial⟩ ?_);exact ⟨_, _, _, rfl, (Bt).ext hE, hE⟩
theorem giving_n {w1 w2 : World} {id ver : Int} {ar : List Int} {ps : List Prod.Pc} {a1 a : Option Addr} {n1 n : Nat} (c1 : Nat) {c : Nat} {u v : Int} (w : World) (_hnc : n ≤ c) (_hA : AA w1 a1 ar n1 (Globe.validL ar)) (_e1 : Ext w1 w) (hP : PcsAt w2 a n ps) (e2 : Ext w2 w) (_hT : Tab w) (hf : ps.find? (fun p => hasB p.rw u v) = none) : Calls Tryz.prog 71 #[.agg #[iv id, iv ver, .slice a1 n1 c1, .slice a n c], .agg #[iv u, iv v]] w fun e w' => e = .returned (.tuple #[.agg #[iv 0, iv 0, .bool false, .slice none 0 0], .bool false]) ∧ Ext w w' := by
 replace hP := hP.ext e2;have hnb := hP.max;have hln := hP.len;clear _e1 e2;refine calls_cw 19 [(1, .agg #[iv u, iv v]), (0, .agg #[iv id, iv ver, .slice a1 n1 c1, .slice a n c])] Tryz.func71 rfl Tryz.ntmps71 (by kernel_rfl) (by kernel_rfl) (fun L => ?_);have hE := Ext.refl w;refine zc (zp (pS (sw 53 #[iv id, iv ver, .slice a1 n1 c1, .slice a n c] ?_)));intro O1 X2 C3 C0 hb hbx;have ⟨B7, Bc, Be, Ba⟩ := bq4 hbx;replace hE := hE.trans hb;have Bz := hb.size;have C6 := B7.lt;refine pS (sw 65 #[iv u, iv v] ?_);intro O5 X6 C4 C1 hb hbx;have ⟨Bf, Bj⟩ := bq2 hbx;refine mv2 hb hE Ba fun hE Ba=>?_;have Bm := hb.size;have C8 := Bf.lt;refine pS (sw 49 #[iv 0, iv 0, .bool false, .slice none 0 0] ?_);intro O9 Ca Bk C2 hb hbx;have ⟨Bb, Bg, Bh, Bi⟩ := bq4 hbx;refine mv4 hb hE Ba Bf Bj fun hE Ba Bf Bj=>?_;have Bv := hb.size;have C5 := Bb.lt;refine pT (.bool false) ?_;refine zn (zc (zp (pT (pw O1 3) ?_)));refine pU (.slice a n c) (xl (ld30 (Ba.1))) ?_;refine pT (.func (.func 111) #[] #[pw O5 0]) ?_;refine pS (sc 104 #[.slice a n c, .func (.func 111) #[] #[pw O5 0]] ((IndexG_n _ _ (hP) hE (Bf.1) (Bj.1) (Ext.refl _) hf).mono ?_));rintro e C9 ⟨rfl, hb⟩;refine mv5 hb hE Bb Bg Bh Bi fun hE Bb Bg Bh Bi=>?_;have Bw := hb.size;refine ⟨_, rfl, pT (iv (-1 : Int)) ?_⟩;refine zn (zc (zc (zp (pD (iv (-1 : Int)) (.bool true) ?_))));refine zn (zt ?_);refine zc (zp (pT (.agg #[iv 0, iv 0, .bool false, .slice none 0 0]) ?_));refine pP (zG O9 (iv 0) (iv 0) (.bool false) (.slice none 0 0) (st49 Bb.1 Bb.2 Bg.1 Bg.2 Bh.1 Bh.2 Bi.1 Bi.2) Bb Bg Bh Bi ?_);intro Bu ho Bb Bg Bh Bi hk;replace hE := ho.ext hE (T (T Bz Bm) (Nat.le_of_eq Bk));have q9 := ho.bx O1 (Nat.ne_of_gt (Nat.lt_of_lt_of_le C6 (T Bm (Nat.le_of_eq Bk))));clear q9;have q9 := ho.bx O5 (Nat.ne_of_gt (Nat.lt_of_lt_of_le C8 (Nat.le_of_eq Bk)));clear q9;have Bx := Nat.le_of_eq ho.size.symm;clear ho hk;refine pT (.bool false) ?_;refine zn (cw_ret (qw_then_ret (qw_ret [.agg #[iv 0, iv 0, .bool false, .slice none 0 0], .bool false] rfl ⟨⟨_, by kernel_rfl, res_ld (ld49 (Bb.1) (Bg.1) (Bh.1) (Bi.1))⟩, (by kernel_rfl), trivial⟩ ?_)));exact ⟨rfl, hE⟩
theorem From_y {w1 w2 : World} {id ver : Int} {ar : List Int} {ps : List Prod.Pc} {a1 a : Option Addr} {n1 n : Nat} (c1 : Nat) {c : Nat} {u v : Int} {p : Prod.Pc} (w : World) (hnc : n ≤ c) (hA : AA w1 a1 ar n1 (Globe.validL ar)) (e1 : Ext w1 w) (hP : PcsAt w2 a n ps) (e2 : Ext w2 w) (hT : Tab w) (hv : Prod.validP id ver ar ps = true) (hf : ps.find? (fun p => hasB p.rw u v) = some p) : Calls Tryz.prog 19 #[.agg #[iv id, iv ver, .slice a1 n1 c1, .slice a n c], .agg #[iv u, iv v]] w fun e w' => e = .returned (.tuple #[iv p.im, .bool true]) ∧ Ext w w' := by
 replace hA := hA.ext e1;replace hP := hP.ext e2;have hnb := hP.max;have hln := hP.len;clear e1 e2;refine calls_cw 20 [(1, .agg #[iv u, iv v]), (0, .agg #[iv id, iv ver, .slice a1 n1 c1, .slice a n c])] Tryz.func19 rfl Tryz.ntmps19 (by kernel_rfl) (by kernel_rfl) (fun L => ?_);have hE := Ext.refl w;refine zc (zp (pS (sw 53 #[iv id, iv ver, .slice a1 n1 c1, .slice a n c] ?_)));intro O1 X2 Cb C9 hb hbx;have ⟨B7, Ba, Bb, Bc⟩ := bq4 hbx;replace hE := hE.trans hb;have C8 := hb.size;have Ce := B7.lt;refine pS (sw 65 #[iv u, iv v] ?_);intro O5 X6 Cc Ca hb hbx;have ⟨Be, Bg⟩ := bq2 hbx;refine mv5 hb hE B7 Ba Bb Bc fun hE B7 Ba Bb Bc=>?_;have Bv := hb.size;have Cf := Be.lt;refine pD (iv 0) (.bool false) ?_;refine zn (zc (zc (zp (pU (.agg #[iv id, iv ver, .slice a1 n1 c1, .slice a n c]) (xl (ld53 (B7.1) (Ba.1) (Bb.1) (Bc.1))) ?_))));refine pS (sc 28 #[.agg #[iv id, iv ver, .slice a1 n1 c1, .slice a n c]] ((pValid_r (id := id) (ver := ver) (r := true) _ _ (by omega) (aa_q (hA)) hE (hP) hE (hT.ext hE) hv).mono ?_));rintro e w9 ⟨rfl, hb⟩;refine mv7 hb hE B7 Ba Bb Bc Be Bg fun hE B7 Ba Bb Bc Be Bg=>?_;have Bp := hb.size;refine ⟨_, rfl, pT (.bool false) ?_⟩;refine zn (zf ?_);refine cw_skip (zq (zc (zp (pU (.agg #[iv id, iv ver, .slice a1 n1 c1, .slice a n c]) (xl (ld53 (B7.1) (Ba.1) (Bb.1) (Bc.1))) ?_))));refine pU (.agg #[iv u, iv v]) (xl (ld65 (Be.1) (Bg.1))) ?_;refine pS (sc 71 #[.agg #[iv id, iv ver, .slice a1 n1 c1, .slice a n c], .agg #[iv u, iv v]] ((giving_y (id := id) (ver := ver) _ _ (by omega) (aa_q (hA)) hE (hP) hE (hT.ext hE) hf).mono ?_));rintro e Cg ⟨Bm, Bt, Br, rfl, C4, hb⟩;replace hE := hE.trans hb;have Bq := hb.size;refine ⟨_, rfl, pD (.tuple #[.agg #[iv p.im, iv p.t, .bool p.cl, .slice Bm Bt Br], .bool true]) (.agg #[iv p.im, iv p.t, .bool p.cl, .slice Bm Bt Br]) ?_⟩;refine pT (.bool true) ?_;refine pS (sw 49 #[iv 0, iv 0, .bool false, .slice none 0 0] ?_);intro Bu C2 Bk C1 hb hbx;have ⟨Bf, Bh, Bi, Bj⟩ := bq4 hbx;replace hE := hE.trans hb;have C5 := hb.size;have Cd := Bf.lt;refine pP (zG Bu (iv p.im) (iv p.t) (.bool p.cl) (.slice Bm Bt Br) (st49 Bf.1 Bf.2 Bh.1 Bh.2 Bi.1 Bi.2 Bj.1 Bj.2) Bf Bh Bi Bj ?_);intro C3 ho Bf Bh Bi Bj hk;replace hE := ho.ext hE (T (T C8 (T Bv (T Bp Bq))) (Nat.le_of_eq Bk));have q9 := ho.bx O1 (Nat.ne_of_gt (Nat.lt_of_lt_of_le Ce (T (T Bv (T Bp Bq)) (Nat.le_of_eq Bk))));clear q9;have q9 := ho.bx O5 (Nat.ne_of_gt (Nat.lt_of_lt_of_le Cf (T (T Bp Bq) (Nat.le_of_eq Bk))));clear q9;have C6 := Nat.le_of_eq ho.size.symm;clear ho hk;refine pT (.bool true) ?_;refine zn (cK [6,7] (fun L => ?_));refine zc (zp (pT (pw Bu 0) ?_));refine pU (iv p.im) (xl (ld3 (Bf.1))) ?_;refine pD (.bool true) (iv p.im) ?_;refine pT (.bool true) ?_;refine zn (cw_ret (qw_ret [iv p.im, .bool true] rfl ⟨(by kernel_rfl), (by kernel_rfl), trivial⟩ ?_));exact ⟨rfl, hE⟩
theorem From_n {w1 w2 : World} {id ver : Int} {ar : List Int} {ps : List Prod.Pc} {a1 a : Option Addr} {n1 n : Nat} (c1 : Nat) {c : Nat} {u v : Int} (w : World) (hnc : n ≤ c) (hA : AA w1 a1 ar n1 (Globe.validL ar)) (e1 : Ext w1 w) (hP : PcsAt w2 a n ps) (e2 : Ext w2 w) (hT : Tab w) (hv : Prod.validP id ver ar ps = true) (hf : ps.find? (fun p => hasB p.rw u v) = none) : Calls Tryz.prog 19 #[.agg #[iv id, iv ver, .slice a1 n1 c1, .slice a n c], .agg #[iv u, iv v]] w fun e w' => e = .returned (.tuple #[iv 0, .bool false]) ∧ Ext w w' := by
 replace hA := hA.ext e1;replace hP := hP.ext e2;have hnb := hP.max;have hln := hP.len;clear e1 e2;refine calls_cw 20 [(1, .agg #[iv u, iv v]), (0, .agg #[iv id, iv ver, .slice a1 n1 c1, .slice a n c])] Tryz.func19 rfl Tryz.ntmps19 (by kernel_rfl) (by kernel_rfl) (fun L => ?_);have hE := Ext.refl w;refine zc (zp (pS (sw 53 #[iv id, iv ver, .slice a1 n1 c1, .slice a n c] ?_)));intro O1 X2 C6 C4 hb hbx;have ⟨B7, Ba, Bb, Bc⟩ := bq4 hbx;replace hE := hE.trans hb;have C3 := hb.size;have Ca := B7.lt;refine pS (sw 65 #[iv u, iv v] ?_);intro O5 X6 C8 C5 hb hbx;have ⟨Be, Bg⟩ := bq2 hbx;refine mv5 hb hE B7 Ba Bb Bc fun hE B7 Ba Bb Bc=>?_;have Br := hb.size;have Cb := Be.lt;refine pD (iv 0) (.bool false) ?_;refine zn (zc (zc (zp (pU (.agg #[iv id, iv ver, .slice a1 n1 c1, .slice a n c]) (xl (ld53 (B7.1) (Ba.1) (Bb.1) (Bc.1))) ?_))));refine pS (sc 28 #[.agg #[iv id, iv ver, .slice a1 n1 c1, .slice a n c]] ((pValid_r (id := id) (ver := ver) (r := true) _ _ (by omega) (aa_q (hA)) hE (hP) hE (hT.ext hE) hv).mono ?_));rintro e w9 ⟨rfl, hb⟩;refine mv7 hb hE B7 Ba Bb Bc Be Bg fun hE B7 Ba Bb Bc Be Bg=>?_;have Bm := hb.size;refine ⟨_, rfl, pT (.bool false) ?_⟩;refine zn (zf ?_);refine cw_skip (zq (zc (zp (pU (.agg #[iv id, iv ver, .slice a1 n1 c1, .slice a n c]) (xl (ld53 (B7.1) (Ba.1) (Bb.1) (Bc.1))) ?_))));refine pU (.agg #[iv u, iv v]) (xl (ld65 (Be.1) (Bg.1))) ?_;refine pS (sc 71 #[.agg #[iv id, iv ver, .slice a1 n1 c1, .slice a n c], .agg #[iv u, iv v]] ((giving_n (id := id) (ver := ver) _ _ (by omega) (aa_q (hA)) hE (hP) hE (hT.ext hE) hf).mono ?_));rintro e Cc ⟨rfl, hb⟩;replace hE := hE.trans hb;have Bp := hb.size;refine ⟨_, rfl, pD (.tuple #[.agg #[iv 0, iv 0, .bool false, .slice none 0 0], .bool false]) (.agg #[iv 0, iv 0, .bool false, .slice none 0 0]) ?_⟩;refine pT (.bool false) ?_;refine pS (sw 49 #[iv 0, iv 0, .bool false, .slice none 0 0] ?_);intro Bq Bz Bk Bx hb hbx;have ⟨Bf, Bh, Bi, Bj⟩ := bq4 hbx;replace hE := hE.trans hb;have C1 := hb.size;have C9 := Bf.lt;refine pP (zG Bq (iv 0) (iv 0) (.bool false) (.slice none 0 0) (st49 Bf.1 Bf.2 Bh.1 Bh.2 Bi.1 Bi.2 Bj.1 Bj.2) Bf Bh Bi Bj ?_);intro C0 ho Bf Bh Bi Bj hk;replace hE := ho.ext hE (T (T C3 (T Br (T Bm Bp))) (Nat.le_of_eq Bk));have q9 := ho.bx O1 (Nat.ne_of_gt (Nat.lt_of_lt_of_le Ca (T (T Br (T Bm Bp)) (Nat.le_of_eq Bk))));clear q9;have q9 := ho.bx O5 (Nat.ne_of_gt (Nat.lt_of_lt_of_le Cb (T (T Bm Bp) (Nat.le_of_eq Bk))));clear q9;have C2 := Nat.le_of_eq ho.size.symm;clear ho hk;refine pT (.bool false) ?_;refine zn (cK [6,7] (fun L => ?_));refine zc (zp (pT (pw Bq 0) ?_));refine pU (iv 0) (xl (ld3 (Bf.1))) ?_;refine pD (.bool false) (iv 0) ?_;refine pT (.bool false) ?_;refine zn (cw_ret (qw_ret [iv 0, .bool false] rfl ⟨(by kernel_rfl), (by kernel_rfl), trivial⟩ ?_));exact ⟨rfl, hE⟩
end Go.Proofs.YtajdohcgjgknmaaGreatDoor

namespace Go.Proofs.YtajdohcgjgknmaaGreatDoor
open Go.RowKit
end Go.Proofs.YtajdohcgjgknmaaGreatDoor

namespace Go.Proofs.YtajdohcgjgknmaaGreatDoor
set_option maxRecDepth 1000000
set_option maxHeartbeats 4000000
set_option synthInstance.maxHeartbeats 0
set_option synthInstance.maxSize 9999
open Go.RowKit
namespace Prod
end Prod
end Go.Proofs.YtajdohcgjgknmaaGreatDoor

namespace Go.Proofs.YtajdohcgjgknmaaGreatDoor
set_option maxRecDepth 1000000
set_option maxHeartbeats 4000000
set_option synthInstance.maxHeartbeats 0
set_option synthInstance.maxSize 9999
open Go.RowKit
theorem cells_le9 (l : List Int) : (Globe.cellsTo l 24).length ≤ 1152 := by
 rw [Globe.count_eq]
 refine T List.countP_le_length (Nat.le_of_eq ?_)
 decide +kernel
theorem KeptX.va {X : Nat → Prop} {A B : World} (h : KeptX X A B) {b o : Nat} {l : List Int} (hx : ¬ X b) (hv : VA A b o l) : VA B b o l := ⟨fun i hi => h.cell hx (hv.1 i hi), hv.2⟩
theorem Tab.kept {X : Nat → Prop} {A B : World} (h : Tab A) (hx : ¬ X 1) (hk : KeptX X A B) : Tab B := ⟨Nat.lt_of_lt_of_le h.1 hk.size, fun j hj => hk.cell hx (h.2 j hj)⟩
theorem CellsAt.parts {w : World} {a : Option Addr} {n : Nat} {cs : List (Nat × Nat)} (h : CellsAt w a n cs) (hn : 0 < n) : ∃ b, a = some ⟨b, 0, none⟩ ∧ ∀ (i : Nat) (p : Nat × Nat), cs[i]? = some p → w.cell? ⟨b, i * 2, none⟩ = some (.int .i64 p.1) ∧ w.cell? ⟨b, i * 2 + 1, none⟩ = some (.int .i64 p.2) := h.2.resolve_left (by omega)
set_option maxHeartbeats 1000000 in
theorem Cells_w {w0 : World} {b o : Nat} (c : Nat) {l : List Int} (w : World) (h : VA w0 b o l) (hE : Ext w0 w) (hT : Tab w) :
  Calls Tryz.prog 18 #[.agg #[.slice (some ⟨b, o, none⟩) 24 c]] w fun e w' => ∃ a k, e = .returned (.slice a (Globe.cellsTo l 24).length k) ∧ CellsAt w' a (Globe.cellsTo l 24).length (Globe.cellsTo l 24) ∧ (∀ ad, a = some ad → w.heap.size ≤ ad.block) ∧ Ext w w' := by
 replace h := h.ext hE; clear hE
 have HT := Lib.hid hT; clear hT
 go_enter Tryz.func18, Tryz.ntmps18
 go_wp2_with (first | (go_at_call 50; refine (Valid_e _ _ h.aa (by (repeat' (first | (with_reducible assumption) | (with_reducible exact Ext.refl _) | (with_reducible refine Ext.alloc ?_ _) | (with_reducible refine Ext.drew ?_) | (with_reducible refine Ext.drewN ?_ _) | (with_reducible refine Ext.setCell ?_ ?_ _) | (with_reducible refine Ext.trans ?_ (by assumption)) | go_size)))).mono ?_; rintro e w1 ⟨rfl, hb⟩; have hc := hb.cellE; have hf := hb.frozenE; have hz := hb.size; have ha := alloc_keeps w1; (try simp only [World.size_alloc] at hc hf hz); (try simp only [World.size_setCell] at hc hf hz); (try simp only [World.size_drew] at hc hf hz)) | (go_at_call 70; refine (cells_c _ _ _ _).mono ?_; rintro e w' ⟨rfl, rfl⟩) | (go_at_call 69; refine (Collect_cells _ _ _ c l _ (by simp [go_sem]; done) (h.ext (by (repeat' (first | (with_reducible assumption) | (with_reducible exact Ext.refl _) | (with_reducible refine Ext.alloc ?_ _) | (with_reducible refine Ext.drew ?_) | (with_reducible refine Ext.drewN ?_ _) | (with_reducible refine Ext.setCell ?_ ?_ _) | (with_reducible refine Ext.trans ?_ (by assumption)) | go_size)))) (HT.out.ext (by (repeat' (first | (with_reducible assumption) | (with_reducible exact Ext.refl _) | (with_reducible refine Ext.alloc ?_ _) | (with_reducible refine Ext.drew ?_) | (with_reducible refine Ext.drewN ?_ _) | (with_reducible refine Ext.setCell ?_ ?_ _) | (with_reducible refine Ext.trans ?_ (by assumption)) | go_size))))).mono ?_; rintro e w2 ⟨v, rfl, hrow, hb2⟩))
 go_ret
 obtain ⟨a, k, rfl, hc2⟩ := CellsAt.own rfl hrow
 refine ⟨a, k, rfl, hc2, fun ad e => ?_, by (repeat' (first | (with_reducible assumption) | (with_reducible exact Ext.refl _) | (with_reducible refine Ext.alloc ?_ _) | (with_reducible refine Ext.drew ?_) | (with_reducible refine Ext.drewN ?_ _) | (with_reducible refine Ext.setCell ?_ ?_ _) | (with_reducible refine Ext.trans ?_ (by assumption)) | go_size))⟩
 have h1 := (hrow.lt ad.block (by rw [e]; rfl)).1
 have h2 : w.heap.size ≤ w1.heap.size := Ext.size (show Ext w w1 by (repeat' (first | (with_reducible assumption) | (with_reducible exact Ext.refl _) | (with_reducible refine Ext.alloc ?_ _) | (with_reducible refine Ext.drew ?_) | (with_reducible refine Ext.drewN ?_ _) | (with_reducible refine Ext.setCell ?_ ?_ _) | (with_reducible refine Ext.trans ?_ (by assumption)) | go_size)))
 simp at h1; omega
end Go.Proofs.YtajdohcgjgknmaaGreatDoor

namespace Go.Proofs.YtajdohcgjgknmaaGreatDoor
set_option maxRecDepth 1000000
set_option maxHeartbeats 4000000
set_option synthInstance.maxHeartbeats 0
set_option synthInstance.maxSize 9999
open Go.RowKit
end Go.Proofs.YtajdohcgjgknmaaGreatDoor

namespace Go.Proofs.YtajdohcgjgknmaaGreatDoor
def IsI (c : Int) : Prop := -9223372036854775808 ≤ c ∧ c ≤ 9223372036854775807
def pickF (c n : Int) : Int := (if c < 0 then -(c + 1) else c) % n
theorem pickF_bd {c n : Int} (h : 0 < n) : 0 ≤ pickF c n ∧ pickF c n < n := ⟨Int.emod_nonneg _ (by omega), Int.emod_lt_of_pos _ h⟩
theorem pickF_neg {c n : Int} (h : c < 0) : pickF c n = (-(c + 1)) % n := by rw [pickF, if_pos h]
theorem pickF_pos {c n : Int} (h : 0 ≤ c) : pickF c n = c % n := by rw [pickF, if_neg (by omega)]
end Go.Proofs.YtajdohcgjgknmaaGreatDoor

namespace Go.Proofs.YtajdohcgjgknmaaGreatDoor
open Go.RowKit
theorem rEmpty_c (w : World) : Calls Tryz.prog 38 #[] w (RetA w Globe.zeroL) := by
 have hmk := make24
 go_enter Tryz.func38, Tryz.ntmps38
 go_wp2
 refine bodyPost_ret (v := .agg #[.slice (some ⟨w.heap.size + 1, 0, none⟩) 24 24]) (by simp [results, Tryz.results38, go_sem]) rfl ⟨w.heap.size + 1, rfl, by omega, ?_, by (repeat' (first | (with_reducible assumption) | (with_reducible exact Ext.refl _) | (with_reducible refine Ext.alloc ?_ _) | (with_reducible refine Ext.drew ?_) | (with_reducible refine Ext.drewN ?_ _) | (with_reducible refine Ext.setCell ?_ ?_ _) | (with_reducible refine Ext.trans ?_ (by assumption)) | go_size))⟩
 have := RowsAt.new (w.alloc (.cells #[.slice (some ⟨w.heap.size + 1, 0, none⟩) 24 24] 33)) Globe.zeroL 3 rfl
 rwa [World.size_alloc] at this
theorem tmod_bd (x : Int) : -47 ≤ x.tmod 48 ∧ x.tmod 48 ≤ 47 := (modN_go x).2
theorem ne_of_at9 {l1 l2 : List Int} {k : Nat} (h : Globe.nth l1 k ≠ Globe.nth l2 k) : decide (l1 = l2) = false := by
 rw [decide_eq_false_iff_not]; intro e; exact h (by rw [e])
set_option maxHeartbeats 1000000 in
theorem rSame_c {w1 w2 : World} {a1 : Option Addr} {l1 : List Int} {n1 : Nat} (c1 : Nat) {v1 : Bool} {a2 : Option Addr} {l2 : List Int} {n2 : Nat} (c2 : Nat) {v2 : Bool} (w : World) (h1 : AA w1 a1 l1 n1 v1) (e1 : Ext w1 w) (h2 : AA w2 a2 l2 n2 v2) (e2 : Ext w2 w) :
    Calls Tryz.prog 16 #[.agg #[.slice a1 n1 c1], .agg #[.slice a2 n2 c2]] w fun e w' => e = .returned (.bool (decide (l1 = l2))) ∧ Ext w w' := by
  replace h1 := h1.ext e1; replace h2 := h2.ext e2; clear e1 e2
  obtain ⟨i1, B7, Bf, -⟩ := h1
  obtain ⟨i2, Ba, Bc, -⟩ := h2
  by_cases hne : n1 = n2
  · subst hne
    rcases Nat.eq_zero_or_pos n1 with h0 | h0
    · subst h0
      obtain rfl := List.length_eq_zero_iff.1 B7
      obtain rfl := List.length_eq_zero_iff.1 Ba
      clear i1 i2 B7 Ba Bf Bc
      go_enter Tryz.func16, Tryz.ntmps16
      go_wp2_with fail
      refine wp_loop_rounds 1 ?_
      rw [rounds_succ]
      go_wp2_with fail
      go_ret
      exact ⟨rfl, by (repeat' (first | (with_reducible assumption) | (with_reducible exact Ext.refl _) | (with_reducible refine Ext.alloc ?_ _) | (with_reducible refine Ext.drew ?_) | (with_reducible refine Ext.drewN ?_ _) | (with_reducible refine Ext.setCell ?_ ?_ _) | (with_reducible refine Ext.trans ?_ (by assumption)) | go_size))⟩
    · have e1 : ∃ b off, a1 = some ⟨b, off, none⟩ ∧ ∀ i, i < n1 → w.cell? ⟨b, off + i, none⟩ = some (.int .i64 (Globe.nth l1 i)) := by
        rcases i1 with rfl | ⟨b, off, rfl, h⟩
        · simp at B7; omega
        · exact ⟨b, off, rfl, fun i hi => h i (by omega)⟩
      have e2 : ∃ b off, a2 = some ⟨b, off, none⟩ ∧ ∀ i, i < n1 → w.cell? ⟨b, off + i, none⟩ = some (.int .i64 (Globe.nth l2 i)) := by
        rcases i2 with rfl | ⟨b, off, rfl, h⟩
        · simp at Ba; omega
        · exact ⟨b, off, rfl, fun i hi => h i (by omega)⟩
      obtain ⟨b1, o1, rfl, r1⟩ := e1
      obtain ⟨b2, o2, rfl, r2⟩ := e2
      have R1 := Lib.hid r1; clear r1
      have R2 := Lib.hid r2; clear r2
      have Bb := Lib.hid B7; clear B7
      have Be := Lib.hid Ba; clear Ba
      clear i1 i2 Bc
      go_enter Tryz.func16, Tryz.ntmps16
      go_wp2_with fail
      refine wp_name (fun V => Ext w V ∧ V.cell? ⟨w.heap.size, 0, none⟩ = some (.slice (some ⟨b1, o1, none⟩) n1 c1) ∧ V.cell? ⟨w.heap.size + 1, 0, none⟩ = some (.slice (some ⟨b2, o2, none⟩) n1 c2)) ⟨by (repeat' (first | (with_reducible assumption) | (with_reducible exact Ext.refl _) | (with_reducible refine Ext.alloc ?_ _) | (with_reducible refine Ext.drew ?_) | (with_reducible refine Ext.drewN ?_ _) | (with_reducible refine Ext.setCell ?_ ?_ _) | (with_reducible refine Ext.trans ?_ (by assumption)) | go_size)), by simp [go_sem], by simp [go_sem]⟩ ?_
      rintro V ⟨hV, k1, k2⟩
      go_loopw [5] (fun p wr => ∃ k : Nat, k ≤ n1 ∧ p = .int .i64 k ∧ Hid (∀ j, j < k → Globe.nth l1 j = Globe.nth l2 j) ∧ Ext V wr) (fun p _ => n1 - (intOf p).toNat)
      case atStart => exact ⟨0, by omega, rfl, fun j hj => by omega, Ext.refl _⟩
      case round =>
        obtain ⟨k, hk, rfl, Hp, hE⟩ := hrel
        replace k1 := hE.cell k1; replace k2 := hE.cell k2
        by_cases hlt : k < n1
        · have d1 : wr.cell? ⟨b1, o1 + k, none⟩ = some (.int .i64 (Globe.nth l1 k)) := hE.cell (hV.cell (R1.out k hlt))
          have d2 : wr.cell? ⟨b2, o2 + k, none⟩ = some (.int .i64 (Globe.nth l2 k)) := hE.cell (hV.cell (R2.out k hlt))
          have Bg : (0 : Int) ≤ (k : Int) := by omega
          have Bh : (k : Int) < (n1 : Int) := by omega
          generalize hx : Globe.nth l1 k = x at *
          generalize hy : Globe.nth l2 k = y at *
          have Hx := Lib.hid hx; clear hx
          have Hy := Lib.hid hy; clear hy
          by_cases hxy : x = y
          · subst hxy
            go_wp2_with fail
            go_quiet (fail)
            go_wp2_with fail
            go_roundw
            case rel => exact ⟨k + 1, by omega, by go_num, fun j hj => by
              rcases Nat.lt_or_ge j k with h | h
              · exact Hp.out j h
              · rw [show j = k by omega, Hx.out, Hy.out], by (repeat' (first | (with_reducible assumption) | (with_reducible exact Ext.refl _) | (with_reducible refine Ext.alloc ?_ _) | (with_reducible refine Ext.drew ?_) | (with_reducible refine Ext.drewN ?_ _) | (with_reducible refine Ext.setCell ?_ ?_ _) | (with_reducible refine Ext.trans ?_ (by assumption)) | go_size))⟩
            case measure => simp [intOf]; omega
          · go_wp2_with fail
            go_quiet (fail)
            go_wp2_with fail
            go_ret
            exact ⟨ret_bool (ne_of_at9 (k := k) (by rw [Hx.out, Hy.out]; exact hxy)).symm, by (repeat' (first | (with_reducible assumption) | (with_reducible exact Ext.refl _) | (with_reducible refine Ext.alloc ?_ _) | (with_reducible refine Ext.drew ?_) | (with_reducible refine Ext.drewN ?_ _) | (with_reducible refine Ext.setCell ?_ ?_ _) | (with_reducible refine Ext.trans ?_ (by assumption)) | go_size))⟩
        · obtain rfl : k = n1 := by omega
          go_wp2_with fail
          go_ret
          exact ⟨ret_bool (by rw [eq_comm, decide_eq_true_eq]; exact Globe.ext_nth (by rw [Bb.out, Be.out]) fun j hj => Hp.out j (by rw [← Bb.out]; exact hj)), by (repeat' (first | (with_reducible assumption) | (with_reducible exact Ext.refl _) | (with_reducible refine Ext.alloc ?_ _) | (with_reducible refine Ext.drew ?_) | (with_reducible refine Ext.drewN ?_ _) | (with_reducible refine Ext.setCell ?_ ?_ _) | (with_reducible refine Ext.trans ?_ (by assumption)) | go_size))⟩
  · have hd : decide (l1 = l2) = false := by
      rw [decide_eq_false_iff_not]; intro e; subst e; exact hne (by omega)
    have hni : ¬ (n1 : Int) = (n2 : Int) := by omega
    have Hd := Lib.hid hd; clear hd
    clear i1 i2 B7 Ba
    go_enter Tryz.func16, Tryz.ntmps16
    go_wp2_with fail
    go_ret
    exact ⟨ret_bool (by rw [Hd.out]), by (repeat' (first | (with_reducible assumption) | (with_reducible exact Ext.refl _) | (with_reducible refine Ext.alloc ?_ _) | (with_reducible refine Ext.drew ?_) | (with_reducible refine Ext.drewN ?_ _) | (with_reducible refine Ext.setCell ?_ ?_ _) | (with_reducible refine Ext.trans ?_ (by assumption)) | go_size))⟩
end Go.Proofs.YtajdohcgjgknmaaGreatDoor

namespace Go.Proofs.YtajdohcgjgknmaaGreatDoor
open Go.RowKit
theorem rpick31_c (c n : Int) (w : World) (hc : IsI c) (h0 : 0 < n) (h1 : n ≤ 100000000) : Calls Tryz.prog 39 #[.int .i64 c, .int .i64 n] w fun e w' => e = .returned (.int .i64 (pickF c n)) ∧ w = w' := by
  obtain ⟨h2, h3⟩ := hc
  by_cases h : c < 0
  · go_enter Tryz.func39, Tryz.ntmps39
    go_wp2
    go_ret
    exact ⟨ret_int (by rw [pickF_neg h, ← Int.neg_tmod, Int.tmod_eq_emod_of_nonneg (by omega)]), rfl⟩
  · have h' : 0 ≤ c := by omega
    go_enter Tryz.func39, Tryz.ntmps39
    go_wp2
    go_ret
    exact ⟨ret_int (by rw [pickF_pos h']), rfl⟩
def QAt (w : World) (a : Option Addr) (n : Nat) (q : Nat → Nat → Int) : Prop :=
 n = 0 ∨ ∃ b off, a = some ⟨b, off, none⟩ ∧ ∀ i, i < n → ∀ j, j < 4 → w.cell? ⟨b, off + i * 4 + j, none⟩ = some (.int .i64 (q i j)) ∧ IsI (q i j)
theorem QAt.ext {w w' : World} {a : Option Addr} {n : Nat} {q : Nat → Nat → Int} (h : QAt w a n q) (hE : Ext w w') : QAt w' a n q :=
 h.imp id fun ⟨b, off, ha, hc⟩ => ⟨b, off, ha, fun i hi j hj => ⟨hE.cell (hc i hi j hj).1, (hc i hi j hj).2⟩⟩
def MkA (w : World) (O B : Nat) (wr : World) : Prop :=
 (∃ L, Globe.validL L = true ∧ RowsAt wr B L) ∧ wr.cell? ⟨O, 0, none⟩ = some (.slice (some ⟨B, 0, none⟩) 24 24) ∧ BoxAt wr w.heap.size 0 (.slice none 0 0) ∧ Ext w wr
def RetAr (w : World) (e : Ending) (w' : World) : Prop :=
 ∃ (B : Nat) (L : List Int), e = .returned (.agg #[.slice (some ⟨B, 0, none⟩) 24 24]) ∧ w.heap.size ≤ B ∧ Globe.validL L = true ∧ RowsAt w' B L ∧ Ext w w'
set_option maxRecDepth 100000 in
set_option maxHeartbeats 8000000 in
theorem Area_c {w0 : World} {a : Option Addr} {n : Nat} (c : Nat) {q : Nat → Nat → Int} (w : World) (h : QAt w0 a n q) (hE0 : Ext w0 w) (hn : n ≤ 9223372036854775807) :
    Calls Tryz.prog 6 #[.slice a n c] w (RetAr w) := by
  have H := Lib.hid (h.ext hE0); clear h hE0
  go_enter Tryz.func6, Tryz.ntmps6
  go_wp2_with (go_at_call 38; refine (rEmpty_c _).mono ?_; rintro e w2 ⟨B, rfl, hB, hr, Bw⟩)
  obtain ⟨O, hO⟩ : ∃ O, O = w2.heap.size := ⟨_, rfl⟩
  have hBO : B < O := by have := hr.lt; omega
  have hwB : w.heap.size < B := by simp at hB; omega
  refine wp_name (fun V => MkA w O B V) ⟨⟨_, (by decide : Globe.validL Globe.zeroL = true), ?_⟩, ?_, ?_, ?_⟩ ?_
  · exact hr.ext (by (repeat' (first | (with_reducible assumption) | (with_reducible exact Ext.refl _) | (with_reducible refine Ext.alloc ?_ _) | (with_reducible refine Ext.drew ?_) | (with_reducible refine Ext.drewN ?_ _) | (with_reducible refine Ext.setCell ?_ ?_ _) | (with_reducible refine Ext.trans ?_ (by assumption)) | go_size)))
  · rw [hO]; simp [go_sem]
  · (repeat' (first | (with_reducible assumption) | (exact ⟨by simp [go_sem], by simp [go_sem]⟩) | (with_reducible refine BoxAt.ext (Ext.alloc (Ext.refl _) _) ?_) | (with_reducible refine BoxAt.ext (by with_reducible assumption) ?_)))
  · (repeat' (first | (with_reducible assumption) | (with_reducible exact Ext.refl _) | (with_reducible refine Ext.alloc ?_ _) | (with_reducible refine Ext.drew ?_) | (with_reducible refine Ext.drewN ?_ _) | (with_reducible refine Ext.setCell ?_ ?_ _) | (with_reducible refine Ext.trans ?_ (by assumption)) | go_size))
  intro V hF
  rw [← hO]
  clear hO hr Bw hB
  go_loopw [4] (fun p wr => ∃ i : Nat, i ≤ n ∧ i ≤ 3 ∧ p = .int .i64 i ∧ MkA w O B wr) (fun p _ => 3 - (intOf p).toNat)
  case atStart => exact ⟨0, by omega, by omega, rfl, hF⟩
  case round =>
    clear hF
    obtain ⟨i, hi, Bx, rfl, hF⟩ := hrel
    by_cases hlt : i < n ∧ i < 3
    · obtain ⟨Ba, Bz⟩ := hlt
      obtain ⟨b, off, rfl, hq⟩ : ∃ b off, a = some ⟨b, off, none⟩ ∧ ∀ i, i < n → ∀ j, j < 4 → w.cell? ⟨b, off + i * 4 + j, none⟩ = some (.int .i64 (q i j)) ∧ IsI (q i j) := H.out.resolve_left (by omega)
      have Bc : w.cell? ⟨b, off + i * 4, none⟩ = some (.int .i64 (q i 0)) := (hq i Ba 0 (by omega)).1
      have Bt := (hq i Ba 1 (by omega)).1
      have Be := (hq i Ba 2 (by omega)).1
      have Bu := (hq i Ba 3 (by omega)).1
      have I0 := Lib.hid (hq i Ba 0 (by omega)).2
      have I1 := Lib.hid (hq i Ba 1 (by omega)).2
      have I2 := Lib.hid (hq i Ba 2 (by omega)).2
      have I3 := Lib.hid (hq i Ba 3 (by omega)).2
      clear hq
      have hbl : b < w.heap.size := World.block_lt_of_cell? w _ Bc
      have i0 : (0 : Int) ≤ (i : Int) := by omega
      have i1 : (i : Int) < (n : Int) := by omega
      have i2 : (i : Int) < 3 := by omega
      obtain ⟨h0, h1⟩ := @pickF_bd (q i 3) 3 (by omega)
      obtain ⟨g0, g1⟩ := @pickF_bd (q i 2) 5 (by omega)
      obtain ⟨y0, y1⟩ := @pickF_bd (q i 1) 4 (by omega)
      obtain ⟨x0, x1⟩ := @pickF_bd (q i 0) 7 (by omega)
      obtain ⟨wo, rfl⟩ : ∃ wo : World, wo = wr := ⟨_, rfl⟩
      go_wp2_with fail
      go_loopw [5] (fun p wr => ∃ y : Nat, (y : Int) ≤ pickF (q i 3) 3 + 1 ∧ p = .int .i64 y ∧ MkA w O B wr) (fun p _ => 4 - (intOf p).toNat)
      case atStart => exact ⟨0, by omega, rfl, hF⟩
      case round =>
        clear hF
        obtain ⟨y, hy, rfl, hF⟩ := hrel
        have hE := hF.2.2.2
        have q2 := hE.cell Be
        have q3 := hE.cell Bu
        by_cases hly : (y : Int) ≤ pickF (q i 3) 3
        · go_wp2_with (go_at_call 39; refine (rpick31_c _ _ _ I3.out (by omega) (by omega)).mono ?_; rintro e w' ⟨rfl, rfl⟩)
          obtain ⟨Bv, rfl⟩ : ∃ Bv : World, Bv = wr := ⟨_, rfl⟩
          clear q2 q3
          go_loopw [6] (fun p wr => ∃ k : Nat, (k : Int) ≤ pickF (q i 2) 5 + 1 ∧ p = .int .i64 k ∧ MkA w O B wr) (fun p _ => 6 - (intOf p).toNat)
          case atStart => exact ⟨0, by omega, rfl, hF⟩
          case round =>
            clear hF hE
            obtain ⟨k, hk, rfl, hF⟩ := hrel
            have hE := hF.2.2.2
            have q0 := hE.cell Bc
            have q1 := hE.cell Bt
            have q2 := hE.cell Be
            by_cases hlk : (k : Int) ≤ pickF (q i 2) 5
            · go_wp2_with (go_at_call 39; refine (rpick31_c _ _ _ (by first | exact I1.out | exact I2.out) (by omega) (by omega)).mono ?_; rintro e w' ⟨rfl, rfl⟩)
              obtain ⟨C, hC⟩ : ∃ C : Nat, pickF (q i 0) 7 + (k : Int) = (C : Int) := ⟨(pickF (q i 0) 7 + (k : Int)).toNat, by omega⟩
              obtain ⟨Y, hY⟩ : ∃ Y : Nat, pickF (q i 1) 4 + (y : Int) = (Y : Int) := ⟨(pickF (q i 1) 4 + (y : Int)).toNat, by omega⟩
              have Bg : IntKind.i64.wrap (pickF (q i 0) 7 + (k : Int)) = (C : Int) := by rw [IntKind.wrap_i64]; omega
              have Bq : IntKind.i64.wrap (pickF (q i 1) 4 + (y : Int)) = (Y : Int) := by rw [IntKind.wrap_i64]; omega
              have Bb : C < 48 := by omega
              have B7 : Y < 24 := by omega
              try rw [hY] at *
              have KC := Lib.hid Bg
              have KY := Lib.hid Bq
              clear Bg Bq hC hY
              obtain ⟨⟨L, hvl, hr⟩, cO, b2, Bh⟩ := hF
              have hR := Globe.rowN_lt hvl Y
              have d3 : wr.cell? ⟨B, Y, none⟩ = some (.int .i64 (Globe.rowN L Y : Nat)) := by rw [← Globe.rowN_cast hvl]; exact hr.cell B7
              have d4 := hr.free B7
              have hbB : b ≠ B := by omega
              have hOB : O ≠ B := by omega
              obtain ⟨s0, s1, s2⟩ := p2_shl (n := C) (by omega)
              have s3 : bits .or .i64 (Globe.rowN L Y : Nat) (p2 C : Nat) = ((Globe.rowN L Y ||| p2 C : Nat) : Int) := or_i64 _ _ (by omega) (by omega)
              have z0 : (0 : Int) ≤ (Y : Int) := by omega
              have z1 : (Y : Int) < 24 := by omega
              have c0 : (0 : Int) ≤ (C : Int) := by omega
              have HV := Lib.hid (show Globe.validL (L.set Y ((Globe.rowN L Y ||| p2 C : Nat) : Int)) = true from Globe.valid_put hvl Bb)
              clear hvl s1 s2 hR
              have Hr := Lib.hid hr; clear hr
              have Bf := Lib.hid Bh; clear Bh
              generalize Globe.rowN L Y ||| p2 C = RO at *
              generalize Globe.rowN L Y = R0 at *
              clear Bc Bt Be Bu q2 hE
              refine wg_begin [(some 47, [3], []), (some 48, [47], [0]), (some 49, [7], []), (some 50, [3], []), (some 51, [50], [3]), (some 52, [7], []), (some 53, [51, 52], [4, 5]), (some 54, [53], [6]), (some 55, [0], []), (some 56, [4], []), (some 57, [55, 56], [8, 9]), (some 58, [57], [10]), (some 59, [58], [11]), (some 60, [59], [12]), (some 61, [6], []), (some 62, [60, 61], [13, 14]), (some 63, [62], [15]), (some 64, [54, 63], [7, 16]), (some 65, [48, 49], [1, 2, 0, 1, 2, 3, 4, 5, 6, 7, 8, 9, 10, 11, 12, 13, 14, 15, 16, 17]), (none, [65, 64], [18, 17, 13, 0, 1, 2, 3, 4, 5, 6, 7, 8, 9, 10, 11, 12, 13, 14, 15, 16, 17])] (fun w' => w'.cell? ⟨O, 0, none⟩ = some (.slice (some ⟨B, 0, none⟩) 24 24) ∧ w'.cell? ⟨b, off + i * 4, none⟩ = some (.int .i64 (q i 0))) (by kernel_rfl) (by kernel_rfl) (by kernel_rfl) (by kernel_rfl) (by intro c d v a w h; cases d <;> first | exact h | (exact nomatch h.1) | (dsimp +zetaDelta only [Exit.then, Exit.inBlock] at h ⊢; exact h)) (⟨cO, q0⟩) (fun ops Q L hL hR hK hHeld => ?_); replace hL := Lib.hid hL; have Bi := @evalW_tmp; have Bj := @evalW_const; have Bk := @evalW_func; have Bm := @look_cons; have Bp := @look_nil
              have r3 := wg_read hL.out 3 rfl
              have r7 := wg_read hL.out 7 rfl
              have r0 := wg_read hL.out 0 rfl
              have r4 := wg_read hL.out 4 rfl
              have r6 := wg_read hL.out 6 rfl
              (refine wg_take 0 (v := ?_) hR rfl (by kernel_rfl) (by kernel_rfl) ?_ (by with_reducible assumption) ?_; rotate_left; (focus (intro w hSw; (try dsimp only at hSw); go_simp; (try with_reducible rfl))); (dsimp only [putW]))
              (refine wg_take 1 (v := ?_) hR rfl (by kernel_rfl) (by kernel_rfl) ?_ (by with_reducible assumption) ?_; rotate_left; (focus (intro w hSw; (try dsimp only at hSw); go_simp; (try with_reducible rfl))); (dsimp only [putW]))
              (refine wg_take 2 (v := ?_) hR rfl (by kernel_rfl) (by kernel_rfl) ?_ (by with_reducible assumption) ?_; rotate_left; (focus (intro w hSw; (try dsimp only at hSw); go_simp; (try with_reducible rfl))); (dsimp only [putW]))
              (refine wg_take 3 (v := ?_) hR rfl (by kernel_rfl) (by kernel_rfl) ?_ (by with_reducible assumption) ?_; rotate_left; (focus (intro w hSw; (try dsimp only at hSw); go_simp; (try with_reducible rfl))); (dsimp only [putW]))
              (refine wg_take 4 (v := ?_) hR rfl (by kernel_rfl) (by kernel_rfl) ?_ (by with_reducible assumption) ?_; rotate_left; (focus (intro w hSw; (try dsimp only at hSw); go_simp; (try with_reducible rfl))); (dsimp only [putW]))
              (refine wg_take 5 (v := ?_) hR rfl (by kernel_rfl) (by kernel_rfl) ?_ (by with_reducible assumption) ?_; rotate_left; (focus (intro w hSw; (try dsimp only at hSw); go_simp; (try with_reducible rfl))); (dsimp only [putW]))
              (refine wg_take 6 (v := ?_) hR rfl (by kernel_rfl) (by kernel_rfl) ?_ (by with_reducible assumption) ?_; rotate_left; (focus (intro w hSw; (try dsimp only at hSw); go_simp; (try with_reducible rfl))); (dsimp only [putW]))
              (refine wg_take 8 (v := ?_) hR rfl (by kernel_rfl) (by kernel_rfl) ?_ (by with_reducible assumption) ?_; rotate_left; (focus (intro w hSw; (try dsimp only at hSw); go_simp; (try with_reducible rfl))); (dsimp only [putW]))
              (refine wg_take 9 (v := ?_) hR rfl (by kernel_rfl) (by kernel_rfl) ?_ (by with_reducible assumption) ?_; rotate_left; (focus (intro w hSw; (try dsimp only at hSw); go_simp; (try with_reducible rfl))); (dsimp only [putW]))
              (refine wg_take 10 (v := ?_) hR rfl (by kernel_rfl) (by kernel_rfl) ?_ (by with_reducible assumption) ?_; rotate_left; (focus (intro w hSw; (try dsimp only at hSw); go_simp; (try with_reducible rfl))); (dsimp only [putW]))
              (refine wg_take 11 (v := ?_) hR rfl (by kernel_rfl) (by kernel_rfl) ?_ (by with_reducible assumption) ?_; rotate_left; (focus (intro w hSw; (try dsimp only at hSw); go_simp; (try with_reducible rfl))); (dsimp only [putW]))
              (refine wg_take 12 (v := ?_) hR rfl (by kernel_rfl) (by kernel_rfl) ?_ (by with_reducible assumption) ?_; rotate_left; (focus (intro w hSw; (try dsimp only at hSw); go_simp; (try with_reducible rfl))); (dsimp only [putW]))
              (refine wg_take 14 (v := ?_) hR rfl (by kernel_rfl) (by kernel_rfl) ?_ (by with_reducible assumption) ?_; rotate_left; (focus (intro w hSw; (try dsimp only at hSw); go_simp; (try with_reducible rfl))); (dsimp only [putW]))
              refine wg_two 7 13 hR rfl rfl (by kernel_rfl) (by kernel_rfl) (by kernel_rfl) (by kernel_rfl) ?_ ?_
              · (refine wg_eff (v := ?_) (w' := ?_) ?_ ?_ ?_; rotate_left; rotate_left; (focus (go_simp; first | done | (with_reducible rfl) | (refine ⟨?_, ?_⟩ <;> with_reducible rfl))); (focus (exact hHeld)); intro hHeld; (dsimp only [putW]))
                (refine wg_step 13 hR rfl (by kernel_rfl) (by kernel_rfl) ?_ (by kernel_rfl); refine wg_call (f := 39) (args := ?_) ?_ ?_; rotate_left; (focus (go_simp; first | done | (with_reducible rfl) | (refine ⟨?_, ?_⟩ <;> with_reducible rfl))); (go_at_call 39; refine (rpick31_c _ _ _ I0.out (by omega) (by omega)).mono ?_; rintro e w' ⟨rfl, rfl⟩); refine ⟨_, rfl, hHeld, fun hHeld => ?_⟩; (dsimp only [putW]))
                (refine wg_take 15 (v := ?_) hR rfl (by kernel_rfl) (by kernel_rfl) ?_ (by with_reducible assumption) ?_; rotate_left; (focus (intro w hSw; (try dsimp only at hSw); have k0 := KC.out; go_simp; (try with_reducible rfl))); (dsimp only [putW]))
                (refine wg_take 16 (v := ?_) hR rfl (by kernel_rfl) (by kernel_rfl) ?_ (by with_reducible assumption) ?_; rotate_left; (focus (intro w hSw; (try dsimp only at hSw); go_simp; (try with_reducible rfl))); (dsimp only [putW]))
                (refine wg_take 17 (v := ?_) hR rfl (by kernel_rfl) (by kernel_rfl) ?_ (by with_reducible assumption) ?_; rotate_left; (focus (intro w hSw; (try dsimp only at hSw); go_simp; (try with_reducible rfl))); (dsimp only [putW]))
                (refine wg_take 18 (v := ?_) hR rfl (by kernel_rfl) (by kernel_rfl) ?_ (by with_reducible assumption) ?_; rotate_left; (focus (intro w hSw; (try dsimp only at hSw); go_simp; (try with_reducible rfl))); (dsimp only [putW]))
                (refine wg_step 19 hR rfl (by kernel_rfl) (by kernel_rfl) ?_ (by kernel_rfl); refine wg_skp (w' := ?_) ?_ ?_ ?_; rotate_left; (focus (go_simp; first | done | (with_reducible rfl))); (focus (exact ⟨(World.cell?_setCell_other _ _ _ _ (fun e => hOB (congrArg Addr.block e).symm)).trans hHeld.1, (World.cell?_setCell_other _ _ _ _ (fun e => hbB (congrArg Addr.block e).symm)).trans hHeld.2⟩)); intro hHeld; (dsimp only [putW]))
                refine wg_fin hR hK [(47, 18), (0, 17), (0, 16), (0, 15), (0, 14), (0, 13), (0, 12), (0, 5), (0, 11), (0, 10), (0, 9), (0, 8), (0, 7), (0, 4), (0, 6), (0, 3), (0, 2), (0, 1), (0, 0)] (by kernel_rfl) (by kernel_rfl) (by dsimp only [mg, gsOf, valAt]) ?_; clear Bi Bj Bk Bm Bp hR hK hL
                clear r3; clear r7; clear r0; clear r4; clear r6
                go_wp2
                go_roundw
                case rel => exact ⟨k + 1, by omega, by go_num, ⟨_, HV.out, (Hr.out.drew).set B7 _⟩, hHeld.1, b2.drew.other (p := ⟨B, Y, none⟩) (by show B ≠ _; omega) _, Ext.setCell (Ext.drew Bf.out) (p := ⟨B, Y, none⟩) (by show _ ≤ B; omega) _⟩
                case measure => simp [intOf]; omega
              · (refine wg_call (f := 39) (args := ?_) ?_ ?_; rotate_left; (focus (go_simp; first | done | (with_reducible rfl) | (refine ⟨?_, ?_⟩ <;> with_reducible rfl))); (go_at_call 39; refine (rpick31_c _ _ _ I0.out (by omega) (by omega)).mono ?_; rintro e w' ⟨rfl, rfl⟩); refine ⟨_, rfl, hHeld, fun hHeld => ?_⟩; (dsimp only [putW]))
                (refine wg_take 15 (v := ?_) hR rfl (by kernel_rfl) (by kernel_rfl) ?_ (by with_reducible assumption) ?_; rotate_left; (focus (intro w hSw; (try dsimp only at hSw); have k0 := KC.out; go_simp; (try with_reducible rfl))); (dsimp only [putW]))
                (refine wg_take 16 (v := ?_) hR rfl (by kernel_rfl) (by kernel_rfl) ?_ (by with_reducible assumption) ?_; rotate_left; (focus (intro w hSw; (try dsimp only at hSw); go_simp; (try with_reducible rfl))); (dsimp only [putW]))
                (refine wg_step 7 hR rfl (by kernel_rfl) (by kernel_rfl) ?_ (by kernel_rfl); refine wg_eff (v := ?_) (w' := ?_) ?_ ?_ ?_; rotate_left; rotate_left; (focus (go_simp; first | done | (with_reducible rfl) | (refine ⟨?_, ?_⟩ <;> with_reducible rfl))); (focus (exact hHeld)); intro hHeld; (dsimp only [putW]))
                (refine wg_take 17 (v := ?_) hR rfl (by kernel_rfl) (by kernel_rfl) ?_ (by with_reducible assumption) ?_; rotate_left; (focus (intro w hSw; (try dsimp only at hSw); go_simp; (try with_reducible rfl))); (dsimp only [putW]))
                (refine wg_take 18 (v := ?_) hR rfl (by kernel_rfl) (by kernel_rfl) ?_ (by with_reducible assumption) ?_; rotate_left; (focus (intro w hSw; (try dsimp only at hSw); go_simp; (try with_reducible rfl))); (dsimp only [putW]))
                (refine wg_step 19 hR rfl (by kernel_rfl) (by kernel_rfl) ?_ (by kernel_rfl); refine wg_skp (w' := ?_) ?_ ?_ ?_; rotate_left; (focus (go_simp; first | done | (with_reducible rfl))); (focus (exact ⟨(World.cell?_setCell_other _ _ _ _ (fun e => hOB (congrArg Addr.block e).symm)).trans hHeld.1, (World.cell?_setCell_other _ _ _ _ (fun e => hbB (congrArg Addr.block e).symm)).trans hHeld.2⟩)); intro hHeld; (dsimp only [putW]))
                refine wg_fin hR hK [(47, 18), (0, 17), (0, 16), (0, 15), (0, 14), (0, 13), (0, 12), (0, 2), (0, 11), (0, 10), (0, 9), (0, 8), (0, 7), (0, 5), (0, 6), (0, 4), (0, 3), (0, 1), (0, 0)] (by kernel_rfl) (by kernel_rfl) (by dsimp only [mg, gsOf, valAt]) ?_; clear Bi Bj Bk Bm Bp hR hK hL
                clear r3; clear r7; clear r0; clear r4; clear r6
                go_wp2
                go_roundw
                case rel => exact ⟨k + 1, by omega, by go_num, ⟨_, HV.out, (Hr.out.drew).set B7 _⟩, hHeld.1, b2.drew.other (p := ⟨B, Y, none⟩) (by show B ≠ _; omega) _, Ext.setCell (Ext.drew Bf.out) (p := ⟨B, Y, none⟩) (by show _ ≤ B; omega) _⟩
                case measure => simp [intOf]; omega
            · go_wp2_with (go_at_call 39; refine (rpick31_c _ _ _ I2.out (by omega) (by omega)).mono ?_; rintro e w' ⟨rfl, rfl⟩)
              go_roundw
              case rel => exact ⟨y + 1, by omega, by go_num, hF⟩
              case measure => simp [intOf]; omega
        · go_wp2_with (go_at_call 39; refine (rpick31_c _ _ _ I3.out (by omega) (by omega)).mono ?_; rintro e w' ⟨rfl, rfl⟩)
          go_roundw
          case rel => exact ⟨i + 1, by omega, by omega, by go_num, hF⟩
          case measure => simp [intOf]; omega
    · obtain ⟨⟨L, hv, hr⟩, cO, ⟨c2, f2⟩, hE⟩ := hF
      have Br := hr.other (p := ⟨w.heap.size, 0, none⟩) (by show w.heap.size ≠ B; omega) (.slice (some ⟨B, 0, none⟩) 24 24)
      by_cases hln : i < n
      · have j1 : (i : Int) < (n : Int) := by omega
        have j2 : ¬ (i : Int) < 3 := by omega
        go_wp2_with fail
        exact bodyPost_ret (v := .agg #[.slice (some ⟨B, 0, none⟩) 24 24]) (by simp [results, Tryz.results6, go_sem, c2]) rfl ⟨B, L, rfl, by omega, hv, Br, by (repeat' (first | (with_reducible assumption) | (with_reducible exact Ext.refl _) | (with_reducible refine Ext.alloc ?_ _) | (with_reducible refine Ext.drew ?_) | (with_reducible refine Ext.drewN ?_ _) | (with_reducible refine Ext.setCell ?_ ?_ _) | (with_reducible refine Ext.trans ?_ (by assumption)) | go_size))⟩
      · have j1 : ¬ (i : Int) < (n : Int) := by omega
        go_wp2_with fail
        exact bodyPost_ret (v := .agg #[.slice (some ⟨B, 0, none⟩) 24 24]) (by simp [results, Tryz.results6, go_sem, c2]) rfl ⟨B, L, rfl, by omega, hv, Br, by (repeat' (first | (with_reducible assumption) | (with_reducible exact Ext.refl _) | (with_reducible refine Ext.alloc ?_ _) | (with_reducible refine Ext.drew ?_) | (with_reducible refine Ext.drewN ?_ _) | (with_reducible refine Ext.setCell ?_ ?_ _) | (with_reducible refine Ext.trans ?_ (by assumption)) | go_size))⟩
instance {w w' : World} {a : Option Addr} {n : Nat} {q : Nat → Nat → Int} : MvC w w' (QAt w a n q) (QAt w' a n q) := ⟨fun e h => h.ext e⟩
end Go.Proofs.YtajdohcgjgknmaaGreatDoor

namespace Go.Proofs.YtajdohcgjgknmaaGreatDoor
set_option maxRecDepth 1000000
set_option maxHeartbeats 4000000
set_option synthInstance.maxHeartbeats 0
set_option synthInstance.maxSize 9999
open Go.RowKit
theorem OwnL.cap {α : Type} {R : Rep α} {n₀ : Nat} {e : TypeId} {size : Nat} {a : Option Addr} {n c : Nat} {w : World} {l : List α} (h : OwnL R n₀ e size (.slice a n c) w l) (hl : l.length = n) : n ≤ c := by
 obtain ⟨cs, h1, h2, h3, h4⟩ := h
 rcases h3.2 with ⟨q, q2⟩ | ⟨g, cap, cur, q, _, _, hc, _⟩
 · injection q with r1 r2 r3; omega
 · injection q with r1 r2 r3; omega
theorem hasIm_of {l : List Prod.Pc} {im : Int} (h : ∀ q ∈ l, q.im ≠ im) : Prod.hasIm l im = false := by
  cases hh : Prod.hasIm l im
  · rfl
  · unfold Prod.hasIm at hh
    rw [List.any_eq_true] at hh
    obtain ⟨q, hq, e⟩ := hh
    exact absurd (by simpa using e) (h q hq)
theorem goodGo_of : ∀ {l pre : List Prod.Pc}, (∀ p ∈ l, Prod.okP p = true) → Prod.Dist l → (∀ p ∈ l, ∀ q ∈ pre, q.im ≠ p.im) → Prod.goodGo pre l = true
  | [], _, _, _, _ => rfl
  | x :: l, pre, h1, h2, h3 => by
    obtain ⟨d1, d2⟩ := Prod.Dist.cons.1 h2
    rw [Prod.goodGo, h1 x (by simp), hasIm_of (h3 x (by simp)), goodGo_of (fun p hp => h1 p (by simp [hp])) d2 (fun p hp q hq => ?_)]
    · rfl
    · rcases List.mem_append.1 hq with hq | hq
      · exact h3 p (by simp [hp]) q hq
      · rw [List.mem_singleton.1 hq]; exact d1 p hp
theorem goodL_of {l : List Prod.Pc} (h : ∀ p ∈ l, Prod.okP p = true) (hd : Prod.Dist l) : Prod.goodL l = true := goodGo_of h hd (fun _ _ q hq => by cases hq)
theorem OwnL.pcs {n₀ e : Nat} {w : World} {a : Option Addr} {n c : Nat} {l : List Prod.Pc} (h : OwnL pieceR n₀ e 4 (.slice a n c) w l) (hl : l.length = n) (hn : n ≤ 140737488355328) : PcsAt w a n l := by
  obtain ⟨rs, r1, r2, r3, r4⟩ := own_raw (S := fun _ => True) (h.into fun _ _ _ _ _ _ => trivial)
  refine ⟨rs, ?_, r3 w (fun _ _ _ hu => hu)⟩
  rcases Nat.eq_zero_or_pos n with h0 | h0
  · subst h0; exact ⟨by omega, by omega, .inl rfl⟩
  · have hq : ∃ g, a = some ⟨g, 0, none⟩ := by
      obtain ⟨cs, q1, q2, q3, q4⟩ := h
      rcases q3.2 with ⟨_, q⟩ | ⟨g, cap, cur, hv, _⟩
      · omega
      · injection hv with e1; exact ⟨g, e1⟩
    obtain ⟨g, rfl⟩ := hq
    have := holds_raws (own_holds r1 (by omega)) (by omega)
    rwa [show rs.length = n by omega] at this
def GoodN (ps : List Prod.Pc) : Prop := ps.length ≤ 8 ∧ ∀ (i : Nat) p, ps[i]? = some p → p.im = 10 + (i : Int) ∧ (0 ≤ p.t ∧ p.t ≤ 300) ∧ Globe.validL p.rw = true
theorem GoodN.nil : GoodN [] := ⟨by simp, fun i p h => by simp at h⟩
theorem GoodN.snoc {ps : List Prod.Pc} {x : Prod.Pc} {i : Nat} (h : GoodN ps) (hl : ps.length = i) (hi : i < 8) (h1 : x.im = 10 + (i : Int)) (h2 : 0 ≤ x.t ∧ x.t ≤ 300) (h3 : Globe.validL x.rw = true) : GoodN (ps ++ [x]) := by
  subst hl
  refine ⟨by rw [List.length_append]; simp; omega, fun j p hp => ?_⟩
  rcases Nat.lt_or_ge j ps.length with hj | hj
  · rw [List.getElem?_append_left hj] at hp; exact h.2 j p hp
  · rw [List.getElem?_append_right hj] at hp
    rcases Nat.lt_or_ge j (ps.length + 1) with hk | hk
    · obtain rfl : j = ps.length := by omega
      rw [Nat.sub_self] at hp; cases hp; exact ⟨h1, h2, h3⟩
    · rw [List.getElem?_eq_none (by simp; omega)] at hp; cases hp
theorem GoodN.good {ps : List Prod.Pc} (h : GoodN ps) : Prod.goodL ps = true := by
  refine goodL_of (fun p hp => ?_) ?_
  · obtain ⟨i, hi⟩ := List.getElem?_of_mem hp
    obtain ⟨q1, q2, q3⟩ := h.2 i p hi
    have := (List.getElem?_eq_some_iff.1 hi).1
    have := h.1
    exact Prod.okP_t.2 ⟨by omega, by omega, q3⟩
  · rw [Prod.Dist, List.pairwise_iff_getElem]
    intro i j hi hj hij he
    have a := (h.2 i _ (List.getElem?_eq_getElem hi)).1
    have b := (h.2 j _ (List.getElem?_eq_getElem hj)).1
    rw [a, b] at he; omega
end Go.Proofs.YtajdohcgjgknmaaGreatDoor

namespace Go.Proofs.YtajdohcgjgknmaaGreatDoor
set_option maxRecDepth 1000000
set_option maxHeartbeats 4000000
set_option synthInstance.maxHeartbeats 0
set_option synthInstance.maxSize 9999
open Go.RowKit
end Go.Proofs.YtajdohcgjgknmaaGreatDoor

namespace Go.Proofs.YtajdohcgjgknmaaGreatDoor
set_option maxRecDepth 1000000
set_option maxHeartbeats 4000000
set_option synthInstance.maxHeartbeats 0
set_option synthInstance.maxSize 9999
open Go.RowKit
theorem PcsS.both {m : Nat} {w : World} {a : Option Addr} {n : Nat} {l : List Prod.Pc} (h : PcsS (fun k => m ≤ k) w a n l) : PcsS (fun k => m ≤ k ∧ k < w.heap.size) w a n l := by
  obtain ⟨rs, h1, h2, h3, h4⟩ := h
  have h9 := PcsAt.now ⟨rs, h1, h2⟩
  refine ⟨rs, h1, h2, fun q ad e => ⟨h3 q ad e, ?_⟩, fun x hx q ad e => ⟨h4 x hx q ad e, ?_⟩⟩
  · obtain ⟨g1, g2, g3⟩ := h1
    rcases g3 with g3 | ⟨b, o, e', hx⟩
    · omega
    · rw [e] at e'; cases e'
      exact World.block_lt_of_cell? _ _ (hx 0 _ (List.getElem?_eq_getElem (by omega))).1
  · obtain ⟨i, hi⟩ := List.getElem?_of_mem hx
    obtain ⟨p, hp, e1, e2, e3, e4⟩ := h2.at hi
    exact aa_lt e4 q ad e
def rowL (bits : Int) : List Int := bits :: List.replicate 23 0
theorem RetB.eq {w : World} {ok : Bool} {id ver ver' : Int} {ar : List Int} {l l' : List Prod.Pc} {e : Ending} {w' : World} (h : RetB w ok id ver ar l e w') (k : ok = true) (hv : ver = ver') (hl : l = l') : RetPrd w id ver' ar l' e w' := by subst hv hl; exact h.y k
def PcsB (w : World) (b o : Nat) (l : List Prod.Pc) : Prop := ∃ rs, (∀ (i : Nat) x, rs[i]? = some x → RawAt w b (o + i * 4) x) ∧ Reads w rs l
theorem PcsB.nil {w : World} {b o : Nat} : PcsB w b o [] := ⟨[], fun i x h => by simp at h, trivial⟩
theorem PcsB.cons {w : World} {b o o' : Nat} {l : List Prod.Pc} {p : Prod.Pc} {ar : Option Addr} {k c : Nat} (ho : o' = o + 4) (c0 : w.cell? ⟨b, o, none⟩ = some (.int .i64 p.im)) (c1 : w.cell? ⟨b, o + 1, none⟩ = some (.int .i64 p.t)) (c2 : w.cell? ⟨b, o + 2, none⟩ = some (.bool p.cl)) (c3 : w.cell? ⟨b, o + 3, none⟩ = some (.slice ar k c)) (hA : AA w ar p.rw k (Globe.validL p.rw)) (h : PcsB w b o' l) : PcsB w b o (p :: l) := by
 subst ho
 obtain ⟨rs, h1, h2⟩ := h
 refine ⟨⟨p.im, p.t, p.cl, ar, k, c⟩ :: rs, fun i x hx => ?_, ⟨rfl, rfl, rfl, hA⟩, h2⟩
 cases i with
 | zero => simp at hx; subst hx; rw [Nat.zero_mul]; exact ⟨c0, c1, c2, c3⟩
 | succ i =>
  have := h1 i x (by simpa using hx)
  rwa [show o + (i + 1) * 4 = o + 4 + i * 4 by omega]
theorem PcsB.at {w : World} {b n : Nat} {l : List Prod.Pc} (h : PcsB w b 0 l) (hl : l.length = n) (hn : n ≤ 1000) : PcsAt w (some ⟨b, 0, none⟩) n l := by
 obtain ⟨rs, h1, h2⟩ := h
 have := h2.len
 exact ⟨rs, ⟨by omega, by omega, .inr ⟨b, 0, rfl, h1⟩⟩, h2⟩
def p4 : Prod.Pc := ⟨4, 100, true, rowL 3⟩
def p5 : Prod.Pc := ⟨5, 200, false, rowL 6⟩
def p6 : Prod.Pc := ⟨6, 300, true, rowL 2⟩
def p7 : Prod.Pc := ⟨7, 150, false, rowL 2⟩
section
variable {w1 w2 w3 w4 : World} {id ver id2 ver2 : Int} {ar ar2 : List Int} {ps qs : List Prod.Pc} {a1 a b1 b : Option Addr} {n1 n m1 m : Nat} {r : Bool}
theorem Complete_r (c1 : Nat) {c : Nat} (w : World) (hnc : n ≤ c) (hA : AA w1 a1 ar n1 (Globe.validL ar)) (e1 : Ext w1 w) (hP : PcsAt w2 a n ps) (e2 : Ext w2 w) (hT : Tab w) (hr : (Prod.validP id ver ar ps && Prod.noC (Prod.rest ar ps)) = r) : Calls Tryz.prog 17 #[.agg #[.int .i64 id, .int .i64 ver, .slice a1 n1 c1, .slice a n c]] w fun e w' => e = .returned (.bool r) ∧ Ext w w' := hr ▸ Complete_c c1 w hnc hA e1 hP e2 hT
end
end Go.Proofs.YtajdohcgjgknmaaGreatDoor

namespace Go.Proofs.YtajdohcgjgknmaaGreatDoor
namespace Prod
open Globe
theorem own_valid {r : List Int} {x : Pc} (h : validL r = true) (hx : okP x = true) : okP (own r x) = true := by
 obtain ⟨a, b, c⟩ := okP_t.1 hx
 exact okP_t.2 ⟨a, b, meet_valid h⟩
theorem mem_divF : ∀ {s : List Pc} {r : List Int} {y : Pc}, y ∈ divF r s → ∃ p ∈ s, y.im = p.im ∧ y.cl = p.cl ∧ y.t = p.t ∧ ∀ u v, v < 24 → hasL y.rw u v = true → hasL p.rw u v = true ∧ hasL r u v = true
  | [], _, _, h => by cases h
  | x :: s, r, y, h => by
    rw [divF] at h
    rcases List.mem_append.1 h with h | h
    · split at h
      · cases h
      · rw [List.mem_singleton.1 h]
        refine ⟨x, by simp, rfl, rfl, rfl, fun u v hv hh => ?_⟩
        have : hasL (meetL r x.rw) u v = true := hh
        rw [has_meet hv, Bool.and_eq_true] at this
        exact ⟨this.2, this.1⟩
    · obtain ⟨p, hp, h1, h2, h3, h4⟩ := mem_divF h
      refine ⟨p, by simp [hp], h1, h2, h3, fun u v hv hh => ?_⟩
      obtain ⟨q1, q2⟩ := h4 u v hv hh
      rw [has_less hv, Bool.and_eq_true] at q2
      exact ⟨q1, q2.1⟩
theorem noC_false {l : List Int} (h : validL l = true) : noC l = false ↔ ∃ x y, x < 48 ∧ y < 24 ∧ hasL l x y = true := by
  constructor
  · intro hn
    apply Classical.byContradiction
    intro hc
    have : noC l = true := (noC_iff h).2 fun x y hx hy => by
      cases hh : hasL l x y
      · rfl
      · exact absurd ⟨x, y, hx, hy, hh⟩ hc
    rw [hn] at this; cases this
  · rintro ⟨x, y, hx, hy, hh⟩
    cases hn : noC l
    · rfl
    · rw [(noC_iff h).1 hn x y hx hy] at hh; cases hh
theorem any_im {pre : List Pc} {im : Int} (h : ∀ q ∈ pre, q.im ≠ im) : (pre.any fun p => decide (p.im = im)) = false := by
 rw [List.any_eq_false]
 exact fun q hq => by simpa using h q hq
theorem vGo_div : ∀ (n : Nat) {s : List Pc}, s.length = n → Sorted s → Dist s → (∀ p ∈ s, okP p = true) → ∀ {r : List Int}, validL r = true → ∀ {free : List Int} {pre : List Pc}, validL free = true →
    (∀ y ∈ divF r s, ∀ u v, v < 24 → hasL y.rw u v = true → hasL free u v = true) → (∀ q ∈ pre, ∀ p ∈ s, q.im ≠ p.im) → (∀ q, pre.getLast? = some q → ∀ p ∈ s, better p q = true) → vGo free pre (divF r s).reverse = true
  | 0, s, hl, _, _, _, r, _, free, pre, _, _, _, _ => by
    obtain rfl := List.eq_nil_of_length_eq_zero hl
    rfl
  | n + 1, s, hl, hs, hd, ho, r, hr, free, pre, hf, hin, him, hbt => by
    rcases List.eq_nil_or_concat s with rfl | ⟨s', x, rfl⟩
    · simp at hl
    rw [List.concat_eq_append] at *
    have hl' : s'.length = n := by simpa using hl
    have hs' : Sorted s' := (List.pairwise_append.1 hs).1
    have hd' : Dist s' := (List.pairwise_append.1 hd).1
    have hsx : ∀ p ∈ s', better p x = true := fun p hp => (List.pairwise_append.1 hs).2.2 p hp x (by simp)
    have hdx : ∀ p ∈ s', p.im ≠ x.im := fun p hp => (List.pairwise_append.1 hd).2.2 p hp x (by simp)
    have ho' : ∀ p ∈ s', okP p = true := fun p hp => ho p (by simp [hp])
    have hR := rest_valid s' hr
    rw [divF_snoc] at hin ⊢
    rw [List.reverse_append]
    cases hz : noC (meetL (rest r s') x.rw)
    · rw [hz] at hin
      rw [if_neg (by simp)] at hin ⊢
      show vGo free pre (own (rest r s') x :: (divF r s').reverse) = true
      have hoy : okP (own (rest r s') x) = true := own_valid hR (ho x (by simp))
      have hyv : validL (own (rest r s') x).rw = true := meet_valid hR
      rw [vGo, Bool.and_eq_true]
      refine ⟨?_, vGo_div n hl' hs' hd' ho' hr (less_valid hf) (fun y hy u v hv hh => ?_) (fun q hq p hp => ?_) (fun q hq p hp => ?_)⟩
      · unfold stepOk
        rw [hoy, show noC (own (rest r s') x).rw = false from hz, (contains_iff hf hyv).2 (fun u v _ hv hh => hin _ (by simp) u v hv hh), any_im (im := (own (rest r s') x).im) (fun q hq => him q hq x (by simp))]
        cases hg : pre.getLast? with
        | none => rfl
        | some q => have h9 : better (own (rest r s') x) q = true := hbt q hg x (by simp); dsimp only; rw [h9]; rfl
      · rw [has_less hv, hin y (by simp [hy]) u v hv hh]
        obtain ⟨p, hp, _, _, _, h4⟩ := mem_divF hy
        have h5 := (h4 u v hv hh).1
        cases h6 : hasL (own (rest r s') x).rw u v
        · rfl
        · have h7 : hasL (meetL (rest r s') x.rw) u v = true := h6
          rw [has_meet hv, has_rest hv, Bool.and_eq_true, Bool.and_eq_true] at h7
          have h8 := List.all_eq_true.1 h7.1.2 p hp
          rw [h5] at h8; cases h8
      · rcases List.mem_append.1 hq with hq | hq
        · exact him q hq p (by simp [hp])
        · rw [List.mem_singleton.1 hq]; exact (hdx p hp).symm
      · rw [List.getLast?_append, List.getLast?_singleton] at hq
        cases hq
        exact hsx p hp
    · rw [hz] at hin
      rw [if_pos rfl] at hin ⊢
      rw [List.append_nil] at hin
      show vGo free pre (divF r s').reverse = true
      exact vGo_div n hl' hs' hd' ho' hr hf hin (fun q hq p hp => him q hq p (by simp [hp])) (fun q hq p hp => hbt q hq p (by simp [hp]))
theorem sortD_ok {l : List Pc} (h : ∀ p ∈ l, okP p = true) : ∀ p ∈ sortD l, okP p = true := fun p hp => h p ((sortD_perm l).mem_iff.1 hp)
theorem divide_len (ar : List Int) (l : List Pc) : (divide ar l).length ≤ l.length := by
 unfold divide
 rw [List.length_reverse]
 exact T (divF_len _ _) (Nat.le_of_eq (sortD_perm l).length_eq)
theorem divide_valid {id ver : Int} {ar : List Int} {l : List Pc} (hid : 0 ≤ id ∧ id ≤ 63) (hver : 1 ≤ ver ∧ ver ≤ 100) (ha : validL ar = true) (ho : ∀ p ∈ l, okP p = true) (hd : Dist l) (hn : l.length ≤ 24) : validP id ver ar (divide ar l) = true := by
 unfold validP headOk
 rw [inB_t.2 hid, inB_t.2 hver, ha, decide_eq_true (T (divide_len ar l) hn)]
 have := vGo_div _ rfl (sortD_sorted hd) ((Dist.perm (sortD_perm l)).2 hd) (sortD_ok ho) ha (free := ar) (pre := []) ha (fun y hy u v hv hh => by
  obtain ⟨p, _, _, _, _, h4⟩ := mem_divF hy
  exact (h4 u v hv hh).2) (fun q hq => by cases hq) (fun q hq => by simp at hq)
 exact this
theorem build_ok {id : Int} {ar : List Int} {l : List Pc} (hid : 0 ≤ id ∧ id ≤ 63) (ha : validL ar = true) (hg : goodL l = true) (hn : l.length ≤ 24) : buildOk id ar l = true := by
 unfold buildOk
 rw [decide_eq_true hn, ha, hg, divide_valid hid (by omega) ha (goodL_ok hg) (goodL_dist hg) hn]; rfl
end Prod
end Go.Proofs.YtajdohcgjgknmaaGreatDoor

namespace Go.Proofs.YtajdohcgjgknmaaGreatDoor
namespace Prod
open Globe
theorem okP_v {p : Pc} (h : okP p = true) : validL p.rw = true := (okP_t.1 h).2.2
theorem divide_ok {ar : List Int} {l : List Pc} (ha : validL ar = true) (ho : ∀ p ∈ l, okP p = true) : ∀ p ∈ divide ar l, okP p = true := by
  have key : ∀ {s : List Pc} {r : List Int}, validL r = true → (∀ p ∈ s, okP p = true) → ∀ y ∈ divF r s, okP y = true := by
    intro s
    induction s with
    | nil => intro r _ _ y hy; cases hy
    | cons x s ih =>
      intro r hr hs y hy
      rw [divF] at hy
      rcases List.mem_append.1 hy with hy | hy
      · split at hy
        · cases hy
        · rw [List.mem_singleton.1 hy]; exact own_valid hr (hs x (by simp))
      · exact ih (less_valid hr) (fun p hp => hs p (by simp [hp])) y hy
  exact fun p hp => key ha (sortD_ok ho) p (List.mem_reverse.1 hp)
theorem has_divF : ∀ {s : List Pc} {r : List Int} {u v : Nat}, u < 48 → v < 24 → validL r = true → ((∃ y ∈ divF r s, hasL y.rw u v = true) ↔ hasL r u v = true ∧ ∃ p ∈ s, hasL p.rw u v = true)
  | [], _, _, _, _, _, _ => ⟨(fun ⟨y, hy, _⟩ => by cases hy), fun ⟨_, p, hp, _⟩ => by cases hp⟩
  | z :: s, r, u, v, hu, hv, h => by
    have ih := has_divF (s := s) hu hv (less_valid (b := z.rw) h)
    constructor
    · rintro ⟨y, hy, hh⟩
      obtain ⟨p, hp, _, _, _, h4⟩ := mem_divF hy
      exact ⟨(h4 u v hv hh).2, p, hp, (h4 u v hv hh).1⟩
    · rintro ⟨hr, p, hp, hh⟩
      rw [divF]
      cases hz : hasL z.rw u v
      · rcases List.mem_cons.1 hp with rfl | hp
        · rw [hh] at hz; cases hz
        · obtain ⟨y, hy, k⟩ := ih.2 ⟨by rw [has_less hv, hr, hz]; rfl, p, hp, hh⟩
          exact ⟨y, by simp [hy], k⟩
      · have hm : hasL (meetL r z.rw) u v = true := by rw [has_meet hv, hr, hz]; rfl
        have hq : noC (meetL r z.rw) = false := (noC_false (meet_valid h)).2 ⟨u, v, hu, hv, hm⟩
        exact ⟨own r z, by rw [hq]; simp, hm⟩
theorem find_has {ps : List Pc} {u v : Nat} (hu : u < 48) (hv : v < 24) (ho : ∀ p ∈ ps, okP p = true) : (∀ x, ps.find? (fun p => hasB p.rw ((u : Nat) : Int) ((v : Nat) : Int)) = some x → x ∈ ps ∧ hasL x.rw u v = true) ∧ (ps.find? (fun p => hasB p.rw ((u : Nat) : Int) ((v : Nat) : Int)) = none ↔ ¬ ∃ x ∈ ps, hasL x.rw u v = true) := by
  constructor
  · intro x hx
    have hm := List.mem_of_find?_eq_some hx
    have := List.find?_some hx
    rw [hasB_nat (okP_v (ho x hm)) hu hv] at this
    exact ⟨hm, this⟩
  · rw [List.find?_eq_none]
    constructor
    · rintro h ⟨x, hx, hh⟩
      exact h x hx (by rw [hasB_nat (okP_v (ho x hx)) hu hv]; exact hh)
    · intro h x hx hh
      rw [hasB_nat (okP_v (ho x hx)) hu hv] at hh
      exact h ⟨x, hx, hh⟩
theorem has_divide {ar : List Int} {l : List Pc} {u v : Nat} (hu : u < 48) (hv : v < 24) (ha : validL ar = true) : (∃ y ∈ divide ar l, hasL y.rw u v = true) ↔ hasL ar u v = true ∧ ∃ p ∈ l, hasL p.rw u v = true := by
  have := has_divF (s := sortD l) (r := ar) hu hv ha
  unfold divide
  constructor
  · rintro ⟨y, hy, hh⟩
    obtain ⟨h1, p, hp, h2⟩ := this.1 ⟨y, List.mem_reverse.1 hy, hh⟩
    exact ⟨h1, p, (sortD_perm l).mem_iff.1 hp, h2⟩
  · rintro ⟨h1, p, hp, h2⟩
    obtain ⟨y, hy, hh⟩ := this.2 ⟨h1, p, (sortD_perm l).mem_iff.2 hp, h2⟩
    exact ⟨y, List.mem_reverse.2 hy, hh⟩
theorem divide_from {ar : List Int} {l : List Pc} {x : Pc} (hx : x ∈ divide ar l) : ∃ p ∈ l, x.im = p.im ∧ x.cl = p.cl ∧ x.t = p.t ∧ ∀ u v, v < 24 → hasL x.rw u v = true → hasL p.rw u v = true ∧ hasL ar u v = true := by
 obtain ⟨p, hp, h⟩ := mem_divF (List.mem_reverse.1 hx)
 exact ⟨p, (sortD_perm l).mem_iff.1 hp, h⟩
theorem has_rest_div {ar : List Int} {l : List Pc} {u v : Nat} (hu : u < 48) (hv : v < 24) (ha : validL ar = true) : hasL (rest ar (divide ar l)) u v = (hasL ar u v && l.all fun p => !hasL p.rw u v) := by
  rw [has_rest hv]
  cases hr : hasL ar u v
  · rfl
  · rw [Bool.true_and, Bool.true_and, Bool.eq_iff_iff, List.all_eq_true, List.all_eq_true]
    constructor
    · intro h p hp
      cases hh : hasL p.rw u v
      · rfl
      · obtain ⟨y, hy, k⟩ := (has_divide hu hv ha).2 ⟨hr, p, hp, hh⟩
        have := h y hy; rw [k] at this; cases this
    · intro h y hy
      cases hh : hasL y.rw u v
      · rfl
      · obtain ⟨_, p, hp, k⟩ := (has_divide (l := l) hu hv ha).1 ⟨y, hy, hh⟩
        have := h p hp; rw [k] at this; cases this
theorem take_snoc {T : List Pc} {j : Nat} {x : Pc} (h : T[j]? = some x) : T.take (j + 1) = T.take j ++ [x] := by rw [List.take_add_one, h]; rfl
end Prod
end Go.Proofs.YtajdohcgjgknmaaGreatDoor

namespace Go.Proofs.YtajdohcgjgknmaaGreatDoor
namespace Prod
open Globe
def BestI (l : List Pc) (u v k : Nat) (b : Int) : Prop :=
 (b = -1 ∧ ∀ p ∈ l.take k, hasL p.rw u v = false) ∨ ∃ (j : Nat) (p : Pc), b = (j : Int) ∧ j < k ∧ l[j]? = some p ∧ hasL p.rw u v = true ∧ ∀ q ∈ l.take k, hasL q.rw u v = true → better q p = false
theorem BestI.zero (l : List Pc) (u v : Nat) : BestI l u v 0 (-1) := .inl ⟨rfl, fun p hp => by simp at hp⟩
theorem mem_snoc {l : List Pc} {k : Nat} {x q : Pc} (hx : l[k]? = some x) (hq : q ∈ l.take (k + 1)) : q ∈ l.take k ∨ q = x := by
 rw [take_snoc hx] at hq
 rcases List.mem_append.1 hq with h | h
 · exact .inl h
 · exact .inr (List.mem_singleton.1 h)
theorem BestI.skip {l : List Pc} {u v k : Nat} {b : Int} {x : Pc} (h : BestI l u v k b) (hx : l[k]? = some x) (hn : hasL x.rw u v = false) : BestI l u v (k + 1) b := by
  rcases h with ⟨h1, h2⟩ | ⟨j, p, h1, h2, h3, h4, h5⟩
  · refine .inl ⟨h1, fun q hq => ?_⟩
    rcases mem_snoc hx hq with hq | rfl
    · exact h2 q hq
    · exact hn
  · refine .inr ⟨j, p, h1, by omega, h3, h4, fun q hq hh => ?_⟩
    rcases mem_snoc hx hq with hq | rfl
    · exact h5 q hq hh
    · rw [hn] at hh; cases hh
theorem BestI.first {l : List Pc} {u v k : Nat} {x : Pc} (hno : ∀ p ∈ l.take k, hasL p.rw u v = false) (hx : l[k]? = some x) (hn : hasL x.rw u v = true) : BestI l u v (k + 1) (k : Int) := by
 refine .inr ⟨k, x, rfl, by omega, hx, hn, fun q hq hh => ?_⟩
 rcases mem_snoc hx hq with hq | rfl
 · rw [hno q hq] at hh; cases hh
 · exact better_irrefl _
theorem BestI.take {l : List Pc} {u v k : Nat} {p x : Pc} (h5 : ∀ q ∈ l.take k, hasL q.rw u v = true → better q p = false) (hx : l[k]? = some x) (hn : hasL x.rw u v = true) (hb : better x p = true) : BestI l u v (k + 1) (k : Int) := by
  refine .inr ⟨k, x, rfl, by omega, hx, hn, fun q hq hh => ?_⟩
  rcases mem_snoc hx hq with hq | rfl
  · cases hqx : better q x
    · rfl
    · have := better_trans hqx hb
      rw [h5 q hq hh] at this; cases this
  · exact better_irrefl _
theorem BestI.keep {l : List Pc} {u v k j : Nat} {p x : Pc} (h2 : j < k) (h3 : l[j]? = some p) (h4 : hasL p.rw u v = true) (h5 : ∀ q ∈ l.take k, hasL q.rw u v = true → better q p = false) (hx : l[k]? = some x) (hb : better x p = false) : BestI l u v (k + 1) (j : Int) := by
 refine .inr ⟨j, p, rfl, by omega, h3, h4, fun q hq hh => ?_⟩
 rcases mem_snoc hx hq with hq | rfl
 · exact h5 q hq hh
 · exact hb
theorem rest_none {ar : List Int} {l : List Pc} {u v : Nat} (hu : u < 48) (hv : v < 24) (ha : validL ar = true) (hr : hasL ar u v = true) (ho : ∀ p ∈ l, okP p = true) (hf : (divide ar l).find? (fun p => hasB p.rw ((u : Nat) : Int) ((v : Nat) : Int)) = none) : hasL (rest ar (divide ar l)) u v = true := by
 rw [has_rest hv, hr, Bool.true_and, List.all_eq_true]
 intro p hp
 cases hh : hasL p.rw u v
 · rfl
 · exact absurd ⟨p, hp, hh⟩ ((find_has hu hv (divide_ok ha ho)).2.1 hf)
theorem rest_some {ar : List Int} {l : List Pc} {u v : Nat} {x : Pc} (hu : u < 48) (hv : v < 24) (ha : validL ar = true) (ho : ∀ p ∈ l, okP p = true) (hf : (divide ar l).find? (fun p => hasB p.rw ((u : Nat) : Int) ((v : Nat) : Int)) = some x) : hasL (rest ar (divide ar l)) u v = false := by
 obtain ⟨g1, g2⟩ := (find_has hu hv (divide_ok ha ho)).1 x hf
 rw [has_rest hv]
 cases hh : ((divide ar l).all fun p => !hasL p.rw u v)
 · rw [Bool.and_false]
 · have := List.all_eq_true.1 hh x g1; rw [g2] at this; cases this
end Prod
end Go.Proofs.YtajdohcgjgknmaaGreatDoor
