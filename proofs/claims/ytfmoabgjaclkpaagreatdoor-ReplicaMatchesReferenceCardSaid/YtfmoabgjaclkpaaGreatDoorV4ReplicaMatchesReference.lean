/- Part 4 of what the proof of ReplicaMatchesReference stands on. -/
import Derived.Test.YtfmoabgjaclkpaaGreatDoorV3ReplicaMatchesReference
import Derived.Shelf.SlSortCmp.Whole1
import Derived.Laws.IdiomStrings
import Derived.Laws.BytesArg
import Derived.Lib.ConvBytes
namespace Go.Proofs.YtfmoabgjaclkpaaGreatDoor
set_option maxRecDepth 1000000
set_option maxHeartbeats 4000000
set_option synthInstance.maxHeartbeats 0
set_option synthInstance.maxSize 9999
open Go.RowKit
def Tz36_0 : List Row := [(some 7, [1], []), (some 8, [2], []), (some 9, [8], [1]), (some 10, [7, 9], [0, 2]), (some 6, [10], [3]), (some 11, [6], [4]), (some 12, [6], [4]), (some 4, [], []), (none, [4, 11], [7, 5, 2, 0, 1, 2, 3, 4, 5, 7]), (some 5, [12], [6, 8, 0, 1, 2, 3, 4, 5, 6, 7, 8])]
namespace Rep
def knownB (mp : List ((Int × Int) × Rec)) (r : Rec) : Bool := (getM r.key mp).isSome
theorem ix_cases (p : Rec → Bool) (l : List Rec) : (ixF p l = -1 ∧ ∀ j, j < l.length → p (recN l j) = false) ∨ ∃ i : Nat, ixF p l = (i : Int) ∧ i < l.length ∧ (∀ j, j < i → p (recN l j) = false) ∧ p (recN l i) = true := by
 unfold ixF
 cases h : l.findIdx? p with
 | none =>
  refine .inl ⟨rfl, fun j hj => ?_⟩
  rw [recN_get hj]; exact List.findIdx?_eq_none_iff.1 h _ (List.getElem_mem hj)
 | some i =>
  obtain ⟨hi, hp, hno⟩ := List.findIdx?_eq_some_iff_getElem.1 h
  exact .inr ⟨i, rfl, hi, fun j hj => by rw [recN_get (by omega)]; exact Bool.eq_false_iff.2 (hno j hj), by rw [recN_get hi]; exact hp⟩
theorem del_snoc {p : Rec → Bool} {l : List Rec} {j : Nat} (hj : j < l.length) : (l.take (j + 1)).filter (fun x => !p x) = (l.take j).filter (fun x => !p x) ++ if p (recN l j) = true then [] else [recN l j] := by
 rw [recN_take hj, List.filter_append]
 cases h : p (recN l j) <;> simp [h]
theorem del_all {p : Rec → Bool} {l : List Rec} (h : ∀ j, j < l.length → p (recN l j) = false) : l.filter (fun x => !p x) = l := List.filter_eq_self.2 fun x hx => by
 obtain ⟨i, hi, rfl⟩ := List.getElem_of_mem hx
 rw [← recN_get hi, h i hi]; rfl
theorem del_start {p : Rec → Bool} {l : List Rec} {i : Nat} (hi : i < l.length) (h : ∀ j, j < i → p (recN l j) = false) (hp : p (recN l i) = true) : l.take i = (l.take (i + 1)).filter fun x => !p x := by
 rw [del_snoc hi, if_pos hp, List.append_nil]
 exact (del_all fun j hj => by rw [List.length_take] at hj; rw [recN_get (by rw [List.length_take]; omega), List.getElem_take, ← recN_get (by omega)]; exact h j (by omega)).symm
theorem known_more {l1 l2 : List Rec} (h : keysD l1) : l2.filter (fun x => !knownB (bookL l1) x) = more l1 l2 := by
 unfold more knownB hasK
 congr 1
 funext x
 rw [book_get h]
end Rep
theorem Behind1_c {w1 : World} {B : Nat} {mp : List ((Int × Int) × Rec)} {w2 : World} {B6 : Nat} (x : Rec) (w : World) (hM : MapS keyV Rec.val w1 B mp) (e1 : Ext w1 w) (cB : w2.cell? ⟨B6, 0, none⟩ = some (.map (some B))) (e2 : Ext w2 w) : Calls Tryz.prog 67 #[rvv x, pw B6 0] w fun e w' => e = .returned (.bool (Rep.knownB mp x)) ∧ Ext w w' := by
 replace hM := hM.ext e1;clear e1;have hBl := hM.lt;replace cB := e2.cell cB;clear e2;have Er := World.block_lt_of_cell? _ _ cB;refine calls_cw 14 [(1, pw B6 0), (0, rvv x)] Tryz.func67 rfl Tryz.ntmps67 (by kernel_rfl) (by kernel_rfl) (fun L => ?_);have hE := Ext.refl w;refine zc (zp (pS (sw 49 #[iv x.c, iv x.n, iv x.t, iv x.o, iv x.w, iv x.k, .string x.x] ?_)));intro O1 X2 F0 Ez hb hbx;have ⟨B3, B4, B7, B8, Ba, Bb, Bc⟩ := bq7 hbx;replace hE := hE.trans hb;have Da := hb.size;have Fg := B3.lt;refine pT (.bool false) ?_;refine zn (cw_seq ?_);rcases hg : getM (x.c, x.n) mp with _ | y
 ·
  have B2 := Ext.refl X2;refine cw_join (fun ws' Y => ∃ Cv : Nat, ws' = [(5, .bool false)] ∧ Ext w Y ∧ Ext X2 Y ∧ BoxAt Y Cv 0 (iv 0) ∧ BoxAt Y Cv 1 (iv 0) ∧ BoxAt Y Cv 2 (iv 0) ∧ BoxAt Y Cv 3 (iv 0) ∧ BoxAt Y Cv 4 (iv 0) ∧ BoxAt Y Cv 5 (iv 0) ∧ BoxAt Y Cv 6 (.string (⟨#[]⟩)) ∧ X2.heap.size ≤ Y.heap.size ∧ X2.heap.size ≤ Cv) (fun hJ => ?_) ?_
  ·
   refine dE Tz36_0 (fun w' => w'.cell? ⟨B6, 0, none⟩ = some (.map (some B)) ∧ w'.cell? ⟨O1, 0, none⟩ = some (iv x.c) ∧ w'.cell? ⟨O1, 1, none⟩ = some (iv x.n) ∧ w'.cell? ⟨O1, 2, none⟩ = some (iv x.t) ∧ w'.cell? ⟨O1, 3, none⟩ = some (iv x.o) ∧ w'.cell? ⟨O1, 4, none⟩ = some (iv x.w) ∧ w'.cell? ⟨O1, 5, none⟩ = some (iv x.k) ∧ w'.cell? ⟨O1, 6, none⟩ = some (.string x.x)) (⟨(hE.cell cB), B3.1, B4.1, B7.1, B8.1, Ba.1, Bb.1, Bc.1⟩) (fun ops Q X6 hb hL hR hK => ?_);refine mv2 hb hE B2 fun hE B2=>?_;have Cx := hb.size;have E9 := A8 (hE.cell cB) (B3.c B2) (B4.c B2) (B7.c B2) (B8.c B2) (Ba.c B2) (Bb.c B2) (Bc.c B2);refine wM 0 (.map (some B)) hR (fun w hS => ld79 (hS.1)) E9 ?_;refine wM 1 (rvv x) hR (fun w hS => ld49 (hS.2.1) (hS.2.2.1) (hS.2.2.2.1) (hS.2.2.2.2.1) (hS.2.2.2.2.2.1) (hS.2.2.2.2.2.2.1) (hS.2.2.2.2.2.2.2)) E9 ?_;refine zw 2 7 hR ?_ ?_
   ·
    refine sc 68 #[rvv x] ((keyOf_c x _).mono ?_);rintro e w9 ⟨rfl, hb⟩;refine mv2 hb hE B2 fun hE B2=>?_;have Cm := hb.size;have Cy := A8 (hE.cell cB) (B3.c B2) (B4.c B2) (B7.c B2) (B8.c B2) (Ba.c B2) (Bb.c B2) (Bc.c B2);refine ⟨_, rfl, Cy, ?_⟩;refine zw 3 7 hR ?_ ?_
    ·
     refine sn_eff (v := .tuple #[.agg #[iv 0, iv 0, iv 0, iv 0, iv 0, iv 0, .string (⟨#[]⟩)], .bool false]) (w' := w9) (ex_lookup rfl (by kernel_rfl) (by kernel_rfl) (lookup_is2 (run_lookup2 Tryz.underlying79 (hM.ext hE) key_law (x.c, x.n) (zero_rec _)) hg)) ⟨Cy, ?_⟩;refine wW 4 (.tuple #[.agg #[iv 0, iv 0, iv 0, iv 0, iv 0, iv 0, .string (⟨#[]⟩)], .bool false]) 5 (.agg #[iv 0, iv 0, iv 0, iv 0, iv 0, iv 0, .string (⟨#[]⟩)]) hR Cy ?_;refine wV 6 (.bool false) hR Cy ?_;refine wN 7 49 #[iv 0, iv 0, iv 0, iv 0, iv 0, iv 0, .string (⟨#[]⟩)] hR ?_;intro Cv Ei D4 Ea hb hbx;have ⟨Be, Bv, Bw, Bx, By, Bz, C0⟩ := bq7 hbx;refine mv2 hb hE B2 fun hE B2=>?_;have Dq := hb.size;have F1 := Be.lt;have Dm := A8 (hE.cell cB) (B3.c B2) (B4.c B2) (B7.c B2) (B8.c B2) (Ba.c B2) (Bb.c B2) (Bc.c B2);refine ⟨Dm, ?_⟩;refine wS 8 hR (sn_setK7 (O := Cv) (j := 0) (v0 := iv 0) (v1 := iv 0) (v2 := iv 0) (v3 := iv 0) (v4 := iv 0) (v5 := iv 0) (v6 := .string (⟨#[]⟩)) (ex_store (p := pw Cv 0) (v := .agg #[iv 0, iv 0, iv 0, iv 0, iv 0, iv 0, .string (⟨#[]⟩)]) rfl (by kernel_rfl) (by kernel_rfl) (st49 Be.1 Be.2 Bv.1 Bv.2 Bw.1 Bw.2 Bx.1 Bx.2 By.1 By.2 Bz.1 Bz.2 C0.1 C0.2)) Be Bv Bw Bx By Bz C0 ?_);intro Ej ho Be Bv Bw Bx By Bz C0 hk;replace hE := ho.ext hE (T (T Da (T Cx Cm)) (Nat.le_of_eq D4));replace B2 := ho.ext B2 (T (T Cx Cm) (Nat.le_of_eq D4));have Dr := Nat.le_of_eq ho.size.symm;clear ho hk;have Db := A8 (hE.cell cB) (B3.c B2) (B4.c B2) (B7.c B2) (B8.c B2) (Ba.c B2) (Bb.c B2) (Bc.c B2);refine ⟨Db, ?_⟩;refine wV 9 (.bool false) hR Db ?_;refine we hL hR hK ?_;exact zl hJ [5] ⟨Cv, rfl, hE, B2, Be, Bv, Bw, Bx, By, Bz, C0, (T Cx (T Cm (T Dq Dr))), (T (T Cx Cm) (Nat.le_of_eq D4))⟩
    ·
     refine sw 49 #[iv 0, iv 0, iv 0, iv 0, iv 0, iv 0, .string (⟨#[]⟩)] ?_;intro Di E5 D5 Eb hb hbx;have ⟨C1, C9, Ca, Cb, Cc, Cd, Ce⟩ := bq7 hbx;refine mv2 hb hE B2 fun hE B2=>?_;have Dt := hb.size;have F2 := C1.lt;have Cz := A8 (hE.cell cB) (B3.c B2) (B4.c B2) (B7.c B2) (B8.c B2) (Ba.c B2) (Bb.c B2) (Bc.c B2);refine ⟨Cz, ?_⟩;refine wS 3 hR (sn_eff (v := .tuple #[.agg #[iv 0, iv 0, iv 0, iv 0, iv 0, iv 0, .string (⟨#[]⟩)], .bool false]) (w' := E5) (ex_lookup rfl (by kernel_rfl) (by kernel_rfl) (lookup_is2 (run_lookup2 Tryz.underlying79 (hM.ext hE) key_law (x.c, x.n) (zero_rec _)) hg)) ⟨Cz, ?_⟩);refine wW 4 (.tuple #[.agg #[iv 0, iv 0, iv 0, iv 0, iv 0, iv 0, .string (⟨#[]⟩)], .bool false]) 5 (.agg #[iv 0, iv 0, iv 0, iv 0, iv 0, iv 0, .string (⟨#[]⟩)]) hR Cz ?_;refine wV 6 (.bool false) hR Cz ?_;refine wS 8 hR (sn_setK7 (O := Di) (j := 0) (v0 := iv 0) (v1 := iv 0) (v2 := iv 0) (v3 := iv 0) (v4 := iv 0) (v5 := iv 0) (v6 := .string (⟨#[]⟩)) (ex_store (p := pw Di 0) (v := .agg #[iv 0, iv 0, iv 0, iv 0, iv 0, iv 0, .string (⟨#[]⟩)]) rfl (by kernel_rfl) (by kernel_rfl) (st49 C1.1 C1.2 C9.1 C9.2 Ca.1 Ca.2 Cb.1 Cb.2 Cc.1 Cc.2 Cd.1 Cd.2 Ce.1 Ce.2)) C1 C9 Ca Cb Cc Cd Ce ?_);intro Ek ho C1 C9 Ca Cb Cc Cd Ce hk;replace hE := ho.ext hE (T (T Da (T Cx Cm)) (Nat.le_of_eq D5));replace B2 := ho.ext B2 (T (T Cx Cm) (Nat.le_of_eq D5));have Du := Nat.le_of_eq ho.size.symm;clear ho hk;have Dc := A8 (hE.cell cB) (B3.c B2) (B4.c B2) (B7.c B2) (B8.c B2) (Ba.c B2) (Bb.c B2) (Bc.c B2);refine ⟨Dc, ?_⟩;refine wV 9 (.bool false) hR Dc ?_;refine we hL hR hK ?_;exact zl hJ [5] ⟨Di, rfl, hE, B2, C1, C9, Ca, Cb, Cc, Cd, Ce, (T Cx (T Cm (T Dt Du))), (T (T Cx Cm) (Nat.le_of_eq D5))⟩
   ·
    refine sw 49 #[iv 0, iv 0, iv 0, iv 0, iv 0, iv 0, .string (⟨#[]⟩)] ?_;intro Dj Fd D6 Ec hb hbx;have ⟨Bf, Bi, Bj, Bk, Bm, Bn, Bo⟩ := bq7 hbx;refine mv2 hb hE B2 fun hE B2=>?_;have Dv := hb.size;have F3 := Bf.lt;have Dn := A8 (hE.cell cB) (B3.c B2) (B4.c B2) (B7.c B2) (B8.c B2) (Ba.c B2) (Bb.c B2) (Bc.c B2);refine ⟨Dn, ?_⟩;refine wC 2 68 #[rvv x] hR ((keyOf_c x _).mono ?_);rintro e Eg ⟨rfl, hb⟩;refine mv9 hb hE B2 Bf Bi Bj Bk Bm Bn Bo fun hE B2 Bf Bi Bj Bk Bm Bn Bo=>?_;have Dw := hb.size;have D0 := A8 (hE.cell cB) (B3.c B2) (B4.c B2) (B7.c B2) (B8.c B2) (Ba.c B2) (Bb.c B2) (Bc.c B2);refine ⟨_, rfl, D0, ?_⟩;refine wS 3 hR (sn_eff (v := .tuple #[.agg #[iv 0, iv 0, iv 0, iv 0, iv 0, iv 0, .string (⟨#[]⟩)], .bool false]) (w' := Eg) (ex_lookup rfl (by kernel_rfl) (by kernel_rfl) (lookup_is2 (run_lookup2 Tryz.underlying79 (hM.ext hE) key_law (x.c, x.n) (zero_rec _)) hg)) ⟨D0, ?_⟩);refine wW 4 (.tuple #[.agg #[iv 0, iv 0, iv 0, iv 0, iv 0, iv 0, .string (⟨#[]⟩)], .bool false]) 5 (.agg #[iv 0, iv 0, iv 0, iv 0, iv 0, iv 0, .string (⟨#[]⟩)]) hR D0 ?_;refine wV 6 (.bool false) hR D0 ?_;refine wS 8 hR (sn_setK7 (O := Dj) (j := 0) (v0 := iv 0) (v1 := iv 0) (v2 := iv 0) (v3 := iv 0) (v4 := iv 0) (v5 := iv 0) (v6 := .string (⟨#[]⟩)) (ex_store (p := pw Dj 0) (v := .agg #[iv 0, iv 0, iv 0, iv 0, iv 0, iv 0, .string (⟨#[]⟩)]) rfl (by kernel_rfl) (by kernel_rfl) (st49 Bf.1 Bf.2 Bi.1 Bi.2 Bj.1 Bj.2 Bk.1 Bk.2 Bm.1 Bm.2 Bn.1 Bn.2 Bo.1 Bo.2)) Bf Bi Bj Bk Bm Bn Bo ?_);intro El ho Bf Bi Bj Bk Bm Bn Bo hk;replace hE := ho.ext hE (T (T Da Cx) (Nat.le_of_eq D6));replace B2 := ho.ext B2 (T Cx (Nat.le_of_eq D6));have Dx := Nat.le_of_eq ho.size.symm;clear ho hk;have Dd := A8 (hE.cell cB) (B3.c B2) (B4.c B2) (B7.c B2) (B8.c B2) (Ba.c B2) (Bb.c B2) (Bc.c B2);refine ⟨Dd, ?_⟩;refine wV 9 (.bool false) hR Dd ?_;refine we hL hR hK ?_;exact zl hJ [5] ⟨Dj, rfl, hE, B2, Bf, Bi, Bj, Bk, Bm, Bn, Bo, (T Cx (T Dv (T Dw Dx))), (T Cx (Nat.le_of_eq D6))⟩
  ·
   clear hE B2;rintro L ws E7 ⟨Cv, rfl, hE, B2, Be, Bv, Bw, Bx, By, Bz, C0, Eu, Ev⟩;have F4 := Be.lt;refine qw_then ?_;refine cw_seq ?_;have Es := Ext.refl E7;refine zp (pD (.bool false) (.bool false) ?_);refine zn (cw_ret (qw_ret [.bool false] rfl ⟨(by kernel_rfl), trivial⟩ ?_));exact ⟨rb (show Rep.knownB mp x = false by unfold Rep.knownB; show (getM (x.c, x.n) mp).isSome = _; rw [hg]; first | done | simp []).symm, hE⟩
 ·
  have B0 := Ext.refl X2;refine cw_join (fun ws' Y => ∃ Cw : Nat, ws' = [(5, .bool true)] ∧ Ext w Y ∧ Ext X2 Y ∧ BoxAt Y Cw 0 (iv y.c) ∧ BoxAt Y Cw 1 (iv y.n) ∧ BoxAt Y Cw 2 (iv y.t) ∧ BoxAt Y Cw 3 (iv y.o) ∧ BoxAt Y Cw 4 (iv y.w) ∧ BoxAt Y Cw 5 (iv y.k) ∧ BoxAt Y Cw 6 (.string y.x) ∧ X2.heap.size ≤ Y.heap.size ∧ X2.heap.size ≤ Cw) (fun hJ => ?_) ?_
  ·
   refine dE Tz36_0 (fun w' => w'.cell? ⟨B6, 0, none⟩ = some (.map (some B)) ∧ w'.cell? ⟨O1, 0, none⟩ = some (iv x.c) ∧ w'.cell? ⟨O1, 1, none⟩ = some (iv x.n) ∧ w'.cell? ⟨O1, 2, none⟩ = some (iv x.t) ∧ w'.cell? ⟨O1, 3, none⟩ = some (iv x.o) ∧ w'.cell? ⟨O1, 4, none⟩ = some (iv x.w) ∧ w'.cell? ⟨O1, 5, none⟩ = some (iv x.k) ∧ w'.cell? ⟨O1, 6, none⟩ = some (.string x.x)) (⟨(hE.cell cB), B3.1, B4.1, B7.1, B8.1, Ba.1, Bb.1, Bc.1⟩) (fun ops Q Fe hb hL hR hK => ?_);refine mv2 hb hE B0 fun hE B0=>?_;have Cl := hb.size;have De := A8 (hE.cell cB) (B3.c B0) (B4.c B0) (B7.c B0) (B8.c B0) (Ba.c B0) (Bb.c B0) (Bc.c B0);refine wM 0 (.map (some B)) hR (fun w hS => ld79 (hS.1)) De ?_;refine wM 1 (rvv x) hR (fun w hS => ld49 (hS.2.1) (hS.2.2.1) (hS.2.2.2.1) (hS.2.2.2.2.1) (hS.2.2.2.2.2.1) (hS.2.2.2.2.2.2.1) (hS.2.2.2.2.2.2.2)) De ?_;refine zw 2 7 hR ?_ ?_
   ·
    refine sc 68 #[rvv x] ((keyOf_c x _).mono ?_);rintro e Fc ⟨rfl, hb⟩;refine mv2 hb hE B0 fun hE B0=>?_;have Cn := hb.size;have D1 := A8 (hE.cell cB) (B3.c B0) (B4.c B0) (B7.c B0) (B8.c B0) (Ba.c B0) (Bb.c B0) (Bc.c B0);refine ⟨_, rfl, D1, ?_⟩;refine zw 3 7 hR ?_ ?_
    ·
     refine sn_eff (v := .tuple #[rvv y, .bool true]) (w' := Fc) (ex_lookup rfl (by kernel_rfl) (by kernel_rfl) (lookup_is2 (run_lookup2 Tryz.underlying79 (hM.ext hE) key_law (x.c, x.n) (zero_rec _)) hg)) ⟨D1, ?_⟩;refine wW 4 (.tuple #[rvv y, .bool true]) 5 (rvv y) hR D1 ?_;refine wV 6 (.bool true) hR D1 ?_;refine wN 7 49 #[iv 0, iv 0, iv 0, iv 0, iv 0, iv 0, .string (⟨#[]⟩)] hR ?_;intro Cw Em D7 Ed hb hbx;have ⟨Bg, C2, C3, C4, C5, C6, C7⟩ := bq7 hbx;refine mv2 hb hE B0 fun hE B0=>?_;have Dy := hb.size;have F5 := Bg.lt;have Do := A8 (hE.cell cB) (B3.c B0) (B4.c B0) (B7.c B0) (B8.c B0) (Ba.c B0) (Bb.c B0) (Bc.c B0);refine ⟨Do, ?_⟩;refine wS 8 hR (sn_setK7 (O := Cw) (j := 0) (v0 := iv y.c) (v1 := iv y.n) (v2 := iv y.t) (v3 := iv y.o) (v4 := iv y.w) (v5 := iv y.k) (v6 := .string y.x) (ex_store (p := pw Cw 0) (v := rvv y) rfl (by kernel_rfl) (by kernel_rfl) (st49 Bg.1 Bg.2 C2.1 C2.2 C3.1 C3.2 C4.1 C4.2 C5.1 C5.2 C6.1 C6.2 C7.1 C7.2)) Bg C2 C3 C4 C5 C6 C7 ?_);intro En ho Bg C2 C3 C4 C5 C6 C7 hk;replace hE := ho.ext hE (T (T Da (T Cl Cn)) (Nat.le_of_eq D7));replace B0 := ho.ext B0 (T (T Cl Cn) (Nat.le_of_eq D7));have Dz := Nat.le_of_eq ho.size.symm;clear ho hk;have Df := A8 (hE.cell cB) (B3.c B0) (B4.c B0) (B7.c B0) (B8.c B0) (Ba.c B0) (Bb.c B0) (Bc.c B0);refine ⟨Df, ?_⟩;refine wV 9 (.bool true) hR Df ?_;refine we hL hR hK ?_;exact zl hJ [5] ⟨Cw, rfl, hE, B0, Bg, C2, C3, C4, C5, C6, C7, (T Cl (T Cn (T Dy Dz))), (T (T Cl Cn) (Nat.le_of_eq D7))⟩
    ·
     refine sw 49 #[iv 0, iv 0, iv 0, iv 0, iv 0, iv 0, .string (⟨#[]⟩)] ?_;intro Dk E6 D8 Ee hb hbx;have ⟨C8, Cf, Cg, Ch, Ci, Cj, Ck⟩ := bq7 hbx;refine mv2 hb hE B0 fun hE B0=>?_;have E0 := hb.size;have F6 := C8.lt;have D2 := A8 (hE.cell cB) (B3.c B0) (B4.c B0) (B7.c B0) (B8.c B0) (Ba.c B0) (Bb.c B0) (Bc.c B0);refine ⟨D2, ?_⟩;refine wS 3 hR (sn_eff (v := .tuple #[rvv y, .bool true]) (w' := E6) (ex_lookup rfl (by kernel_rfl) (by kernel_rfl) (lookup_is2 (run_lookup2 Tryz.underlying79 (hM.ext hE) key_law (x.c, x.n) (zero_rec _)) hg)) ⟨D2, ?_⟩);refine wW 4 (.tuple #[rvv y, .bool true]) 5 (rvv y) hR D2 ?_;refine wV 6 (.bool true) hR D2 ?_;refine wS 8 hR (sn_setK7 (O := Dk) (j := 0) (v0 := iv y.c) (v1 := iv y.n) (v2 := iv y.t) (v3 := iv y.o) (v4 := iv y.w) (v5 := iv y.k) (v6 := .string y.x) (ex_store (p := pw Dk 0) (v := rvv y) rfl (by kernel_rfl) (by kernel_rfl) (st49 C8.1 C8.2 Cf.1 Cf.2 Cg.1 Cg.2 Ch.1 Ch.2 Ci.1 Ci.2 Cj.1 Cj.2 Ck.1 Ck.2)) C8 Cf Cg Ch Ci Cj Ck ?_);intro Eo ho C8 Cf Cg Ch Ci Cj Ck hk;replace hE := ho.ext hE (T (T Da (T Cl Cn)) (Nat.le_of_eq D8));replace B0 := ho.ext B0 (T (T Cl Cn) (Nat.le_of_eq D8));have E1 := Nat.le_of_eq ho.size.symm;clear ho hk;have Dg := A8 (hE.cell cB) (B3.c B0) (B4.c B0) (B7.c B0) (B8.c B0) (Ba.c B0) (Bb.c B0) (Bc.c B0);refine ⟨Dg, ?_⟩;refine wV 9 (.bool true) hR Dg ?_;refine we hL hR hK ?_;exact zl hJ [5] ⟨Dk, rfl, hE, B0, C8, Cf, Cg, Ch, Ci, Cj, Ck, (T Cl (T Cn (T E0 E1))), (T (T Cl Cn) (Nat.le_of_eq D8))⟩
   ·
    refine sw 49 #[iv 0, iv 0, iv 0, iv 0, iv 0, iv 0, .string (⟨#[]⟩)] ?_;intro Dl Ff D9 Ef hb hbx;have ⟨Bh, Bp, Bq, Br, Bs, Bt, Bu⟩ := bq7 hbx;refine mv2 hb hE B0 fun hE B0=>?_;have E2 := hb.size;have F7 := Bh.lt;have Dp := A8 (hE.cell cB) (B3.c B0) (B4.c B0) (B7.c B0) (B8.c B0) (Ba.c B0) (Bb.c B0) (Bc.c B0);refine ⟨Dp, ?_⟩;refine wC 2 68 #[rvv x] hR ((keyOf_c x _).mono ?_);rintro e Eh ⟨rfl, hb⟩;refine mv9 hb hE B0 Bh Bp Bq Br Bs Bt Bu fun hE B0 Bh Bp Bq Br Bs Bt Bu=>?_;have E3 := hb.size;have D3 := A8 (hE.cell cB) (B3.c B0) (B4.c B0) (B7.c B0) (B8.c B0) (Ba.c B0) (Bb.c B0) (Bc.c B0);refine ⟨_, rfl, D3, ?_⟩;refine wS 3 hR (sn_eff (v := .tuple #[rvv y, .bool true]) (w' := Eh) (ex_lookup rfl (by kernel_rfl) (by kernel_rfl) (lookup_is2 (run_lookup2 Tryz.underlying79 (hM.ext hE) key_law (x.c, x.n) (zero_rec _)) hg)) ⟨D3, ?_⟩);refine wW 4 (.tuple #[rvv y, .bool true]) 5 (rvv y) hR D3 ?_;refine wV 6 (.bool true) hR D3 ?_;refine wS 8 hR (sn_setK7 (O := Dl) (j := 0) (v0 := iv y.c) (v1 := iv y.n) (v2 := iv y.t) (v3 := iv y.o) (v4 := iv y.w) (v5 := iv y.k) (v6 := .string y.x) (ex_store (p := pw Dl 0) (v := rvv y) rfl (by kernel_rfl) (by kernel_rfl) (st49 Bh.1 Bh.2 Bp.1 Bp.2 Bq.1 Bq.2 Br.1 Br.2 Bs.1 Bs.2 Bt.1 Bt.2 Bu.1 Bu.2)) Bh Bp Bq Br Bs Bt Bu ?_);intro Ep ho Bh Bp Bq Br Bs Bt Bu hk;replace hE := ho.ext hE (T (T Da Cl) (Nat.le_of_eq D9));replace B0 := ho.ext B0 (T Cl (Nat.le_of_eq D9));have E4 := Nat.le_of_eq ho.size.symm;clear ho hk;have Dh := A8 (hE.cell cB) (B3.c B0) (B4.c B0) (B7.c B0) (B8.c B0) (Ba.c B0) (Bb.c B0) (Bc.c B0);refine ⟨Dh, ?_⟩;refine wV 9 (.bool true) hR Dh ?_;refine we hL hR hK ?_;exact zl hJ [5] ⟨Dl, rfl, hE, B0, Bh, Bp, Bq, Br, Bs, Bt, Bu, (T Cl (T E2 (T E3 E4))), (T Cl (Nat.le_of_eq D9))⟩
  ·
   clear hE B0;rintro L ws E8 ⟨Cw, rfl, hE, B0, Bg, C2, C3, C4, C5, C6, C7, Ew, Ey⟩;have F8 := Bg.lt;refine qw_then ?_;refine cw_seq ?_;have Et := Ext.refl E8;refine zp (pD (.bool true) (.bool true) ?_);refine zn (cw_ret (qw_ret [.bool true] rfl ⟨(by kernel_rfl), trivial⟩ ?_));exact ⟨rb (show Rep.knownB mp x = true by unfold Rep.knownB; show (getM (x.c, x.n) mp).isSome = _; rw [hg]; first | done | simp []).symm, hE⟩
theorem Behind1_r {w1 : World} {B : Nat} {mp : List ((Int × Int) × Rec)} {w2 : World} {B6 : Nat} (x : Rec) {r : Bool} (w : World) (hM : MapS keyV Rec.val w1 B mp) (e1 : Ext w1 w) (cB : w2.cell? ⟨B6, 0, none⟩ = some (.map (some B))) (e2 : Ext w2 w) (hr : (Rep.knownB mp x) = r) : Calls Tryz.prog 67 #[rvv x, .pointer (some ⟨B6, 0, none⟩)] w fun e w' => e = .returned (.bool r) ∧ Ext w w' := hr ▸ Behind1_c x w hM e1 cB e2
theorem IndexB_c {w1 : World} {B : Nat} {mp : List ((Int × Int) × Rec)} {w2 : World} {B6 : Nat} {w0 : World} {a : Option Addr} {n : Nat} {l : List Rec} (c : Nat) (w : World) (H : RecsAt w0 a n l) (e0 : Ext w0 w) (hM : MapS keyV Rec.val w1 B mp) (e1 : Ext w1 w) (cB : w2.cell? ⟨B6, 0, none⟩ = some (.map (some B))) (e2 : Ext w2 w) : Calls Tryz.prog 86 #[.slice a n c, .func (.func 67) #[] #[pw B6 0]] w fun e w' => e = .returned (iv (Rep.ixF ((Rep.knownB mp)) l)) ∧ Ext w w' := by
 replace H := H.ext e0;clear e0;obtain ⟨b, o, ha, hbr, hx⟩ := H.parts;have hln := H.len;have hmx := H.max;refine calls_cw 19 [(1, .func (.func 67) #[] #[pw B6 0]), (0, .slice a n c)] Tryz.func86 rfl Tryz.ntmps86 (by kernel_rfl) (by kernel_rfl) (fun L => ?_);have hE := Ext.refl w;refine zc (zp (pT (iv 0) ?_));refine zn (zc (zc (zp (pD (.slice a n c) (iv n) ?_))));refine pT (iv 0) ?_;refine zn (cw_block ?_);refine cw_loop [0, 1, 7, 8] (fun ws' wr m => ∃ i : Nat, ws' = [(0, .slice a n c), (1, .func (.func 67) #[] #[pw B6 0]), (7, iv n), (8, iv i)] ∧ m = n - i ∧ w.heap.size ≤ wr.heap.size ∧ Ext w wr ∧ i ≤ n ∧ (∀ j, j < i → (Rep.knownB mp) (recN l j) = false)) (ws0 := [(0, .slice a n c), (1, .func (.func 67) #[] #[pw B6 0]), (7, iv n), (8, iv 0)]) (by kernel_rfl) _ ⟨0, rfl, rfl, Nat.le_refl _, hE, Nat.zero_le _, (fun j hj => absurd hj (Nat.not_lt_zero j))⟩ ?_;clear hE;rintro m3 L ws w2 ⟨i, rfl, rfl, B0, hE, hi, hno⟩
 by_cases hlt : i < n
 ·
  obtain rfl := ha (by omega);have hbl := hbr (by omega);refine zc (zp (pU (.bool true) (ed (((i : Nat) : Int) < ((n : Nat) : Int)) (by omega)) ?_));refine zn (zc (zt ?_));refine cw_skip (zq (zc (cw_block ?_)));refine zc (zp (pD (iv i) (iv i) ?_));refine zn (cw_seq ?_)
  cases hq : (Rep.knownB mp) (recN l i)
  ·
   refine zp (pD (.func (.func 67) #[] #[pw B6 0]) (sv b o n c) ?_);refine pT (iv i) ?_;refine pU (pw b (o + i * 7)) (xi (sv b o n c) (iv i) (ix23 (k := i) (by omega))) ?_;refine pU (rvv (recN l i)) (xl (rl ((hx.ext hE).r (i := i) (by omega)))) ?_;refine pS (sc 67 #[rvv (recN l i), pw B6 0] ((Behind1_r (recN l i) (r := false) _ hM (e1.trans hE) cB (e2.trans hE) hq).mono ?_));rintro e w4 ⟨rfl, hb⟩;replace hE := hE.trans hb;have B2 := hb.size;refine ⟨_, rfl, ?_⟩;refine zn (zf ?_);refine cw_skip (qw_block (zq (zp (pU (iv ((i + 1 : Nat) : Int)) (ew (by omega) (by omega)) ?_))));refine pT (iv ((i + 1 : Nat) : Int)) ?_;refine pl_nil (zr [0, 1, 7, 8] _ ?_ ⟨(i + 1), rfl, rfl, (T B0 B2), hE, by omega, (fun j hj => by rcases Nat.lt_succ_iff_lt_or_eq.1 hj with h | h; exact hno j h; rw [h]; exact hq)⟩);omega
  ·
   refine zp (pD (.func (.func 67) #[] #[pw B6 0]) (sv b o n c) ?_);refine pT (iv i) ?_;refine pU (pw b (o + i * 7)) (xi (sv b o n c) (iv i) (ix23 (k := i) (by omega))) ?_;refine pU (rvv (recN l i)) (xl (rl ((hx.ext hE).r (i := i) (by omega)))) ?_;refine pS (sc 67 #[rvv (recN l i), pw B6 0] ((Behind1_r (recN l i) (r := true) _ hM (e1.trans hE) cB (e2.trans hE) hq).mono ?_));rintro e w6 ⟨rfl, hb⟩;replace hE := hE.trans hb;have B3 := hb.size;refine ⟨_, rfl, ?_⟩;refine zn (zt ?_);refine zc (zp (pD (iv i) (iv i) ?_));refine zn (cK [4] (fun L => ?_));refine cw_ret (qw_block_ret (qw_then_ret (qw_then_ret (qw_block_ret (qw_then_ret (qw_ret [iv i] rfl ⟨(by kernel_rfl), trivial⟩ ?_))))));exact ⟨congrArg (fun z => Ending.returned (Value.int .i64 z)) (Rep.ix_found (by omega) hno hq).symm, hE⟩
 ·
  refine zc (zp (pU (.bool false) (en (((i : Nat) : Int) < ((n : Nat) : Int)) (by omega)) ?_));refine zn (zc (zf ?_));refine cw_exit (qw_then_exit (qw_then_exit (qw_block_out (zq (zc (zp (pT (iv (-1 : Int)) ?_)))))));refine zn (cw_ret (qw_ret [iv (-1 : Int)] rfl ⟨(by kernel_rfl), trivial⟩ ?_));exact ⟨congrArg (fun z => Ending.returned (Value.int .i64 z)) (Rep.ix_none fun j hj => hno j (by omega)).symm, hE⟩
theorem IndexB_x {w1 : World} {B : Nat} {mp : List ((Int × Int) × Rec)} {w2 : World} {B6 : Nat} {w0 : World} {a : Option Addr} {n : Nat} {l : List Rec} (c : Nat) (w : World) (H : RecsAt w0 a n l) (e0 : Ext w0 w) (hM : MapS keyV Rec.val w1 B mp) (e1 : Ext w1 w) (cB : w2.cell? ⟨B6, 0, none⟩ = some (.map (some B))) (e2 : Ext w2 w) : Calls Tryz.prog 86 #[.slice a n c, .func (.func 67) #[] #[.pointer (some ⟨B6, 0, none⟩)]] w fun e w' => ∃ z, e = .returned (.int .i64 z) ∧ ((z = -1 ∧ ∀ j, j < n → Rep.knownB mp (recN l j) = false) ∨ ∃ i : Nat, z = (i : Int) ∧ i < n ∧ (∀ j, j < i → Rep.knownB mp (recN l j) = false) ∧ Rep.knownB mp (recN l i) = true) ∧ Ext w w' :=
 (IndexB_c c w H e0 hM e1 cB e2).mono fun _ _ ⟨h1, h2⟩ => ⟨_, h1, by have := Rep.ix_cases (Rep.knownB mp) l; rwa [H.len] at this, h2⟩
theorem Delete_c {B : Nat} {mp : List ((Int × Int) × Rec)} {B6 : Nat} {g n c : Nat} {l : List Rec} (w : World) (hRc : RecsW w g l) (hl : l.length = n) (hg : g < w.heap.size) (hnc : n ≤ c) (hn : n ≤ 1000) (hM : MapS keyV Rec.val w B mp) (cB : w.cell? ⟨B6, 0, none⟩ = some (.map (some B))) (hB1 : B < g) (hB2 : B6 < g) : Calls Tryz.prog 65 #[sv g 0 n c, .func (.func 67) #[] #[pw B6 0]] w fun e w' => ∃ k, e = .returned (sv g 0 k c) ∧ RecsW w' g (l.filter (fun x => !Rep.knownB mp x)) ∧ (l.filter (fun x => !Rep.knownB mp x)).length = k ∧ k ≤ c ∧ Wrote (fun k => k = g) w w' := by
 have Bc : Wrote (fun k => k = g) w w := Wrote.refl _ _;have hgB : Hid (g ≠ B) := Lib.hid (by omega);have Bt : Hid (g ≠ B6) := Lib.hid (by omega);have hBl := hM.lt;have C6 := World.block_lt_of_cell? _ _ cB;refine calls_cw 42 [(1, .func (.func 67) #[] #[pw B6 0]), (0, sv g 0 n c)] Tryz.func65 rfl Tryz.ntmps65 (by kernel_rfl) (by kernel_rfl) (fun L => ?_);have hE := Ext.refl w;refine zc (zp (pT (.slice none 0 0) ?_));refine zn (zc (zp (pD (sv g 0 n c) (.func (.func 67) #[] #[pw B6 0]) ?_)));refine pS (sc 86 #[sv g 0 n c, .func (.func 67) #[] #[pw B6 0]] ((IndexB_x _ _ (hRc.at hl (by omega)) (Ext.refl _) hM (Ext.refl _) cB (Ext.refl _)).mono ?_));rintro e w3 ⟨z1, rfl, Cl, hb⟩;replace hE := hE.trans hb;replace Bc := Bc.step hb;refine mv2 hb hRc hM fun hRc hM=>?_;replace cB := hb.cell cB;have C5 := hb.size;refine ⟨_, rfl, pT (iv z1) ?_⟩;refine zn (zc (cw_seq ?_));rcases Cl with ⟨rfl, hno⟩ | ⟨i0, rfl, Co, hno, hyes⟩
 ·
  refine zp (pD (iv (-1 : Int)) (.bool true) ?_);refine zn (zt ?_);refine zc (zp (pD (sv g 0 n c) (sv g 0 n c) ?_));refine zn (cw_ret (qw_then_ret (qw_ret [sv g 0 n c] rfl ⟨(by kernel_rfl), trivial⟩ ?_)));have Cc := Rep.del_all (p := Rep.knownB mp) (l := l) (fun j hj => hno j (by omega));exact ⟨n, rfl, by rw [Cc]; exact hRc, by rw [Cc]; exact hl, by omega, Bc⟩
 ·
  refine zp (pT (iv i0) ?_);refine pU (.bool false) (eN ((i0 : Nat) : Int) (-1 : Int) (by omega)) ?_;refine zn (zf ?_);refine cw_skip (zq (zc (zc (zp (pT (iv i0) ?_)))));refine pU (iv ((i0 + 1 : Nat) : Int)) (ew (by omega) (by omega)) ?_;refine pT (iv ((i0 + 1 : Nat) : Int)) ?_;refine zn (cw_block ?_);refine cw_loop [0, 1, 5, 6] (fun ws' wr m => ∃ i j : Nat, ∃ l2 : List Rec, ws' = [(0, sv g 0 n c), (1, .func (.func 67) #[] #[pw B6 0]), (5, iv i), (6, iv j)] ∧ m = n - j ∧ w3.heap.size ≤ wr.heap.size ∧ Wrote (fun k => k = g) w wr ∧ MapS keyV Rec.val wr B mp ∧ wr.cell? ⟨B6, 0, none⟩ = some (.map (some B)) ∧ RecsW wr g l2 ∧ i < j ∧ j ≤ n ∧ l2.length = n ∧ l2.take i = (l.take j).filter (fun x => !Rep.knownB mp x) ∧ (∀ q, j ≤ q → recN l2 q = recN l q)) (ws0 := [(0, sv g 0 n c), (1, .func (.func 67) #[] #[pw B6 0]), (5, iv i0), (6, iv ((i0 + 1 : Nat) : Int))]) (by kernel_rfl) _ ⟨i0, (i0 + 1), l, rfl, rfl, Nat.le_refl _, Bc, hM, cB, hRc, by omega, by omega, hl, (Rep.del_start (by omega) hno hyes), (fun q _ => rfl)⟩ ?_;clear Bc hRc hM cB;rintro m7 L ws w6 ⟨i, j, l2, rfl, rfl, Br, Bc, hM, cB, C4, hij, Ci, C8, htk, hkeep⟩;have Bg := Ext.refl w6
  by_cases hlt : j < n
  ·
   refine zc (zc (zp (pD (iv j) (sv g 0 n c) ?_)));refine pT (iv n) ?_;refine pU (.bool true) (ed (((j : Nat) : Int) < ((n : Nat) : Int)) (by omega)) ?_;refine zn (zt ?_);refine cw_skip (zq (zc (cw_block ?_)));refine zc (zp (pD (sv g 0 n c) (iv j) ?_));refine pU (pw g (j * 7)) (xi (sv g 0 n c) (iv j) (ix23z (k := j) (by omega))) ?_;refine pU (rvv (recN l2 j)) (xl (rl (C4.ra (i := j) (by omega)))) ?_;refine pS (sw 49 #[iv 0, iv 0, iv 0, iv 0, iv 0, iv 0, .string (⟨#[]⟩)] ?_);intro O9 Ce Bf Ck hb hbx;have ⟨B0, B2, B3, B4, B7, B8, Ba⟩ := bq7 hbx;replace Bg := Bg.trans hb;replace Bc := Bc.step hb;replace hM := hM.ext hb;replace cB := hb.cell cB;have Bv := hb.size;have Cm := B0.lt;refine pP (sn_setK7 (O := O9) (j := 0) (v0 := iv ((recN l2 j).c : Int)) (v1 := iv ((recN l2 j).n : Int)) (v2 := iv ((recN l2 j).t : Int)) (v3 := iv ((recN l2 j).o : Int)) (v4 := iv ((recN l2 j).w : Int)) (v5 := iv ((recN l2 j).k : Int)) (v6 := .string ((recN l2 j).x)) (xt (pw O9 0) (rvv (recN l2 j)) (st49 B0.1 B0.2 B2.1 B2.2 B3.1 B3.2 B4.1 B4.2 B7.1 B7.2 B8.1 B8.2 Ba.1 Ba.2)) B0 B2 B3 B4 B7 B8 Ba ?_);intro Cf ho B0 B2 B3 B4 B7 B8 Ba hk;replace Bg := ho.ext Bg (Nat.le_of_eq Bf);replace Bc := Bc.turn ho (.inr (T (T C5 Br) (Nat.le_of_eq Bf)));replace hM := hM.block (ho.heap' _ (by omega));replace cB := ho.cell (by omega) cB;have Bw := Nat.le_of_eq ho.size.symm;clear ho hk;refine zn (cw_seq ?_)
   cases hq : Rep.knownB mp (recN l2 j)
   ·
    refine zp (pT (.func (.func 67) #[] #[pw B6 0]) ?_);refine pU (rvv (recN l2 j)) (xl (ld49 (B0.1) (B2.1) (B3.1) (B4.1) (B7.1) (B8.1) (Ba.1))) ?_;refine pS (sc 67 #[rvv (recN l2 j), pw B6 0] ((Behind1_r (recN l2 j) (r := false) _ hM (Ext.refl _) cB (Ext.refl _) hq).mono ?_));rintro e Cn ⟨rfl, hb⟩;replace Bg := Bg.trans hb;replace Bc := Bc.step hb;replace hM := hM.ext hb;replace cB := hb.cell cB;refine mv7 hb B0 B2 B3 B4 B7 B8 Ba fun B0 B2 B3 B4 B7 B8 Ba=>?_;have C9 := hb.size;refine ⟨_, rfl, pT (.bool true) ?_⟩;refine zn (cK [0,1,5,6,7,29] (fun L => ?_));refine zt ?_;refine zc (zp (pD (sv g 0 n c) (iv i) ?_));refine pU (rvv (recN l2 j)) (xl (ld49 (B0.1) (B2.1) (B3.1) (B4.1) (B7.1) (B8.1) (Ba.1))) ?_;refine pU (pw g (i * 7)) (xi (sv g 0 n c) (iv i) (ix23z (k := i) (by omega))) ?_;have Bb := (C4.ext Bg);have Bq : i < l2.length := by omega
    have Bh := Bb.w0 Bq;have Bi := Bb.w1 Bq;have Bj := Bb.w2 Bq;have Bk := Bb.w3 Bq;have Bm := Bb.w4 Bq;have Bn := Bb.w5 Bq;have Bo := Bb.w6 Bq;refine pP (sn_setK7 (O := g) (j := i * 7) (v0 := iv ((recN l2 j).c : Int)) (v1 := iv ((recN l2 j).n : Int)) (v2 := iv ((recN l2 j).t : Int)) (v3 := iv ((recN l2 j).o : Int)) (v4 := iv ((recN l2 j).w : Int)) (v5 := iv ((recN l2 j).k : Int)) (v6 := .string ((recN l2 j).x)) (xt (pw g (i * 7)) (rvv (recN l2 j)) (st49 Bh.1 Bh.2 Bi.1 Bi.2 Bj.1 Bj.2 Bk.1 Bk.2 Bm.1 Bm.2 Bn.1 Bn.2 Bo.1 Bo.2)) Bh Bi Bj Bk Bm Bn Bo ?_);intro Cg ho Bx By Bz C0 C1 C2 C3 hk;have Bs := RecsW.set (i := i) (x := (recN l2 j)) Bb ⟨Bx, By, Bz, C0, C1, C2, C3⟩ hk;obtain ⟨Cd, Be⟩ : ∃ q, q = l2.set i (recN l2 j) := ⟨_, rfl⟩;rw [← Be] at Bs;have Bu : Cd.length = n := by rw [Be, List.length_set];exact C8
    replace Bc := Bc.turn ho (.inl (rfl));replace hM := hM.block (ho.heap' _ (Ne.symm hgB.out));replace cB := ho.cell Bt.out cB;have q9 := ho.bx O9 (by omega);replace B0 := q9 B0;replace B2 := q9 B2;replace B3 := q9 B3;replace B4 := q9 B4;replace B7 := q9 B7;replace B8 := q9 B8;replace Ba := q9 Ba;clear q9;have Ca := Nat.le_of_eq ho.size.symm;clear ho hk Bq Bx By Bz C0 C1 C2 C3 Bh Bi Bj Bk Bm Bn Bo;refine zn (zp (pT (iv i) ?_));refine pU (iv ((i + 1 : Nat) : Int)) (ew (by omega) (by omega)) ?_;refine pT (iv ((i + 1 : Nat) : Int)) ?_;refine pl_nil (qw_block (zq (zp (pT (iv j) ?_))));refine pU (iv ((j + 1 : Nat) : Int)) (ew (by omega) (by omega)) ?_;refine pT (iv ((j + 1 : Nat) : Int)) ?_;refine pl_nil (qw_round [0, 1, 5, 6] (ws' := [(0, sv g 0 n c), (1, .func (.func 67) #[] #[pw B6 0]), (5, iv ((i + 1 : Nat) : Int)), (6, iv ((j + 1 : Nat) : Int))]) (by kernel_rfl) _ ?_ ⟨(i + 1), (j + 1), Cd, rfl, rfl, (T Br (T Bv (T Bw (T C9 Ca)))), Bc, hM, cB, Bs, by omega, by omega, Bu, (by rw [Be, take_set_snoc (by omega), htk, Rep.del_snoc (by omega), ← hkeep j (Nat.le_refl _), if_neg (by rw [hq]; exact Bool.false_ne_true)]), (fun q hq => by rw [Be, recN_set, if_neg (by omega)]; exact hkeep q (by omega))⟩);omega
   ·
    refine zp (pT (.func (.func 67) #[] #[pw B6 0]) ?_);refine pU (rvv (recN l2 j)) (xl (ld49 (B0.1) (B2.1) (B3.1) (B4.1) (B7.1) (B8.1) (Ba.1))) ?_;refine pS (sc 67 #[rvv (recN l2 j), pw B6 0] ((Behind1_r (recN l2 j) (r := true) _ hM (Ext.refl _) cB (Ext.refl _) hq).mono ?_));rintro e Cp ⟨rfl, hb⟩;replace Bg := Bg.trans hb;replace Bc := Bc.step hb;replace hM := hM.ext hb;replace cB := hb.cell cB;have Cb := hb.size;refine ⟨_, rfl, pT (.bool false) ?_⟩;refine zn (cK [0,1,5,6,7,29] (fun L => ?_));refine zf ?_;refine cw_skip (qw_block (zq (zp (pT (iv j) ?_))));refine pU (iv ((j + 1 : Nat) : Int)) (ew (by omega) (by omega)) ?_;refine pT (iv ((j + 1 : Nat) : Int)) ?_;refine pl_nil (qw_round [0, 1, 5, 6] (ws' := [(0, sv g 0 n c), (1, .func (.func 67) #[] #[pw B6 0]), (5, iv i), (6, iv ((j + 1 : Nat) : Int))]) (by kernel_rfl) _ ?_ ⟨i, (j + 1), l2, rfl, rfl, (T Br (T Bv (T Bw Cb))), Bc, hM, cB, (C4.ext Bg), by omega, by omega, C8, (by rw [Rep.del_snoc (by omega), htk, ← hkeep j (Nat.le_refl _), if_pos hq, List.append_nil]), (fun q hq => hkeep q (by omega))⟩);omega
  ·
   have hjn : j = n := by omega
   refine zc (zc (zp (pD (iv j) (sv g 0 n c) ?_)));refine pT (iv n) ?_;refine pU (.bool false) (en (((j : Nat) : Int) < ((n : Nat) : Int)) (by omega)) ?_;refine zn (zf ?_);refine cw_exit (qw_then_exit (qw_then_exit (qw_block_out (zq (zc (zp (pD (sv g 0 n c) (iv i) ?_)))))));refine pU (sv g (i * 7) (n - i) (c - i)) (ex_slice (p := sv g 0 n c) rfl (by kernel_rfl) (by kernel_rfl) (by kernel_rfl) (by kernel_rfl) (slRz (k := i) (by omega) (by omega) (by omega))) ?_;have Bp := C4;refine pP (sn_clear (ex_clear (s := sv g (i * 7) (n - i) (c - i)) rfl (by kernel_rfl) (recs_clear Bp C8 (by omega))) ?_);intro Ch ho hk;have C7 := RecsW.cut (k := i) Bp hk;replace Bc := Bc.turn ho (.inl (rfl));have Cj := Nat.le_of_eq ho.size.symm;clear ho hk;refine zn (zc (zp (pD (sv g 0 n c) (iv i) ?_)));refine pU (sv g 0 i c) (ex_slice (p := sv g 0 n c) rfl (by kernel_rfl) (by kernel_rfl) (by kernel_rfl) (by kernel_rfl) (sl23_010 (m := i) (by omega) (by omega))) ?_;refine pT (sv g 0 i c) ?_;refine zn (cK [4] (fun L => ?_));refine cw_ret (qw_ret [sv g 0 i c] rfl ⟨(by kernel_rfl), trivial⟩ ?_);subst hjn;rw [show l.take j = l from List.take_of_length_le (by omega)] at htk;exact ⟨i, rfl, by rw [← htk]; exact C7, by rw [← htk, List.length_take]; omega, by omega, Bc⟩
theorem Delete_0 {w1 : World} {B : Nat} {mp : List ((Int × Int) × Rec)} {w2 : World} {B6 : Nat} {a : Option Addr} {c : Nat} (w : World) (H : RecsAt w a 0 []) (hM : MapS keyV Rec.val w1 B mp) (e1 : Ext w1 w) (cB : w2.cell? ⟨B6, 0, none⟩ = some (.map (some B))) (e2 : Ext w2 w) : Calls Tryz.prog 65 #[.slice a 0 c, .func (.func 67) #[] #[pw B6 0]] w fun e w' => e = .returned (.slice a 0 c) ∧ Ext w w' := by
 refine calls_cw 42 [(1, .func (.func 67) #[] #[pw B6 0]), (0, .slice a 0 c)] Tryz.func65 rfl Tryz.ntmps65 (by kernel_rfl) (by kernel_rfl) (fun L => ?_);have hE := Ext.refl w;refine zc (zp (pT (.slice none 0 0) ?_));refine zn (zc (zp (pD (.slice a 0 c) (.func (.func 67) #[] #[pw B6 0]) ?_)));refine pS (sc 86 #[.slice a 0 c, .func (.func 67) #[] #[pw B6 0]] ((IndexB_x (l := []) _ _ H ((Ext.refl _)) hM e1 cB e2).mono ?_));rintro e w3 ⟨z1, rfl, hz2, hb⟩;replace hE := hE.trans hb;have hs4 := hb.size;refine ⟨_, rfl, pT (iv z1) ?_⟩;refine zn (zc (cw_seq ?_));rcases hz2 with ⟨rfl, hno⟩ | ⟨i0, rfl, hi0, hno, hyes⟩
 rotate_left
 · omega
 refine zp (pD (iv (-1 : Int)) (.bool true) ?_);refine zn (zt ?_);refine zc (zp (pD (.slice a 0 c) (.slice a 0 c) ?_));refine zn (cw_ret (qw_then_ret (qw_ret [.slice a 0 c] rfl ⟨(by kernel_rfl), trivial⟩ ?_)));exact ⟨rfl, hE⟩
end Go.Proofs.YtfmoabgjaclkpaaGreatDoor

namespace Go.Proofs.YtfmoabgjaclkpaaGreatDoor
set_option maxRecDepth 1000000
set_option maxHeartbeats 4000000
set_option synthInstance.maxHeartbeats 0
set_option synthInstance.maxSize 9999
open Go.RowKit
def Tz37_0 : List Row := [(some 22, [2], []), (some 23, [22], [0]), (some 24, [2], []), (some 25, [24], [2]), (some 26, [3], []), (some 27, [26], [4]), (some 28, [25, 27], [3, 5]), (some 29, [23, 28], [1, 6]), (some 30, [29], [7, 6]), (some 31, [30], [8]), (some 32, [30], [8]), (none, [4, 31], [9, 8, 0, 1, 2, 3, 4, 5, 6, 7, 8, 9, 10]), (some 5, [32], [10, 11, 0, 1, 2, 3, 4, 5, 6, 7, 8, 9, 10, 11])]
def MergeP (c1 : Int) (l1 : List Rec) (c2 : Int) (l2 : List Rec) (n : Nat) (l' : List Rec) : Prop := (Rep.validB c1 l1 = true ∧ Rep.validB c2 l2 = true ∧ l2.any (Rep.contrB (Rep.bookL l1)) = false) ∧ Rep.Mrg l1 l2 n l'
def OptR (lo : Nat) (w' : World) (c : Int) (o : Option (List Rec)) (c' : Int) (a' : Option Addr) (n' k' : Nat) (er : Int) : Prop :=
 (∃ l, o = some l ∧ er = 0 ∧ c' = c ∧ RecsAt w' a' n' l ∧ n' ≤ k' ∧ ∀ ad, a' = some ad → lo ≤ ad.block) ∨ (o = none ∧ er = 350 ∧ c' = 0 ∧ a' = none ∧ n' = 0 ∧ k' = 0)
theorem ResR.opt {lo : Nat} {w' : World} {c : Int} {P : List Rec → Prop} {bad : Prop} {o : Option (List Rec)} {c' : Int} {a' : Option Addr} {n' k' : Nat} {er : Int} (h : ResR lo w' c P bad c' a' n' k' er) (hP : ∀ l, P l → o = if Rep.validB c l = true then some l else none) (hb : bad → o = none) : OptR lo w' c o c' a' n' k' er := by
  rcases h with ⟨h1, h2, l, h3, h4, h5, h6, h7⟩ | ⟨h1, h2, h3, h4, h5, h6⟩
  · exact .inl ⟨l, by rw [hP l h3, if_pos h4], h1, h2, h5, h6, h7⟩
  · refine .inr ⟨?_, h1, h2, h3, h4, h5⟩
    rcases h6 with h6 | ⟨l, h6, h7⟩
    · exact hb h6
    · rw [hP l h6, if_neg (by rw [h7]; exact Bool.false_ne_true)]
theorem putP_opt {c : Int} {l : List Rec} {x : Rec} {n : Nat} (hn : l.length = n) : ∀ l', PutP c l x n l' → Rep.addF c l x = if Rep.validB c l' = true then some l' else none := fun l' ⟨h1, h2⟩ => by
 have hv := Rep.valid_vd h1
 have e := h2.eq (by rw [hn]; rfl) hv.keys (Rep.keysD_one _) (Rep.own_cons hv c x)
 rw [e]; unfold Rep.addF
 by_cases q : Rep.validB c (Rep.unionF l [Rep.own c l x]) = true
 · rw [if_pos ⟨h1, q⟩, if_pos q]
 · rw [if_neg (fun z => q z.2), if_neg q]
theorem addF_bad {c : Int} {l : List Rec} {x : Rec} (h : Rep.validB c l = false) : Rep.addF c l x = none := by
 unfold Rep.addF; rw [if_neg (fun z => by rw [h] at z; cases z.1)]
theorem mergeP_opt {c1 c2 : Int} {l1 l2 : List Rec} {n : Nat} (hn : n = l1.length + l2.length) : ∀ l', MergeP c1 l1 c2 l2 n l' → Rep.mergeF c1 l1 c2 l2 = if Rep.validB c1 l' = true then some l' else none := fun l' ⟨⟨h1, h2, h3⟩, h4⟩ => by
 have v1 := (Rep.valid_vd h1).keys; have v2 := (Rep.valid_vd h2).keys
 rw [h4.eq hn v1 v2 ((Rep.contr_iff v1).1 h3)]; unfold Rep.mergeF
 by_cases q : Rep.validB c1 (Rep.unionF l1 l2) = true
 · rw [if_pos ⟨h1, h2, h3, q⟩, if_pos q]
 · rw [if_neg (fun z => q z.2.2.2), if_neg q]
theorem mergeF_bad {c1 c2 : Int} {l1 l2 : List Rec} (h : ¬ (Rep.validB c1 l1 = true ∧ Rep.validB c2 l2 = true ∧ l2.any (Rep.contrB (Rep.bookL l1)) = false)) : Rep.mergeF c1 l1 c2 l2 = none := by
 unfold Rep.mergeF; rw [if_neg (fun z => h ⟨z.1, z.2.1, z.2.2.1⟩)]
theorem OptR.y {lo : Nat} {w' : World} {c : Int} {l : List Rec} {c' : Int} {a' : Option Addr} {n' k' : Nat} {er : Int} (h : OptR lo w' c (some l) c' a' n' k' er) : er = 0 ∧ c' = c ∧ RecsAt w' a' n' l ∧ n' ≤ k' ∧ ∀ ad, a' = some ad → lo ≤ ad.block := by
 rcases h with ⟨l', h1, h2⟩ | ⟨h, _⟩
 · cases h1; exact h2
 · cases h
theorem OptR.n {lo : Nat} {w' : World} {c : Int} {c' : Int} {a' : Option Addr} {n' k' : Nat} {er : Int} (h : OptR lo w' c none c' a' n' k' er) : er = 350 ∧ c' = 0 ∧ a' = none ∧ n' = 0 ∧ k' = 0 := by
 rcases h with ⟨l', h1, h2⟩ | ⟨_, h⟩
 · cases h1
 · exact h
theorem Merge_c {w1 w2 : World} {c1 c2 : Int} {a1 a2 : Option Addr} {n1 n2 : Nat} {l1 l2 : List Rec} (k1 k2 : Nat) (w : World) (H1 : RecsAt w1 a1 n1 l1) (e1 : Ext w1 w) (H2 : RecsAt w2 a2 n2 l2) (e2 : Ext w2 w) (hRl : RootAt w) : Calls Tryz.prog 26 #[.agg #[iv c1, .slice a1 n1 k1], .agg #[iv c2, .slice a2 n2 k2]] w fun e w' => ∃ c' a' n' k' er, e = .returned (.tuple #[.agg #[iv c', .slice a' n' k'], iv er]) ∧ ResR w.heap.size w' c1 (MergeP c1 l1 c2 l2 (n1 + n2)) (¬ (Rep.validB c1 l1 = true ∧ Rep.validB c2 l2 = true ∧ l2.any (Rep.contrB (Rep.bookL l1)) = false)) c' a' n' k' er ∧ Ext w w' := by
 replace H1 := H1.ext e1;clear e1;replace H2 := H2.ext e2;clear e2;refine calls_cw 33 [(1, .agg #[iv c2, .slice a2 n2 k2]), (0, .agg #[iv c1, .slice a1 n1 k1])] Tryz.func26 rfl Tryz.ntmps26 (by kernel_rfl) (by kernel_rfl) (fun L => ?_);have hE := Ext.refl w;refine zc (zp (pS (sw 25 #[iv c1, .slice a1 n1 k1] ?_)));intro O1 X2 Cq Cn hb hbx;have ⟨B4, B2⟩ := bq2 hbx;replace hE := hE.trans hb;have Br := hb.size;have Bx := B4.lt;refine pS (sw 25 #[iv c2, .slice a2 n2 k2] ?_);intro O5 X6 Cr Co hb hbx;have ⟨B8, B7⟩ := bq2 hbx;refine mv3 hb hE B4 B2 fun hE B4 B2=>?_;have Bf := hb.size;have By := B8.lt;refine pS (sw 25 #[iv 0, .slice none 0 0] ?_);intro O9 Cw Ba Cp hb hbx;have ⟨B0, B3⟩ := bq2 hbx;refine mv5 hb hE B4 B2 B8 B7 fun hE B4 B2 B8 B7=>?_;have C1 := hb.size;have C2 := B0.lt;refine pT (iv 0) ?_;refine zn (zc (cw_seq ?_));obtain ⟨q9, Bb⟩ : ∃ q, Rep.validB c1 l1 = q := ⟨_, rfl⟩
 cases q9
 ·
  refine zp (pU (.agg #[iv c1, .slice a1 n1 k1]) (xl (ld25 (B4.1) (B2.1))) ?_);refine pS (sc 16 #[.agg #[iv c1, .slice a1 n1 k1]] ((Valid_r (r := false) _ _ H1 hE (hRl.ext hE) Bb).mono ?_));rintro e Cs ⟨rfl, hb⟩;refine mv7 hb hE B4 B2 B8 B7 B0 B3 fun hE B4 B2 B8 B7 B0 B3=>?_;have Cb := hb.size;refine ⟨_, rfl, pD (.bool true) (.bool true) ?_⟩;refine pK ?_;refine pK ?_;refine pK ?_;refine pD (.bool true) (.bool true) ?_;refine pK ?_;refine pK ?_;refine pK ?_;refine pK ?_;refine pK ?_;refine pT (.bool true) ?_;refine zn (cK [2,3,4,20] (fun L => ?_));refine zt ?_;refine zc (zp (pT (.agg #[iv 0, .slice none 0 0]) ?_));refine pP (sn_set2 (O := O9) (j := 0) (v := iv 0) (v' := .slice none 0 0) (xt (pw O9 0) (.agg #[iv 0, .slice none 0 0]) (st25 B0.1 B0.2 B3.1 B3.2)) B0 B3 ?_);intro C7 ho B0 B3 hk;replace hE := ho.ext hE (T (T Br Bf) (Nat.le_of_eq Ba));have q9 := ho.bx O1 (by omega);replace B4 := q9 B4;replace B2 := q9 B2;clear q9;have q9 := ho.bx O5 (by omega);replace B8 := q9 B8;replace B7 := q9 B7;clear q9;have Cc := Nat.le_of_eq ho.size.symm;clear ho hk;refine pT (iv 350) ?_;refine zn (cw_ret (qw_then_ret (qw_ret [.agg #[iv 0, .slice none 0 0], iv 350] rfl ⟨⟨_, by kernel_rfl, res_ld (ld25 (B0.1) (B3.1))⟩, (by kernel_rfl), trivial⟩ ?_)));exact ⟨_, _, _, _, _, rfl, ResR.bad (fun q => by rw [Bb] at q; cases q.1), hE⟩
 ·
  obtain ⟨q9, Bj⟩ : ∃ q, Rep.validB c2 l2 = q := ⟨_, rfl⟩
  cases q9
  ·
   refine zp (pU (.agg #[iv c1, .slice a1 n1 k1]) (xl (ld25 (B4.1) (B2.1))) ?_);refine pS (sc 16 #[.agg #[iv c1, .slice a1 n1 k1]] ((Valid_r (r := true) _ _ H1 hE (hRl.ext hE) Bb).mono ?_));rintro e D3 ⟨rfl, hb⟩;refine mv7 hb hE B4 B2 B8 B7 B0 B3 fun hE B4 B2 B8 B7 B0 B3=>?_;have Cd := hb.size;refine ⟨_, rfl, pD (.bool false) (.bool false) ?_⟩;refine pU (.agg #[iv c2, .slice a2 n2 k2]) (xl (ld25 (B8.1) (B7.1))) ?_;refine pS (sc 16 #[.agg #[iv c2, .slice a2 n2 k2]] ((Valid_r (r := false) _ _ H2 hE (hRl.ext hE) Bj).mono ?_));rintro e Ct ⟨rfl, hb⟩;refine mv7 hb hE B4 B2 B8 B7 B0 B3 fun hE B4 B2 B8 B7 B0 B3=>?_;have Ce := hb.size;refine ⟨_, rfl, pD (.bool true) (.bool true) ?_⟩;refine pT (.bool true) ?_;refine pK ?_;refine pK ?_;refine pK ?_;refine pK ?_;refine pK ?_;refine pT (.bool true) ?_;refine zn (cK [2,3,4,20] (fun L => ?_));refine zt ?_;refine zc (zp (pT (.agg #[iv 0, .slice none 0 0]) ?_));refine pP (sn_set2 (O := O9) (j := 0) (v := iv 0) (v' := .slice none 0 0) (xt (pw O9 0) (.agg #[iv 0, .slice none 0 0]) (st25 B0.1 B0.2 B3.1 B3.2)) B0 B3 ?_);intro C8 ho B0 B3 hk;replace hE := ho.ext hE (T (T Br Bf) (Nat.le_of_eq Ba));have q9 := ho.bx O1 (by omega);replace B4 := q9 B4;replace B2 := q9 B2;clear q9;have q9 := ho.bx O5 (by omega);replace B8 := q9 B8;replace B7 := q9 B7;clear q9;have Cf := Nat.le_of_eq ho.size.symm;clear ho hk;refine pT (iv 350) ?_;refine zn (cw_ret (qw_then_ret (qw_ret [.agg #[iv 0, .slice none 0 0], iv 350] rfl ⟨⟨_, by kernel_rfl, res_ld (ld25 (B0.1) (B3.1))⟩, (by kernel_rfl), trivial⟩ ?_)));exact ⟨_, _, _, _, _, rfl, ResR.bad (fun q => by rw [Bj] at q; cases q.2.1), hE⟩
  ·
   obtain ⟨q9, Bv⟩ : ∃ q, l2.any (Rep.contrB (Rep.bookL l1)) = q := ⟨_, rfl⟩
   cases q9
   ·
    refine zp (pU (.agg #[iv c1, .slice a1 n1 k1]) (xl (ld25 (B4.1) (B2.1))) ?_);refine pS (sc 16 #[.agg #[iv c1, .slice a1 n1 k1]] ((Valid_r (r := true) _ _ H1 hE (hRl.ext hE) Bb).mono ?_));rintro e D4 ⟨rfl, hb⟩;refine mv7 hb hE B4 B2 B8 B7 B0 B3 fun hE B4 B2 B8 B7 B0 B3=>?_;have Bo := hb.size;refine ⟨_, rfl, pD (.bool false) (.bool false) ?_⟩;refine pU (.agg #[iv c2, .slice a2 n2 k2]) (xl (ld25 (B8.1) (B7.1))) ?_;refine pS (sc 16 #[.agg #[iv c2, .slice a2 n2 k2]] ((Valid_r (r := true) _ _ H2 hE (hRl.ext hE) Bj).mono ?_));rintro e D5 ⟨rfl, hb⟩;refine mv7 hb hE B4 B2 B8 B7 B0 B3 fun hE B4 B2 B8 B7 B0 B3=>?_;have Bp := hb.size;refine ⟨_, rfl, pD (.bool false) (.bool false) ?_⟩;refine pD (.bool false) (pw O1 1) ?_;refine pU (.slice a1 n1 k1) (xl (ld23 (B2.1))) ?_;refine pT (pw O5 1) ?_;refine pU (.slice a2 n2 k2) (xl (ld23 (B7.1))) ?_;refine pS (sc 61 #[.slice a1 n1 k1, .slice a2 n2 k2] ((contradict_r (r := false) _ _ _ H1 hE H2 hE Bv).mono ?_));rintro e D6 ⟨rfl, hb⟩;refine mv7 hb hE B4 B2 B8 B7 B0 B3 fun hE B4 B2 B8 B7 B0 B3=>?_;have Bq := hb.size;refine ⟨_, rfl, pT (.bool false) ?_⟩;refine zn (cK [2,3,4,20] (fun L => ?_));refine zf ?_;refine cw_skip (zq (cw_seq ?_));have Cy := Rep.valid_len Bb;have Cz := Rep.valid_len Bj;have D0 := H1.len;have D1 := H2.len;refine dE Tz37_0 (fun w' => w'.cell? ⟨O1, 0, none⟩ = some (iv c1) ∧ w'.cell? ⟨O1, 1, none⟩ = some (.slice a1 n1 k1) ∧ w'.cell? ⟨O5, 1, none⟩ = some (.slice a2 n2 k2)) (⟨B4.1, B2.1, B7.1⟩) (fun ops Q Cx hb hL hR hK => ?_);refine mv7 hb hE B4 B2 B8 B7 B0 B3 fun hE B4 B2 B8 B7 B0 B3=>?_;have Bs := hb.size;have hS := A3 B4.1 B2.1 B7.1;refine wV 0 (pw O1 0) hR hS ?_;refine wM 1 (iv c1) hR (fun w hS => ld3 (hS.1)) hS ?_;refine wV 2 (pw O1 1) hR hS ?_;refine wM 3 (.slice a1 n1 k1) hR (fun w hS => ld23 (hS.2.1)) hS ?_;refine wV 4 (pw O5 1) hR hS ?_;refine wM 5 (.slice a2 n2 k2) hR (fun w hS => ld23 (hS.2.2)) hS ?_;refine wC 6 63 #[.slice a1 n1 k1, .slice a2 n2 k2, .func (.func 51) #[] #[]] hR ((merged_c _ H1 H2 hE hE (by omega)).mono ?_);rintro e C6 ⟨C3, C5, C4, D2, rfl, Bk, C0, Bn, Bg, hb⟩;refine mv7 hb hE B4 B2 B8 B7 B0 B3 fun hE B4 B2 B8 B7 B0 B3=>?_;have Cg := hb.size;have Bi := Ext.refl C6;have hS := A3 B4.1 B2.1 B7.1;refine ⟨_, rfl, hS, ?_⟩;refine wV 7 (.agg #[iv c1, .slice C3 C5 C4]) hR hS ?_;refine wC 8 62 #[.agg #[iv c1, .slice C3 C5 C4]] hR ((checked_c _ _ Bk (Ext.refl _) (hRl.ext hE)).mono ?_);rintro e Cu ⟨Bu, Bt, Bz, Bw, Bh, rfl, Bm, hb⟩;refine mv7 hb hE Bi B4 B2 B8 B7 B0 fun hE Bi B4 B2 B8 B7 B0=>?_;replace B3 := B3.x hb;have Ch := hb.size;have hS := A3 B4.1 B2.1 B7.1;refine ⟨_, rfl, hS, ?_⟩;refine wW 9 (.agg #[iv Bu, .slice Bt Bz Bw]) 10 (iv Bh) hR hS ?_;have Bc := (Bk.ext Bi);refine wS 11 hR (sn_set2 (O := O9) (j := 0) (v := iv Bu) (v' := .slice Bt Bz Bw) (ex_store (p := pw O9 0) (v := .agg #[iv Bu, .slice Bt Bz Bw]) rfl (by kernel_rfl) (by kernel_rfl) (st25 B0.1 B0.2 B3.1 B3.2)) B0 B3 ?_);intro C9 ho B0 B3 hk;replace hE := ho.ext hE (T (T Br Bf) (Nat.le_of_eq Ba));have q9 := ho.bx O1 (by omega);replace B4 := q9 B4;replace B2 := q9 B2;clear q9;have q9 := ho.bx O5 (by omega);replace B8 := q9 B8;replace B7 := q9 B7;clear q9;replace Bc := Bc.turn ho (fun ad e => Nat.ne_of_gt (Nat.lt_of_lt_of_le (by omega) (Bg ad e)));have Ci := Nat.le_of_eq ho.size.symm;clear ho hk;refine ⟨⟨B4.1, B2.1, B7.1⟩, ?_⟩;refine wV 12 (iv Bh) hR (⟨B4.1, B2.1, B7.1⟩) ?_;refine we hL hR hK ?_;refine zq (cK [4,5] (fun L => ?_));refine cw_ret (qw_ret [.agg #[iv Bu, .slice Bt Bz Bw], iv Bh] rfl ⟨⟨_, by kernel_rfl, res_ld (ld25 (B0.1) (B3.1))⟩, (by kernel_rfl), trivial⟩ ?_);exact ⟨_, _, _, _, _, rfl, ResR.of Bm ⟨⟨Bb, Bj, Bv⟩, C0⟩ Bc Bn (fun ad e => T (by omega) (Bg ad e)), hE⟩
   ·
    refine zp (pU (.agg #[iv c1, .slice a1 n1 k1]) (xl (ld25 (B4.1) (B2.1))) ?_);refine pS (sc 16 #[.agg #[iv c1, .slice a1 n1 k1]] ((Valid_r (r := true) _ _ H1 hE (hRl.ext hE) Bb).mono ?_));rintro e D7 ⟨rfl, hb⟩;refine mv6 hb hE B2 B8 B7 B0 B3 fun hE B2 B8 B7 B0 B3=>?_;have Cj := hb.size;refine ⟨_, rfl, pD (.bool false) (.bool false) ?_⟩;refine pU (.agg #[iv c2, .slice a2 n2 k2]) (xl (ld25 (B8.1) (B7.1))) ?_;refine pS (sc 16 #[.agg #[iv c2, .slice a2 n2 k2]] ((Valid_r (r := true) _ _ H2 hE (hRl.ext hE) Bj).mono ?_));rintro e D8 ⟨rfl, hb⟩;refine mv5 hb hE B2 B7 B0 B3 fun hE B2 B7 B0 B3=>?_;have Ck := hb.size;refine ⟨_, rfl, pD (.bool false) (.bool false) ?_⟩;refine pD (.bool false) (pw O1 1) ?_;refine pU (.slice a1 n1 k1) (xl (ld23 (B2.1))) ?_;refine pT (pw O5 1) ?_;refine pU (.slice a2 n2 k2) (xl (ld23 (B7.1))) ?_;refine pS (sc 61 #[.slice a1 n1 k1, .slice a2 n2 k2] ((contradict_r (r := true) _ _ _ H1 hE H2 hE Bv).mono ?_));rintro e Cv ⟨rfl, hb⟩;refine mv3 hb hE B0 B3 fun hE B0 B3=>?_;have Cl := hb.size;refine ⟨_, rfl, pT (.bool true) ?_⟩;refine zn (cK [2,3,4,20] (fun L => ?_));refine zt ?_;refine zc (zp (pT (.agg #[iv 0, .slice none 0 0]) ?_));refine pP (sn_set2 (O := O9) (j := 0) (v := iv 0) (v' := .slice none 0 0) (xt (pw O9 0) (.agg #[iv 0, .slice none 0 0]) (st25 B0.1 B0.2 B3.1 B3.2)) B0 B3 ?_);intro Ca ho B0 B3 hk;replace hE := ho.ext hE (T (T Br Bf) (Nat.le_of_eq Ba));have q9 := ho.bx O1 (by omega);clear q9;have q9 := ho.bx O5 (by omega);clear q9;have Cm := Nat.le_of_eq ho.size.symm;clear ho hk;refine pT (iv 350) ?_;refine zn (cw_ret (qw_then_ret (qw_ret [.agg #[iv 0, .slice none 0 0], iv 350] rfl ⟨⟨_, by kernel_rfl, res_ld (ld25 (B0.1) (B3.1))⟩, (by kernel_rfl), trivial⟩ ?_)));exact ⟨_, _, _, _, _, rfl, ResR.bad (fun q => by rw [Bv] at q; cases q.2.2), hE⟩
theorem Merge_o {w1 w2 : World} {c1 c2 : Int} {a1 a2 : Option Addr} {n1 n2 : Nat} {l1 l2 : List Rec} (k1 k2 : Nat) (w : World) (H1 : RecsAt w1 a1 n1 l1) (e1 : Ext w1 w) (H2 : RecsAt w2 a2 n2 l2) (e2 : Ext w2 w) (hRl : RootAt w) : Calls Tryz.prog 26 #[.agg #[.int .i64 c1, .slice a1 n1 k1], .agg #[.int .i64 c2, .slice a2 n2 k2]] w fun e w' => ∃ c' a' n' k' er, e = .returned (.tuple #[.agg #[.int .i64 c', .slice a' n' k'], .int .i64 er]) ∧ OptR w.heap.size w' c1 (Rep.mergeF c1 l1 c2 l2) c' a' n' k' er ∧ Ext w w' :=
 (Merge_c k1 k2 w H1 e1 H2 e2 hRl).mono fun _ _ ⟨c', a', n', k', er, he, hR, hE⟩ => ⟨c', a', n', k', er, he, hR.opt (mergeP_opt (by rw [H1.len, H2.len])) mergeF_bad, hE⟩
theorem Merge_y {w1 w2 : World} {c1 c2 : Int} {a1 a2 : Option Addr} {n1 n2 : Nat} {l1 l2 : List Rec} {l' : List Rec} (k1 k2 : Nat) (w : World) (H1 : RecsAt w1 a1 n1 l1) (e1 : Ext w1 w) (H2 : RecsAt w2 a2 n2 l2) (e2 : Ext w2 w) (hRl : RootAt w) (ho : Rep.mergeF c1 l1 c2 l2 = some l') : Calls Tryz.prog 26 #[.agg #[.int .i64 c1, .slice a1 n1 k1], .agg #[.int .i64 c2, .slice a2 n2 k2]] w fun e w' => ∃ a' n' k', e = .returned (.tuple #[.agg #[.int .i64 c1, .slice a' n' k'], .int .i64 0]) ∧ RecsAt w' a' n' l' ∧ n' ≤ k' ∧ (∀ ad, a' = some ad → w.heap.size ≤ ad.block) ∧ Ext w w' :=
 (Merge_o k1 k2 w H1 e1 H2 e2 hRl).mono fun _ _ ⟨c', a', n', k', er, he, hO, hE⟩ => by
  rw [ho] at hO
  obtain ⟨rfl, rfl, h1, h2, h3⟩ := hO.y
  exact ⟨a', n', k', he, h1, h2, h3, hE⟩
theorem Merge_n {w1 w2 : World} {c1 c2 : Int} {a1 a2 : Option Addr} {n1 n2 : Nat} {l1 l2 : List Rec} (k1 k2 : Nat) (w : World) (H1 : RecsAt w1 a1 n1 l1) (e1 : Ext w1 w) (H2 : RecsAt w2 a2 n2 l2) (e2 : Ext w2 w) (hRl : RootAt w) (ho : Rep.mergeF c1 l1 c2 l2 = none) : Calls Tryz.prog 26 #[.agg #[.int .i64 c1, .slice a1 n1 k1], .agg #[.int .i64 c2, .slice a2 n2 k2]] w fun e w' => e = .returned (.tuple #[.agg #[.int .i64 0, .slice none 0 0], .int .i64 350]) ∧ Ext w w' :=
 (Merge_o k1 k2 w H1 e1 H2 e2 hRl).mono fun _ _ ⟨c', a', n', k', er, he, hO, hE⟩ => by
  rw [ho] at hO
  obtain ⟨rfl, rfl, rfl, rfl, rfl⟩ := hO.n
  exact ⟨he, hE⟩
theorem Add_o {w0 : World} {c : Int} {a : Option Addr} {n : Nat} {l : List Rec} (k : Nat) (tt kk : Int) (xx : ByteArray) (w : World) (H : RecsAt w0 a n l) (e0 : Ext w0 w) (hRl : RootAt w) : Calls Tryz.prog 18 #[.agg #[.int .i64 c, .slice a n k], .int .i64 tt, .int .i64 kk, .string xx] w fun e w' => ∃ c' a' n' k' er, e = .returned (.tuple #[.agg #[.int .i64 c', .slice a' n' k'], .int .i64 er]) ∧ OptR w.heap.size w' c (Rep.addF c l (⟨0, 0, tt, -1, 0, kk, xx⟩ : Rec)) c' a' n' k' er ∧ Ext w w' :=
 (Add_c k tt kk xx w H e0 hRl).mono fun _ _ ⟨c', a', n', k', er, he, hR, hE⟩ => ⟨c', a', n', k', er, he, hR.opt (putP_opt H.len) addF_bad, hE⟩
theorem Add_y {w0 : World} {c : Int} {a : Option Addr} {n : Nat} {l : List Rec} {l' : List Rec} (k : Nat) (tt kk : Int) (xx : ByteArray) (w : World) (H : RecsAt w0 a n l) (e0 : Ext w0 w) (hRl : RootAt w) (ho : Rep.addF c l (⟨0, 0, tt, -1, 0, kk, xx⟩ : Rec) = some l') : Calls Tryz.prog 18 #[.agg #[.int .i64 c, .slice a n k], .int .i64 tt, .int .i64 kk, .string xx] w fun e w' => ∃ a' n' k', e = .returned (.tuple #[.agg #[.int .i64 c, .slice a' n' k'], .int .i64 0]) ∧ RecsAt w' a' n' l' ∧ n' ≤ k' ∧ (∀ ad, a' = some ad → w.heap.size ≤ ad.block) ∧ Ext w w' :=
 (Add_o k tt kk xx w H e0 hRl).mono fun _ _ ⟨c', a', n', k', er, he, hO, hE⟩ => by
  rw [ho] at hO
  obtain ⟨rfl, rfl, h1, h2, h3⟩ := hO.y
  exact ⟨a', n', k', he, h1, h2, h3, hE⟩
theorem corr_opt {c : Int} {l : List Rec} {lo n : Nat} {w' : World} {tt cc nn kk : Int} {xx : ByteArray} {c' : Int} {a' : Option Addr} {n' k' : Nat} {er : Int} (hn : l.length = n) (h : ResR lo w' c (PutP c l (⟨0, 0, tt, cc, nn, kk, xx⟩ : Rec) n) ((cc = -1 ∧ nn = 0) ∨ Rep.validB c l = false) c' a' n' k' er) (hz : (cc = -1 ∧ nn = 0) → er = 350) : OptR lo w' c (Rep.corrF c l (⟨0, 0, tt, cc, nn, kk, xx⟩ : Rec)) c' a' n' k' er := by
  by_cases hA : cc = -1 ∧ nn = 0
  · have e9 := hz hA
    have hnone : Rep.corrF c l (⟨0, 0, tt, cc, nn, kk, xx⟩ : Rec) = none := if_pos hA
    rcases h with ⟨h1, _⟩ | ⟨h1, h2, h3, h4, h5, _⟩
    · omega
    · exact .inr ⟨hnone, h1, h2, h3, h4, h5⟩
  · rw [show Rep.corrF c l (⟨0, 0, tt, cc, nn, kk, xx⟩ : Rec) = Rep.addF c l (⟨0, 0, tt, cc, nn, kk, xx⟩ : Rec) from if_neg hA]
    exact h.opt (putP_opt hn) fun q => q.elim (fun z => absurd z hA) addF_bad
theorem Correct_o {w0 : World} {c : Int} {a : Option Addr} {n : Nat} {l : List Rec} (k : Nat) (tt cc nn kk : Int) (xx : ByteArray) (w : World) (H : RecsAt w0 a n l) (e0 : Ext w0 w) (hRl : RootAt w) : Calls Tryz.prog 22 #[.agg #[.int .i64 c, .slice a n k], .int .i64 tt, .int .i64 cc, .int .i64 nn, .int .i64 kk, .string xx] w fun e w' => ∃ c' a' n' k' er, e = .returned (.tuple #[.agg #[.int .i64 c', .slice a' n' k'], .int .i64 er]) ∧ OptR w.heap.size w' c (Rep.corrF c l (⟨0, 0, tt, cc, nn, kk, xx⟩ : Rec)) c' a' n' k' er ∧ Ext w w' :=
 (Correct_c k tt cc nn kk xx w H e0 hRl).mono fun _ _ ⟨c', a', n', k', er, he, hR, hz, hE⟩ => ⟨c', a', n', k', er, he, corr_opt H.len hR hz, hE⟩
theorem Correct_y {w0 : World} {c : Int} {a : Option Addr} {n : Nat} {l : List Rec} {l' : List Rec} (k : Nat) (tt cc nn kk : Int) (xx : ByteArray) (w : World) (H : RecsAt w0 a n l) (e0 : Ext w0 w) (hRl : RootAt w) (ho : Rep.corrF c l (⟨0, 0, tt, cc, nn, kk, xx⟩ : Rec) = some l') : Calls Tryz.prog 22 #[.agg #[.int .i64 c, .slice a n k], .int .i64 tt, .int .i64 cc, .int .i64 nn, .int .i64 kk, .string xx] w fun e w' => ∃ a' n' k', e = .returned (.tuple #[.agg #[.int .i64 c, .slice a' n' k'], .int .i64 0]) ∧ RecsAt w' a' n' l' ∧ n' ≤ k' ∧ (∀ ad, a' = some ad → w.heap.size ≤ ad.block) ∧ Ext w w' :=
 (Correct_o k tt cc nn kk xx w H e0 hRl).mono fun _ _ ⟨c', a', n', k', er, he, hO, hE⟩ => by
  rw [ho] at hO
  obtain ⟨rfl, rfl, h1, h2, h3⟩ := hO.y
  exact ⟨a', n', k', he, h1, h2, h3, hE⟩
theorem New_y {c : Int} (w : World) (hc : 0 ≤ c ∧ c ≤ 15) (hRl : RootAt w) : Calls Tryz.prog 33 #[.int .i64 c] w fun e w' => e = .returned (.tuple #[.agg #[.int .i64 c, .slice none 0 0], .int .i64 0]) ∧ Ext w w' :=
 (New_c c w hRl).mono fun _ _ ⟨c', a', n', k', er, he, hR, hE⟩ => by
  rcases hR with ⟨_, rfl, rfl, rfl, rfl, rfl⟩ | ⟨h, _⟩
  · exact ⟨he, hE⟩
  · rw [Rep.valid_iff.2 ⟨hc, Nat.zero_le _, Rep.Vd.nil⟩] at h; cases h
theorem New_n {c : Int} (w : World) (hc : ¬ (0 ≤ c ∧ c ≤ 15)) (hRl : RootAt w) : Calls Tryz.prog 33 #[.int .i64 c] w fun e w' => e = .returned (.tuple #[.agg #[.int .i64 0, .slice none 0 0], .int .i64 350]) ∧ Ext w w' :=
 (New_c c w hRl).mono fun _ _ ⟨c', a', n', k', er, he, hR, hE⟩ => by
  rcases hR with ⟨h, _⟩ | ⟨_, rfl, rfl, rfl, rfl, rfl⟩
  · exact absurd (Rep.valid_iff.1 h).1 hc
  · exact ⟨he, hE⟩
end Go.Proofs.YtfmoabgjaclkpaaGreatDoor

namespace Go.Proofs.YtfmoabgjaclkpaaGreatDoor
open Go.RowKit
theorem own_app1h {α : Type} {R : Rep α} {P : Program} {t ty e : TypeId} {z : Value} {size bytes : Nat} (E : ElemT P t e z size bytes) {n₀ : Nat} {v : Value} {w : World} {l : List α} (h : OwnL R n₀ e size v w l) (hn : n₀ ≤ w.heap.size) {k : Nat} (hl : l.length = k)
    {O c : Nat} {x : α} {d : List Value} {F : List Nat} (hsz : d.length = size) (hcell : ∀ j u, d[j]? = some u → w.cell? ⟨O, j, none⟩ = some u) (h1 : ∀ u ∈ d, u.oneCell' = true)
    (hR : R.rel w d x F) (hF : ∀ b ∈ F, v.ownBlock ≠ some b) (hb : (k + 1) * bytes ≤ 140737488355328) (hmax : k + 1 ≤ 9223372036854775807) :
    ∃ g cap w', (Builtin.append_ #[t, t] ty #[v, .slice (some ⟨O, 0, none⟩) 1 c]).run P w = .ok (.slice (some ⟨g, 0, none⟩) (k + 1) cap) w' ∧ OwnL R n₀ e size (.slice (some ⟨g, 0, none⟩) (k + 1) cap) w' (l ++ [x]) ∧ Grew n₀ w w' ∧ w.grownBy w' v.ownBlock ∧ (v.ownBlock = some g ∨ w.heap.size ≤ g) := by
  subst hl
  obtain ⟨cs, h2, h3, h4, h5⟩ := h
  obtain ⟨i, hi, hz0, hz1, hz2⟩ := info_parts E.info
  obtain ⟨v', w', hrun, hown, hg, hiff, hat⟩ := run_append_own_at (P := P) w n₀ t ty e i z size bytes E.under hi hz0 hz1 hz2 E.zs E.pos v l.length cs.flatten h4 ⟨O, 0, none⟩ 1 c d (by rw [hsz, Nat.one_mul]) (fun j u hj => by
    rw [Addr.add_mid, Nat.zero_add]; exact hcell j u hj) h1 (by unfold maxLen; exact hmax) hb hn
  have hnb : ∀ F : List Nat, (∀ b ∈ F, v.ownBlock ≠ some b) → (∀ b ∈ F, b < w.heap.size) → (∀ b ∈ F, v'.ownBlock ≠ some b) ∧ ∀ b ∈ F, ∀ o u, w.cell? ⟨b, o, none⟩ = some u → w'.cell? ⟨b, o, none⟩ = some u := by
    intro F hF hFl
    refine ⟨fun b hbF hv' => ?_, fun b hbF o u hu => hg.cell hu (fun e => hF b hbF e.symm)⟩
    rcases hat with e1 | e1
    · exact hF b hbF (by rw [← e1]; exact hv')
    · rw [e1] at hv'; cases hv'; have := hFl _ hbF; omega
  have hO : OwnL R n₀ e size v' w' (l ++ [x]) := ⟨cs ++ [d], by simp [h2], by
      intro y hy
      rcases List.mem_append.1 hy with hy | hy
      · exact h3 y hy
      · rw [List.mem_singleton.1 hy]; exact hsz, by rw [List.flatten_append, List.length_append]; simpa using hown, by
      intro j y c hx hc
      rcases Nat.lt_or_ge j l.length with hj | hj
      · rw [List.getElem?_append_left hj] at hx
        rw [List.getElem?_append_left (by rw [h2]; exact hj)] at hc
        obtain ⟨F, q1, q2⟩ := h5 j y c hx hc
        obtain ⟨k1, k2⟩ := hnb F q2 (R.lt q1)
        exact ⟨F, R.keep q1 k2, k1⟩
      · rw [List.getElem?_append_right hj] at hx
        rw [List.getElem?_append_right (by rw [h2]; exact hj), h2] at hc
        match hj' : j - l.length, hx, hc with
        | 0, hx, hc =>
          simp at hx hc; subst hx hc
          obtain ⟨k1, k2⟩ := hnb F hF (R.lt hR)
          exact ⟨F, R.keep hR k2, k1⟩
        | _ + 1, hx, _ => simp at hx⟩
  rcases hown.2 with ⟨q, _⟩ | ⟨g, cap, cur, q, _, _, q3, _⟩
  · have := (hiff.1 q).2; omega
  · subst q
    exact ⟨g, cap, w', hrun, hO, ⟨hg.size, fun U hU hUn => Ext.own' hU h4 hUn hg⟩, hg, by
      rcases hat with e1 | e1
      · exact .inl e1.symm
      · exact .inr (Nat.le_of_eq (Option.some.inj e1).symm)⟩
theorem OwnL.grown {α : Type} {R : Rep α} {n₀ : Nat} {e : TypeId} {size : Nat} {v : Value} {w w' : World} {l : List α} {r : Option Nat} (h : OwnL R n₀ e size v w l) (hg : w.grownBy w' r) (ha : (v.ownBlock = none ∨ v.ownBlock ≠ r) ∧ ∀ w c x F, R.rel w c x F → F = []) : OwnL R n₀ e size v w' l := by
 obtain ⟨cs, q1, q2, q3, q4⟩ := h
 exact ⟨cs, q1, q2, q3.kept hg ha.1, fun j x c hx hc => by
  obtain ⟨F, k1, k2⟩ := q4 j x c hx hc
  have := ha.2 _ _ _ _ k1
  subst this
  exact ⟨[], R.keep k1 (fun b hb => by cases hb), fun b hb => by cases hb⟩⟩
abbrev Slc := Option Addr × Nat × Nat
def slV (p : Slc) : Value := .slice p.1 p.2.1 p.2.2
theorem zero_slc (w : World) : (zeroValue 23).run Tryz.prog w = .ok (slV (none, 0, 0)) w := by kernel_rfl
structure Chg (lo B : Nat) (w X : World) : Prop where
 os : X.os = w.os
 tape : X.tape = w.tape
 output : X.output = w.output
 size : w.heap.size ≤ X.heap.size
 heap : ∀ k, k < lo → k ≠ B → k < w.heap.size → X.heap[k]? = w.heap[k]?
theorem Chg.ext {lo B : Nat} {U w X : World} (h : Chg lo B w X) (e : Ext U w) (h1 : U.heap.size ≤ lo) (h2 : U.heap.size ≤ B) : Ext U X :=
 ⟨h.os.trans e.os, h.tape.trans e.tape, h.output.trans e.output, T e.size h.size, fun k hk => (h.heap k (by omega) (by omega) (Nat.lt_of_lt_of_le hk e.size)).trans (e.block k hk)⟩
theorem Chg.cell {lo B b o : Nat} {w X : World} (h : Chg lo B w X) (h1 : b < lo) (h2 : b ≠ B) {v : Value} (hv : w.cell? ⟨b, o, none⟩ = some v) : X.cell? ⟨b, o, none⟩ = some v :=
 (World.cell?_of_block (h.heap b h1 h2 (World.block_lt_of_cell? _ _ hv))).trans hv
theorem Chg.box {lo B b o : Nat} {w X : World} (h : Chg lo B w X) (h1 : b < lo) (h2 : b ≠ B) {v : Value} (hv : BoxAt w b o v) : BoxAt X b o v :=
 ⟨h.cell h1 h2 hv.1, (World.frozen?_of_block (h.heap b h1 h2 hv.lt)).trans hv.2⟩
theorem Chg.recsW {lo B b : Nat} {w X : World} {l : List Rec} (h : Chg lo B w X) (h1 : b < lo) (h2 : b ≠ B) (hv : RecsW w b l) : RecsW X b l := hv.map fun _ _ q => h.box h1 h2 q
theorem Chg.map {κ β : Type} {kv : κ → Value} {vv : β → Value} {l : List (κ × β)} {lo B b : Nat} {w X : World} (h : Chg lo B w X) (h1 : b < lo) (h2 : b ≠ B) (hv : MapS kv vv w b l) : MapS kv vv X b l := hv.block (h.heap b h1 h2 hv.lt)
theorem Rep.recR_noF : ∀ w c x F, recR.rel w c x F → F = [] := fun _ _ _ _ h => h.2
structure FamsS (w : World) (lo B : Nat) (F : Int × Int → List Rec) : Prop where
 out : ∃ L : List ((Int × Int) × Slc), MapS keyV slV w B L ∧ (L.map Prod.fst).Nodup ∧
  (∀ p ∈ L, OwnL recR lo 49 7 (slV p.2) w (F p.1) ∧ (F p.1).length = p.2.2.1 ∧ 0 < p.2.2.1 ∧ p.2.2.1 ≤ p.2.2.2) ∧
  (∀ p ∈ L, ∀ q ∈ L, p.1 ≠ q.1 → ∀ b, (slV p.2).ownBlock = some b → (slV q.2).ownBlock ≠ some b) ∧ ∀ k, k ∉ L.map Prod.fst → F k = []
theorem FamsS.lt {w : World} {lo B : Nat} {F : Int × Int → List Rec} (h : FamsS w lo B F) : B < w.heap.size := by
 obtain ⟨L, h1, _⟩ := h.out; exact h1.lt
theorem FamsS.ext {w X : World} {lo B : Nat} {F : Int × Int → List Rec} (h : FamsS w lo B F) (e : Ext w X) : FamsS X lo B F := by
 obtain ⟨L, h1, h2, h3, h4, h5⟩ := h.out
 exact ⟨L, h1.ext e, h2, fun p hp => ⟨(h3 p hp).1.ext e, (h3 p hp).2⟩, h4, h5⟩
theorem FamsS.congr {w : World} {lo B : Nat} {F G : Int × Int → List Rec} (h : FamsS w lo B F) (e : ∀ k, F k = G k) : FamsS w lo B G := (funext e : F = G) ▸ h
theorem FamsS.nil {w : World} {lo B : Nat} (h : MapS keyV slV w B []) : FamsS w lo B fun _ => [] := ⟨[], h, by simp, (fun p hp => by cases hp), (fun p hp => by cases hp), fun _ _ => rfl⟩
theorem getM_none' {κ β : Type} [DecidableEq κ] {L : List (κ × β)} (hn : (L.map Prod.fst).Nodup) {x : κ} (h : getM x L = none) : x ∉ L.map Prod.fst := fun hx => by
 obtain ⟨⟨y, u⟩, hp, rfl⟩ := List.mem_map.1 hx
 rw [getM_of_mem hn hp] at h; cases h
theorem turnsM_chg {lo B : Nat} {w X : World} (h : TurnsM B w X) : Chg lo B w X := ⟨h.os, h.tape, h.output, Nat.le_of_eq h.size.symm, fun k _ hk _ => h.heap' k hk⟩
theorem Chg.trans {lo B : Nat} {w X Y : World} (h : Chg lo B w X) (k : Chg lo B X Y) : Chg lo B w Y :=
 ⟨k.os.trans h.os, k.tape.trans h.tape, k.output.trans h.output, T h.size k.size, fun i hi hB hl => (k.heap i hi hB (Nat.lt_of_lt_of_le hl h.size)).trans (h.heap i hi hB hl)⟩
theorem cellsR7 {w : World} {O : Nat} {x : Rec} (h : RecB w O 0 [x]) : ∀ j u, x.enc[j]? = some u → w.cell? ⟨O, j, none⟩ = some u := fun j u hj => by
 obtain ⟨h0, h1, h2, h3, h4, h5, h6⟩ := h.at_ 0 x rfl
 match j, hj with
 | 0, hj => simp [Rec.enc] at hj; subst hj; exact h0
 | 1, hj => simp [Rec.enc] at hj; subst hj; exact h1
 | 2, hj => simp [Rec.enc] at hj; subst hj; exact h2
 | 3, hj => simp [Rec.enc] at hj; subst hj; exact h3
 | 4, hj => simp [Rec.enc] at hj; subst hj; exact h4
 | 5, hj => simp [Rec.enc] at hj; subst hj; exact h5
 | 6, hj => simp [Rec.enc] at hj; subst hj; exact h6
 | _ + 7, hj => simp [Rec.enc] at hj
theorem cells7 {w : World} {O : Nat} {u0 u1 u2 u3 u4 u5 u6 : Value} (h0 : w.cell? ⟨O, 0, none⟩ = some u0) (h1 : w.cell? ⟨O, 1, none⟩ = some u1) (h2 : w.cell? ⟨O, 2, none⟩ = some u2) (h3 : w.cell? ⟨O, 3, none⟩ = some u3) (h4 : w.cell? ⟨O, 4, none⟩ = some u4) (h5 : w.cell? ⟨O, 5, none⟩ = some u5) (h6 : w.cell? ⟨O, 6, none⟩ = some u6) : ∀ j u, [u0, u1, u2, u3, u4, u5, u6][j]? = some u → w.cell? ⟨O, j, none⟩ = some u
 | 0, u, hj => by simp at hj; subst hj; exact h0
 | 1, u, hj => by simp at hj; subst hj; exact h1
 | 2, u, hj => by simp at hj; subst hj; exact h2
 | 3, u, hj => by simp at hj; subst hj; exact h3
 | 4, u, hj => by simp at hj; subst hj; exact h4
 | 5, u, hj => by simp at hj; subst hj; exact h5
 | 6, u, hj => by simp at hj; subst hj; exact h6
 | _ + 7, u, hj => by simp at hj
theorem fam_step {w : World} {lo B O : Nat} {F : Int × Int → List Rec} (h : FamsS w lo B F) (hB : B < lo) (hlo : lo ≤ w.heap.size) (k : Int × Int) (x : Rec) (hx : RecB w O 0 [x]) (hn : (F k).length ≤ 1000) :
    ∃ (X1 : World) (st : Nat) (s0 : Slc), (Instr.mapEntry 67 (.map (some B)) (keyV k)).run Tryz.prog w = .ok (.tuple #[slV s0, goInt st]) X1 ∧
    ∃ (X2 : World) (s1 : Slc), (Builtin.append_ #[23, 23] 23 #[slV s0, .slice (some ⟨O, 0, none⟩) 1 1]).run Tryz.prog X1 = .ok (slV s1) X2 ∧
    ∃ X3, (Instr.entryStore 67 (.map (some B)) (goInt st) (slV s1)).run Tryz.prog X2 = .ok () X3 ∧ FamsS X3 lo B (fun q => if k = q then F q ++ [x] else F q) ∧ Chg lo B w X3 := by
  obtain ⟨L, hM, hnd, hown, hdis, hno⟩ := h.out
  obtain ⟨X1, j, st, l', Ba, B3, Bb, ⟨u, hu⟩, hset⟩ := run_entryM (P := Tryz.prog) Tryz.underlying67 hM key_law k (z := (none, 0, 0)) (zero_slc w)
  have B0 := Bb.mv0
  have Bj : RecB X1 O 0 [x] := ⟨fun i y hy => by
    obtain ⟨h0, h1, h2, h3, h4, h5, h6⟩ := hx.at_ i y hy
    exact ⟨B0.cell h0, B0.cell h1, B0.cell h2, B0.cell h3, B0.cell h4, B0.cell h5, B0.cell h6⟩⟩
  -- what was there
  have Bi : ∃ n c a, (getM k L).getD (none, 0, 0) = (a, n, c) ∧ OwnL recR lo 49 7 (.slice a n c) X1 (F k) ∧ (F k).length = n ∧ n ≤ c ∧ (∀ p ∈ L, p.1 ≠ k → ∀ b, (slV p.2).ownBlock = some b → (Value.slice a n c).ownBlock ≠ some b) := by
    cases hg : getM k L with
    | none =>
      refine ⟨0, 0, none, rfl, ?_, by rw [hno k (getM_none' hnd hg)]; rfl, Nat.le_refl _, fun p _ _ b _ e => by cases e⟩
      rw [hno k (getM_none' hnd hg)]; exact OwnL.nil _ _ _ _ _
    | some s =>
      have hp := getM_mem hg
      obtain ⟨k1, k2, k3, k4⟩ := hown _ hp
      exact ⟨s.2.1, s.2.2, s.1, rfl, B0.own k1, k2, k4, fun p hp' hne b hb => hdis p hp' (k, s) hp hne b hb⟩
  obtain ⟨n, c, a, e0, B7, hln, hnc, hdk⟩ := Bi
  rw [e0] at Ba
  have B2 : lo ≤ X1.heap.size := T hlo B0.size
  obtain ⟨g, cap, X2, Bg, B8, Bk, hgb, hsame⟩ := own_app1h (P := Tryz.prog) (ty := 23) recT B7 B2 (k := n) hln (O := O) (c := 1) (x := x) (d := x.enc) (F := []) rfl (cellsR7 Bj) (rec_one x) ⟨rfl, rfl⟩ (fun b hb => by cases hb) (by omega) (by omega)
  have hab : ∀ b, (Value.slice a n c).ownBlock = some b → lo ≤ b := by obtain ⟨_, _, _, hr, _⟩ := B7; exact fun b hb => (hr.lt b hb).1
  have hBr : some B ≠ (Value.slice a n c).ownBlock := fun e => by have := hab B e.symm; omega
  have Be : MapE keyV slV X2 B l' j st := B3.block (hgb.block B B3.lt hBr)
  obtain ⟨X3, Bh, Bf, Bc⟩ := run_entryS (P := Tryz.prog) (t := 67) Be k (some ⟨g, 0, none⟩, n + 1, cap) hu rfl
  have B4 := Bc.mv0
  have hcap : n + 1 ≤ cap := by
    obtain ⟨_, _, _, hr, _⟩ := B8
    rcases hr.2 with ⟨q, _⟩ | ⟨g', cap', cur, q, _, _, hc, _⟩
    · cases q
    · injection q with q1 q2 q3; subst q3; have : (F k ++ [x]).length = n + 1 := by rw [List.length_append, hln]; rfl
      omega
  refine ⟨X1, st, (a, n, c), Ba, X2, (some ⟨g, 0, none⟩, n + 1, cap), Bg, X3, Bh, ⟨updM k (some ⟨g, 0, none⟩, n + 1, cap) L, by rw [← hset]; exact Bf, nodup_updM hnd, ?_, ?_, fun q hq => ?_⟩, ?_⟩
  · intro p hp
    have hg := getM_of_mem (nodup_updM hnd) hp
    rw [getM_updM] at hg
    by_cases e : k = p.1
    · rw [if_pos e] at hg; injection hg with hg
      rw [← hg, ← e]
      show OwnL recR lo 49 7 (.slice (some ⟨g, 0, none⟩) (n + 1) cap) X3 (if k = k then F k ++ [x] else F k) ∧ (if k = k then F k ++ [x] else F k).length = n + 1 ∧ 0 < n + 1 ∧ n + 1 ≤ cap
      rw [if_pos rfl]
      exact ⟨B4.own B8, by rw [List.length_append, hln]; rfl, by omega, hcap⟩
    · rw [if_neg e] at hg
      have hp' := getM_mem hg
      show OwnL recR lo 49 7 (slV p.2) X3 (if k = p.1 then F p.1 ++ [x] else F p.1) ∧ (if k = p.1 then F p.1 ++ [x] else F p.1).length = p.2.2.1 ∧ _
      rw [if_neg e]
      obtain ⟨k1, k2⟩ := hown p hp'
      exact ⟨B4.own ((B0.own k1).grown hgb ⟨.inr fun q => by
        cases hb : (slV p.2).ownBlock with
        | none =>
          have : p.2.2.1 = 0 := by
            obtain ⟨_, _, _, hr, _⟩ := k1
            rcases hr.2 with ⟨z, _⟩ | ⟨g', cap', cur, z, _⟩
            · unfold slV at z; injection z
            · rw [z] at hb; cases hb
          omega
        | some b => exact hdk p hp' (fun z => e z.symm) b hb (by rw [← q]; exact hb), Rep.recR_noF⟩), k2⟩
  · have hnew : ∀ p ∈ L, p.1 ≠ k → ∀ b, (slV p.2).ownBlock = some b → b ≠ g := fun p hp hne b hb e => by
      subst e
      rcases hsame with q | q
      · exact hdk p hp hne b hb q
      · have := (B0.own (hown p hp).1).lt b hb; omega
    have hin : ∀ p ∈ updM k (some ⟨g, 0, none⟩, n + 1, cap) L, p = (k, (some ⟨g, 0, none⟩, n + 1, cap)) ∨ p ∈ L ∧ p.1 ≠ k := fun p hp => by
      have hg := getM_of_mem (nodup_updM hnd) hp
      rw [getM_updM] at hg
      by_cases e : k = p.1
      · rw [if_pos e] at hg; injection hg with hg; exact .inl (Prod.ext e.symm hg.symm)
      · rw [if_neg e] at hg; exact .inr ⟨getM_mem hg, fun z => e z.symm⟩
    intro p hp q hq hne b hb e
    rcases hin p hp with rfl | ⟨p1, p2⟩ <;> rcases hin q hq with rfl | ⟨q1, q2⟩
    · exact hne rfl
    · have hb' : some g = some b := hb
      injection hb' with hb'; exact hnew q q1 q2 b e hb'.symm
    · have e' : some g = some b := e
      injection e' with e'; exact hnew p p1 p2 b hb e'.symm
    · exact hdis p p1 q q1 hne b hb e
  · have hk : k ≠ q ∧ q ∉ L.map Prod.fst := ⟨fun e => hq (keys_updM.2 (.inl e.symm)), fun e => hq (keys_updM.2 (.inr e))⟩
    show (if k = q then F q ++ [x] else F q) = []
    rw [if_neg hk.1]; exact hno q hk.2
  · refine (turnsM_chg Bb).trans (Chg.trans ⟨hgb.os, hgb.tape, hgb.output, hgb.size, fun i hi _ hl => hgb.block i hl fun e => ?_⟩ (turnsM_chg Bc))
    have := hab i e.symm; omega
end Go.Proofs.YtfmoabgjaclkpaaGreatDoor

namespace Go.Proofs.YtfmoabgjaclkpaaGreatDoor
set_option maxRecDepth 1000000
set_option maxHeartbeats 4000000
set_option synthInstance.maxHeartbeats 0
set_option synthInstance.maxSize 9999
open Go.RowKit
def Tz39_0 : List Row := [(some 5, [3], []), (some 6, [5], [0]), (some 7, [], []), (some 8, [6, 7], [1, 2])]
namespace Rep
theorem sortB_eq {l l' : List Rec} (hd : keysD l) (hp : l'.Perm l) (hs : l'.Pairwise fun x y => ¬ ltB y x) : l' = sortB l := by
 refine uniqB ?_ (sortB_sorted hd) fun x => by rw [hp.mem_iff, sortB_mem]
 have hn : l'.Nodup := hp.nodup_iff.2 (hd.imp fun {x y} h e => h (by rw [e]))
 refine List.Pairwise.imp_of_mem (fun {x y} hx hy h => ?_) (hs.and hn)
 rcases ltB_tri x y with q | q | q
 · exact q
 · exact absurd (hd.inj (hp.mem_iff.1 hx) (hp.mem_iff.1 hy) q) h.2
 · exact absurd q h.1
theorem sortB_len {l : List Rec} (hd : keysD l) : (sortB l).length = l.length := by
 have h1 : (sortB l).Nodup := nodup_of ltB_irrefl (sortB_sorted hd)
 have h2 : l.Nodup := hd.imp fun {x y} h e => h (by rw [e])
 exact ((List.perm_ext_iff_of_nodup h1 h2).2 fun x => sortB_mem).length_eq
def famP (l : List Rec) (i : Nat) (k : Int × Int) : List Rec := ((sortB l).take i).filter fun x => decide ((rt l x).key = k)
theorem famP_zero (l : List Rec) (k : Int × Int) : famP l 0 k = [] := by unfold famP; rw [List.take_zero]; rfl
theorem famP_succ {l : List Rec} {i : Nat} (hi : i < (sortB l).length) (k : Int × Int) : famP l (i + 1) k = if (rt l (recN (sortB l) i)).key = k then famP l i k ++ [recN (sortB l) i] else famP l i k := by
 unfold famP
 rw [recN_take hi, List.filter_append]
 by_cases h : (rt l (recN (sortB l) i)).key = k
 · rw [if_pos h]; simp [h]
 · rw [if_neg h]; simp [h]
theorem famP_all {l : List Rec} {i : Nat} (hi : (sortB l).length ≤ i) (k : Int × Int) : famP l i k = famK l k := by unfold famP; rw [List.take_of_length_le hi]; rfl
theorem famP_len {l : List Rec} {i : Nat} (hl : i ≤ 1000) (k : Int × Int) : (famP l i k).length ≤ 1000 := by
 have h1 := List.length_filter_le (fun x => decide ((rt l x).key = k)) ((sortB l).take i)
 have h2 := List.length_take_le i (sortB l)
 exact T h1 (T h2 hl)
end Rep
theorem SortB_c {g n cap : Nat} {l : List Rec} (w : World) (hRc : RecsW w g l) (hl : l.length = n) (h0 : 0 < n) (hn : n ≤ 1000) (hd : Rep.keysD l) :
  Calls Tryz.prog 79 #[.slice (some ⟨g, 0, none⟩) n cap, .func (.func 46) #[] #[]] w fun e w' => e = .returned (.tuple #[]) ∧ RecsW w' g (Rep.sortB l) ∧ Wrote (fun k => k = g) w w' :=
 (SortBefore_c w hRc hl h0 hn).mono fun _ _ ⟨he, _l', h1, h2, h3, h4⟩ => ⟨he, Rep.sortB_eq hd h2 h3 ▸ h1, h4⟩
theorem Clone_p {w0 : World} {a : Option Addr} {n : Nat} {l : List Rec} (c : Nat) (w : World) (h : RecsAt w0 a n l) (e0 : Ext w0 w) (hn : n ≤ 1000000) (hp : 0 < n) :
  Calls Tryz.prog 66 #[.slice a n c] w fun e w' => ∃ g c', e = .returned (.slice (some ⟨g, 0, none⟩) n c') ∧ w.heap.size ≤ g ∧ RecsW w' g l ∧ n ≤ c' ∧ Ext w w' :=
 (Clone_c c w h e0 hn).mono fun _ _ ⟨a', c', he, h1, _, hk, hE⟩ => by
  obtain ⟨g, rfl, h2, h3⟩ := h1 hp
  exact ⟨g, c', he, h2, h3, hk, hE⟩
theorem Clone_0 {w0 : World} {a : Option Addr} {l : List Rec} (c : Nat) (w : World) (h : RecsAt w0 a 0 l) (e0 : Ext w0 w) :
  Calls Tryz.prog 66 #[.slice a 0 c] w fun e w' => ∃ a' c', e = .returned (.slice a' 0 c') ∧ (a' = none ∨ ∃ g, a' = some ⟨g, 0, none⟩) ∧ Ext w w' :=
 (Clone_c c w h e0 (Nat.zero_le _)).mono fun _ _ ⟨a', c', he, _, h1, _, hE⟩ => ⟨a', c', he, h1, hE⟩
theorem RecB.one {w : World} {O : Nat} {y : Rec} (h0 : w.cell? ⟨O, 0, none⟩ = some (.int .i64 y.c)) (h1 : w.cell? ⟨O, 1, none⟩ = some (.int .i64 y.n)) (h2 : w.cell? ⟨O, 2, none⟩ = some (.int .i64 y.t)) (h3 : w.cell? ⟨O, 3, none⟩ = some (.int .i64 y.o)) (h4 : w.cell? ⟨O, 4, none⟩ = some (.int .i64 y.w)) (h5 : w.cell? ⟨O, 5, none⟩ = some (.int .i64 y.k)) (h6 : w.cell? ⟨O, 6, none⟩ = some (.string y.x)) : RecB w O 0 [y] :=
 ⟨fun i x hx => by
  match i, hx with
  | 0, hx => simp at hx; subst hx; exact ⟨h0, h1, h2, h3, h4, h5, h6⟩
  | _ + 1, hx => simp at hx⟩
theorem root_c {w1 : World} {B : Nat} {l : List Rec} (x : Rec) (w : World) (hM : MapS keyV Rec.val w1 B (Rep.bookL l)) (e1 : Ext w1 w) (hv : Rep.Vd l) (hx : x ∈ l) (hRl : RootAt w) : Calls Tryz.prog 59 #[.map (some B), rvv x] w fun e w' => e = .returned (.agg #[iv (Rep.rt l x).c, iv (Rep.rt l x).n]) ∧ Ext w w' := by
 replace hM := hM.ext e1;clear e1;have hBl := hM.lt;refine calls_cw 15 [(1, rvv x), (0, .map (some B))] Tryz.func59 rfl Tryz.ntmps59 (by kernel_rfl) (by kernel_rfl) (fun L => ?_);have hE := Ext.refl w;refine zc (zp (pS (sw 49 #[iv x.c, iv x.n, iv x.t, iv x.o, iv x.w, iv x.k, .string x.x] ?_)));intro O1 X2 Bu C8 hb hbx;have ⟨Bf, Bg, Bh, Bi, Bj, Bk, Bm⟩ := bq7 hbx;replace hE := hE.trans hb;have C6 := hb.size;have Bn := Bf.lt;refine pS (sw 70 #[iv 0, iv 0] ?_);intro O5 X6 Be C9 hb hbx;have ⟨B0, B2⟩ := bq2 hbx;refine mv7 hb hE Bf Bg Bh Bi Bj Bk fun hE Bf Bg Bh Bi Bj Bk=>?_;replace Bm := Bm.x hb;have Ce := hb.size;have Cf := B0.lt;refine zn (zc (cw_block ?_));refine cw_loop [0, 3, 4] (fun ws' wr m => ∃ cur : Rec, ws' = [(0, .map (some B)), (3, pw O1 0), (4, pw O5 0)] ∧ m = Rep.dep l cur ∧ X6.heap.size ≤ wr.heap.size ∧ Ext w wr ∧ BoxAt wr O5 0 (iv 0) ∧ BoxAt wr O5 1 (iv 0) ∧ BoxAt wr O1 0 (iv cur.c) ∧ BoxAt wr O1 1 (iv cur.n) ∧ BoxAt wr O1 2 (iv cur.t) ∧ BoxAt wr O1 3 (iv cur.o) ∧ BoxAt wr O1 4 (iv cur.w) ∧ BoxAt wr O1 5 (iv cur.k) ∧ BoxAt wr O1 6 (.string cur.x) ∧ cur ∈ l ∧ Rep.rt l cur = Rep.rt l x) (ws0 := [(0, .map (some B)), (3, pw O1 0), (4, pw O5 0)]) (by kernel_rfl) _ ⟨x, rfl, rfl, Nat.le_refl _, hE, B0, B2, Bf, Bg, Bh, Bi, Bj, Bk, Bm, hx, rfl⟩ ?_;clear Bf Bg Bh Bi Bj Bk Bm B0 B2 hE;rintro Cg L ws Ch ⟨cur, rfl, rfl, C7, hE, B0, B2, B3, B4, B7, B8, Ba, Bb, Bc, hcm, hrt⟩
 by_cases hr : cur.o = -1 ∧ cur.w = 0
 ·
  refine zc (zc (dE Tz39_0 (fun w' => w'.cell? ⟨O1, 0, none⟩ = some (iv cur.c) ∧ w'.cell? ⟨O1, 1, none⟩ = some (iv cur.n) ∧ w'.cell? ⟨O1, 2, none⟩ = some (iv cur.t) ∧ w'.cell? ⟨O1, 3, none⟩ = some (iv cur.o) ∧ w'.cell? ⟨O1, 4, none⟩ = some (iv cur.w) ∧ w'.cell? ⟨O1, 5, none⟩ = some (iv cur.k) ∧ w'.cell? ⟨O1, 6, none⟩ = some (.string cur.x) ∧ w'.cell? ⟨0, 0, none⟩ = some (iv (-1 : Int)) ∧ w'.cell? ⟨0, 1, none⟩ = some (iv 0)) (⟨B3.1, B4.1, B7.1, B8.1, Ba.1, Bb.1, Bc.1, (hE.cell hRl.c0), (hE.cell hRl.c1)⟩) (fun ops Q Cc hb hL hR hK => ?_)));refine mv9 hb hE B0 B2 B3 B4 B7 B8 Ba Bb fun hE B0 B2 B3 B4 B7 B8 Ba Bb=>?_;replace Bc := Bc.x hb;have C2 := hb.size;have hS := A9 B3.1 B4.1 B7.1 B8.1 Ba.1 Bb.1 Bc.1 (hE.cell hRl.c0) (hE.cell hRl.c1);refine wM 0 (rvv cur) hR (fun w hS => ld49 (hS.1) (hS.2.1) (hS.2.2.1) (hS.2.2.2.1) (hS.2.2.2.2.1) (hS.2.2.2.2.2.1) (hS.2.2.2.2.2.2.1)) hS ?_;refine wM 2 (.agg #[iv (-1 : Int), iv 0]) hR (fun w hS => ld70 (hS.2.2.2.2.2.2.2.1) (hS.2.2.2.2.2.2.2.2)) hS ?_;refine wC 1 85 #[rvv cur] hR ((target_c cur _).mono ?_);rintro e Ci ⟨rfl, hb⟩;refine mv9 hb hE B0 B2 B3 B4 B7 B8 Ba Bb fun hE B0 B2 B3 B4 B7 B8 Ba Bb=>?_;replace Bc := Bc.x hb;have C3 := hb.size;have hS := A9 B3.1 B4.1 B7.1 B8.1 Ba.1 Bb.1 Bc.1 (hE.cell hRl.c0) (hE.cell hRl.c1);refine ⟨_, rfl, hS, ?_⟩;refine wL 3 (.bool false) hR (fun w _ => ex_binV (a := .agg #[iv cur.o, iv cur.w]) (b := .agg #[iv (-1 : Int), iv 0]) rfl (by kernel_rfl) (by kernel_rfl) (eqG_agg (by kernel_rfl)) (bin_nqv_t (key_eq _ _ _ _ _) hr)) hS ?_;refine we hL hR hK ?_;refine zq (zf ?_);refine cw_exit (qw_then_exit (qw_then_exit (qw_block_out (zq (zc (zp (pU (rvv cur) (xl (ld49 (B3.1) (B4.1) (B7.1) (B8.1) (Ba.1) (Bb.1) (Bc.1))) ?_)))))));refine pS (sc 68 #[rvv cur] ((keyOf_c cur _).mono ?_));rintro e Ca ⟨rfl, hb⟩;refine mv9 hb hE B0 B2 B3 B4 B7 B8 Ba Bb fun hE B0 B2 B3 B4 B7 B8 Ba Bb=>?_;replace Bc := Bc.x hb;have C4 := hb.size;refine ⟨_, rfl, pP (sn_set2 (O := O5) (j := 0) (v := iv cur.c) (v' := iv cur.n) (xt (pw O5 0) (.agg #[iv cur.c, iv cur.n]) (st70 B0.1 B0.2 B2.1 B2.2)) B0 B2 ?_)⟩;intro C0 ho B0 B2 hk;replace hE := ho.ext hE (T C6 (Nat.le_of_eq Be));replace B3 := ho.box (by omega) B3;replace B4 := ho.box (by omega) B4;replace B7 := ho.box (by omega) B7;replace B8 := ho.box (by omega) B8;replace Ba := ho.box (by omega) Ba;replace Bb := ho.box (by omega) Bb;replace Bc := ho.box (by omega) Bc;have C5 := Nat.le_of_eq ho.size.symm;clear ho hk;refine zn (cw_ret (qw_ret [.agg #[iv cur.c, iv cur.n]] rfl ⟨⟨_, by kernel_rfl, res_ld (ld70 (B0.1) (B2.1))⟩, trivial⟩ ?_));have h9 : Rep.rt l x = cur := hrt.symm.trans (Rep.rt_root hr);rw [h9];exact ⟨rfl, hE⟩
 ·
  obtain ⟨y, hf, hy, hlt⟩ := hv.tgt hcm hr;have hg : getM (cur.o, cur.w) (Rep.bookL l) = some y := (Rep.book_get hv.keys _).trans hf;have hdp := Rep.dep_lt hy hlt;refine zc (zc (dE Tz39_0 (fun w' => w'.cell? ⟨O1, 0, none⟩ = some (iv cur.c) ∧ w'.cell? ⟨O1, 1, none⟩ = some (iv cur.n) ∧ w'.cell? ⟨O1, 2, none⟩ = some (iv cur.t) ∧ w'.cell? ⟨O1, 3, none⟩ = some (iv cur.o) ∧ w'.cell? ⟨O1, 4, none⟩ = some (iv cur.w) ∧ w'.cell? ⟨O1, 5, none⟩ = some (iv cur.k) ∧ w'.cell? ⟨O1, 6, none⟩ = some (.string cur.x) ∧ w'.cell? ⟨0, 0, none⟩ = some (iv (-1 : Int)) ∧ w'.cell? ⟨0, 1, none⟩ = some (iv 0)) (⟨B3.1, B4.1, B7.1, B8.1, Ba.1, Bb.1, Bc.1, (hE.cell hRl.c0), (hE.cell hRl.c1)⟩) (fun ops Q Cd hb hL hR hK => ?_)));refine mv9 hb hE B0 B2 B3 B4 B7 B8 Ba Bb fun hE B0 B2 B3 B4 B7 B8 Ba Bb=>?_;replace Bc := Bc.x hb;have Bq := hb.size;have hS := A9 B3.1 B4.1 B7.1 B8.1 Ba.1 Bb.1 Bc.1 (hE.cell hRl.c0) (hE.cell hRl.c1);refine wM 0 (rvv cur) hR (fun w hS => ld49 (hS.1) (hS.2.1) (hS.2.2.1) (hS.2.2.2.1) (hS.2.2.2.2.1) (hS.2.2.2.2.2.1) (hS.2.2.2.2.2.2.1)) hS ?_;refine wM 2 (.agg #[iv (-1 : Int), iv 0]) hR (fun w hS => ld70 (hS.2.2.2.2.2.2.2.1) (hS.2.2.2.2.2.2.2.2)) hS ?_;refine wC 1 85 #[rvv cur] hR ((target_c cur _).mono ?_);rintro e Cj ⟨rfl, hb⟩;refine mv9 hb hE B0 B2 B3 B4 B7 B8 Ba Bb fun hE B0 B2 B3 B4 B7 B8 Ba Bb=>?_;replace Bc := Bc.x hb;have Br := hb.size;have hS := A9 B3.1 B4.1 B7.1 B8.1 Ba.1 Bb.1 Bc.1 (hE.cell hRl.c0) (hE.cell hRl.c1);refine ⟨_, rfl, hS, ?_⟩;refine wL 3 (.bool true) hR (fun w _ => ex_binV (a := .agg #[iv cur.o, iv cur.w]) (b := .agg #[iv (-1 : Int), iv 0]) rfl (by kernel_rfl) (by kernel_rfl) (eqG_agg (by kernel_rfl)) (bin_nqv_f (key_eq _ _ _ _ _) hr)) hS ?_;refine we hL hR hK ?_;refine zq (zt ?_);refine cw_skip (zq (cw_block ?_));refine zp (pT (.map (some B)) ?_);refine pU (rvv cur) (xl (ld49 (B3.1) (B4.1) (B7.1) (B8.1) (Ba.1) (Bb.1) (Bc.1))) ?_;refine pS (sc 85 #[rvv cur] ((target_c cur _).mono ?_));rintro e Cb ⟨rfl, hb⟩;refine mv9 hb hE B0 B2 B3 B4 B7 B8 Ba Bb fun hE B0 B2 B3 B4 B7 B8 Ba Bb=>?_;replace Bc := Bc.x hb;have Bs := hb.size;refine ⟨_, rfl, pU (rvv y) (ex_lookup rfl (by kernel_rfl) (by kernel_rfl) (lookup_is1 (run_lookup1 Tryz.underlying79 (hM.ext hE) key_law (cur.o, cur.w) (zero_rec _)) hg)) ?_⟩;refine pP (sn_setK7 (O := O1) (j := 0) (v0 := iv y.c) (v1 := iv y.n) (v2 := iv y.t) (v3 := iv y.o) (v4 := iv y.w) (v5 := iv y.k) (v6 := .string y.x) (xt (pw O1 0) (rvv y) (st49 B3.1 B3.2 B4.1 B4.2 B7.1 B7.2 B8.1 B8.2 Ba.1 Ba.2 Bb.1 Bb.2 Bc.1 Bc.2)) B3 B4 B7 B8 Ba Bb Bc ?_);intro C1 ho B3 B4 B7 B8 Ba Bb Bc hk;replace hE := ho.ext hE (Nat.le_of_eq Bu);have q9 := ho.bx O5 (by omega);replace B0 := q9 B0;replace B2 := q9 B2;clear q9;have Bt := Nat.le_of_eq ho.size.symm;clear ho hk;refine pl_nil (qw_block (zr [0, 3, 4] _ ?_ ⟨y, rfl, rfl, (T C7 (T Bq (T Br (T Bs Bt)))), hE, B0, B2, B3, B4, B7, B8, Ba, Bb, Bc, hy, ((Rep.rt_step hv hcm hr hf).symm.trans hrt)⟩));omega
theorem families_0 {w0 : World} {c : Int} {a : Option Addr} {l : List Rec} (k : Nat) (w : World) (H : RecsAt w0 a 0 l) (e0 : Ext w0 w) : Calls Tryz.prog 43 #[.agg #[iv c, .slice a 0 k]] w fun e w' => ∃ B lo, e = .returned (.map (some B)) ∧ w.heap.size ≤ B ∧ 0 ≤ lo ∧ FamsS w' lo B (fun _ => []) ∧ Ext w w' := by
 replace H := H.ext e0;clear e0;have hln := H.len;refine calls_cw 37 [(0, .agg #[iv c, .slice a 0 k])] Tryz.func43 rfl Tryz.ntmps43 (by kernel_rfl) (by kernel_rfl) (fun L => ?_);have hE := Ext.refl w;refine zc (zp (pS (sw 25 #[iv c, .slice a 0 k] ?_)));intro O1 X2 Bj Bi hb hbx;have ⟨B2, B0⟩ := bq2 hbx;replace hE := hE.trans hb;have Bg := hb.size;have Br := B2.lt;refine pT (.map none) ?_;refine zn (zc (zp (pT (pw O1 1) ?_)));refine pU (.slice a 0 k) (xl (ld23 (B0.1))) ?_;refine pS (sc 52 #[.slice a 0 k] ((booked_c _ _ H hE).mono ?_));rintro e w8 ⟨B5, rfl, Bq, B4, hb⟩;refine mv3 hb hE B2 B0 fun hE B2 B0=>?_;have Bh := hb.size;have Bk := B4.lt;refine ⟨_, rfl, pT (.map (some B5)) ?_⟩;refine zn (zc (zp (pS (sn_map keyV slV (by kernel_rfl) ?_))));intro B7 Bo hO hOs hb B3;have B8 := hO;have Ba := hOs;clear hO hOs;refine mv4 hb hE B2 B0 B4 fun hE B2 B0 B4=>?_;have Bb := hb.size;have Bm := B3.lt;refine pT (.map (some B7)) ?_;refine zn (zc (zp (pT (pw O1 1) ?_)));refine pU (.slice a 0 k) (xl (ld23 (B0.1))) ?_;refine pS (sc 66 #[.slice a 0 k] ((Clone_0 _ _ H hE).mono ?_));rintro e Bt ⟨a9, c9, rfl, Bp, hb⟩;refine mv5 hb hE B2 B0 B4 B3 fun hE B2 B0 B4 B3=>?_;have Bc := hb.size;refine ⟨_, rfl, pT (.slice a9 0 c9) ?_⟩;refine zn (zc (zp (pT (.slice a9 0 c9) ?_)));refine pS (sc 79 #[.slice a9 0 c9, .func (.func 46) #[] #[]] ((SortBefore_0 _).mono ?_));rintro e Bn ⟨rfl, hb⟩;refine mv5 hb hE B2 B0 B4 B3 fun hE B2 B0 B4 B3=>?_;have Be := hb.size;refine ⟨_, rfl, ?_⟩;refine zn (cK [3,4,5] (fun L => ?_));refine zc (zc (zp (pD (.slice a9 0 c9) (iv 0) ?_)));refine pT (iv 0) ?_;refine zn (cw_block ?_);refine cw_loop [3, 4, 18, 19, 20] (fun ws' wr m => ws' = [(3, .map (some B5)), (4, .map (some B7)), (18, .slice a9 0 c9), (19, iv 0), (20, iv 0)] ∧ m = 0 ∧ Bn.heap.size ≤ wr.heap.size ∧ Ext w wr ∧ BoxAt wr O1 0 (iv c) ∧ BoxAt wr O1 1 (.slice a 0 k) ∧ MapS keyV Rec.val wr B5 (Rep.bookL l) ∧ MapS keyV slV wr B7 ([])) (ws0 := [(3, .map (some B5)), (4, .map (some B7)), (18, .slice a9 0 c9), (19, iv 0), (20, iv 0)]) (by kernel_rfl) _ ⟨rfl, rfl, Nat.le_refl _, hE, B2, B0, B4, B3⟩ ?_;clear B2 B0 B4 B3 hE;rintro Bs L ws Bu ⟨rfl, rfl, Bf, hE, B2, B0, B4, B3⟩;refine zc (zp (pT (.bool false) ?_));refine zn (zc (zf ?_));refine cw_exit (qw_then_exit (qw_then_exit (qw_block_out (zq (zc (zp (pD (.map (some B7)) (.map (some B7)) ?_)))))));refine zn (cw_ret (qw_ret [.map (some B7)] rfl ⟨(by kernel_rfl), trivial⟩ ?_));obtain rfl := List.eq_nil_of_length_eq_zero hln;exact ⟨_, 0, rfl, (T (T Bg Bh) (Nat.le_of_eq B8)), Nat.zero_le _, FamsS.nil B3, hE⟩
theorem families_p {w0 : World} {c : Int} {a : Option Addr} {n : Nat} {l : List Rec} (k : Nat) (w : World) (H : RecsAt w0 a n l) (e0 : Ext w0 w) (hRl : RootAt w) (hv : Rep.Vd l) (hp : 0 < n) (hn : n ≤ 100) : Calls Tryz.prog 43 #[.agg #[iv c, .slice a n k]] w fun e w' => ∃ B lo, e = .returned (.map (some B)) ∧ w.heap.size ≤ B ∧ w.heap.size ≤ lo ∧ FamsS w' lo B (Rep.famK l) ∧ Ext w w' := by
 replace H := H.ext e0;clear e0;have hln := H.len;refine calls_cw 37 [(0, .agg #[iv c, .slice a n k])] Tryz.func43 rfl Tryz.ntmps43 (by kernel_rfl) (by kernel_rfl) (fun L => ?_);have hE := Ext.refl w;refine zc (zp (pS (sw 25 #[iv c, .slice a n k] ?_)));intro O1 X2 De Dd hb hbx;have ⟨B2, B0⟩ := bq2 hbx;replace hE := hE.trans hb;have Ca := hb.size;have Ci := B2.lt;refine pT (.map none) ?_;refine zn (zc (zp (pT (pw O1 1) ?_)));refine pU (.slice a n k) (xl (ld23 (B0.1))) ?_;refine pS (sc 52 #[.slice a n k] ((booked_c _ _ H hE).mono ?_));rintro e w8 ⟨B5, rfl, Di, Bi, hb⟩;refine mv3 hb hE B2 B0 fun hE B2 B0=>?_;have Bw := hb.size;have Bz := Bi.lt;refine ⟨_, rfl, pT (.map (some B5)) ?_⟩;refine zn (zc (zp (pS (sn_map keyV slV (by kernel_rfl) ?_))));intro C0 Dh hO hOs hb Bp;have Bv := hO;have Cu := hOs;clear hO hOs;refine mv4 hb hE B2 B0 Bi fun hE B2 B0 Bi=>?_;have Bk := hb.size;have Cb := Bp.lt;refine pT (.map (some C0)) ?_;refine zn (zc (zp (pT (pw O1 1) ?_)));refine pU (.slice a n k) (xl (ld23 (B0.1))) ?_;refine pS (sc 66 #[.slice a n k] ((Clone_p _ _ H hE (by omega) hp).mono ?_));rintro e Dk ⟨Bu, C1, rfl, By, Cc, _, hb⟩;refine mv5 hb hE B2 B0 Bi Bp fun hE B2 B0 Bi Bp=>?_;have Bm := hb.size;have C9 := Cc.lt (i := 0) (by omega);refine ⟨_, rfl, pT (sv Bu 0 n C1) ?_⟩;refine zn (zc (zp (pT (sv Bu 0 n C1) ?_)));refine pS (sc 79 #[sv Bu 0 n C1, .func (.func 46) #[] #[]] ((SortB_c _ Cc hln hp (by omega) hv.keys).mono ?_));rintro e D0 ⟨rfl, Bf, hw⟩;replace hE := hw.ext hE (fun k hk => (show k = Bu from hk) ▸ (T (T Ca (T Bw Bk)) By));have q9 := fun ⦃j : Nat⦄ ⦃v : Value⦄ (h : BoxAt _ O1 j v) => hw.box (fun hx => absurd (show O1 = Bu from hx) (by omega)) h
 replace B2 := q9 B2;replace B0 := q9 B0;clear q9;replace Bi := Bi.block (hw.same _ Bi.lt (fun hx => absurd (show B5 = Bu from hx) (by omega)));replace Bp := Bp.block (hw.same _ Bp.lt (fun hx => absurd (show C0 = Bu from hx) (by omega)));have Bh := hw.size;have Co : (Rep.sortB l).length = n := (Rep.sortB_len hv.keys).trans hln;refine ⟨_, rfl, ?_⟩;refine zn (cK [3,4,5] (fun L => ?_));refine zc (zc (zp (pD (sv Bu 0 n C1) (iv n) ?_)));refine pT (iv 0) ?_;refine zn (cw_block ?_);refine cw_loop [3, 4, 18, 19, 20] (fun ws' wr m => ∃ i : Nat, ws' = [(3, .map (some B5)), (4, .map (some C0)), (18, sv Bu 0 n C1), (19, iv n), (20, iv i)] ∧ m = n - i ∧ D0.heap.size ≤ wr.heap.size ∧ Ext w wr ∧ BoxAt wr O1 0 (iv c) ∧ BoxAt wr O1 1 (.slice a n k) ∧ MapS keyV Rec.val wr B5 (Rep.bookL l) ∧ RecsW wr Bu ((Rep.sortB l)) ∧ FamsS wr D0.heap.size C0 (Rep.famP l i) ∧ i ≤ n) (ws0 := [(3, .map (some B5)), (4, .map (some C0)), (18, sv Bu 0 n C1), (19, iv n), (20, iv 0)]) (by kernel_rfl) _ ⟨0, rfl, rfl, Nat.le_refl _, hE, B2, B0, Bi, Bf, ((FamsS.nil Bp).congr fun k => (Rep.famP_zero l k).symm), Nat.zero_le _⟩ ?_;clear B2 B0 Bi Bp Bf hE;rintro Dj L ws D1 ⟨i, rfl, rfl, Bn, hE, B2, B0, Bi, Bf, hF, hi⟩;have Bj := Ext.refl D1
 by_cases hlt : i < n
 ·
  refine zc (zp (pU (.bool true) (ed (((i : Nat) : Int) < ((n : Nat) : Int)) (by omega)) ?_));refine zn (zc (zt ?_));refine cw_skip (zq (zc (cw_block ?_)));refine zc (zp (pU (pw Bu (i * 7)) (xi (sv Bu 0 n C1) (iv i) (ix23z (k := i) (by omega))) ?_));refine pU (rvv (recN ((Rep.sortB l)) i)) (xl (rl (Bf.ra (i := i) (by omega)))) ?_;refine pS (sw 49 #[iv 0, iv 0, iv 0, iv 0, iv 0, iv 0, .string (⟨#[]⟩)] ?_);intro Cj D3 Bs Cv hb hbx;have ⟨B3, B4, B7, B8, Ba, Bb, Bc⟩ := bq7 hbx;refine mv6 hb hE Bj B2 B0 Bi Bf fun hE Bj B2 B0 Bi Bf=>?_;have Bt := hb.size;have Cl := B3.lt;refine pP (sn_setK7 (O := Cj) (j := 0) (v0 := iv ((recN ((Rep.sortB l)) i).c : Int)) (v1 := iv ((recN ((Rep.sortB l)) i).n : Int)) (v2 := iv ((recN ((Rep.sortB l)) i).t : Int)) (v3 := iv ((recN ((Rep.sortB l)) i).o : Int)) (v4 := iv ((recN ((Rep.sortB l)) i).w : Int)) (v5 := iv ((recN ((Rep.sortB l)) i).k : Int)) (v6 := .string ((recN ((Rep.sortB l)) i).x)) (xt (pw Cj 0) (rvv (recN ((Rep.sortB l)) i)) (st49 B3.1 B3.2 B4.1 B4.2 B7.1 B7.2 B8.1 B8.2 Ba.1 Ba.2 Bb.1 Bb.2 Bc.1 Bc.2)) B3 B4 B7 B8 Ba Bb Bc ?_);intro D4 ho B3 B4 B7 B8 Ba Bb Bc hk;replace hE := ho.ext hE (by omega);replace Bj := ho.ext Bj (Nat.le_of_eq Bs);have q9 := ho.bx O1 (by omega);replace B2 := q9 B2;replace B0 := q9 B0;clear q9;replace Bi := Bi.block (ho.heap' _ (by omega));replace Bf := Bf.turn ho (by omega);have Bq := Nat.le_of_eq ho.size.symm;clear ho hk;refine zn (zc (zp (pT (.map (some B5)) ?_)));refine pU (rvv (recN ((Rep.sortB l)) i)) (xl (ld49 (B3.1) (B4.1) (B7.1) (B8.1) (Ba.1) (Bb.1) (Bc.1))) ?_;refine pS (sc 59 #[.map (some B5), rvv (recN ((Rep.sortB l)) i)] ((root_c ((recN ((Rep.sortB l)) i)) _ Bi (Ext.refl _) hv (Rep.sortB_mem.1 (recN_mem (by omega))) (hRl.ext hE)).mono ?_));rintro e Dl ⟨rfl, hb⟩;refine mv12 hb hE Bj B2 B0 Bi Bf B3 B4 B7 B8 Ba Bb fun hE Bj B2 B0 Bi Bf B3 B4 B7 B8 Ba Bb=>?_;replace Bc := Bc.x hb;have Br := hb.size;refine ⟨_, rfl, pS (sw 70 #[iv 0, iv 0] ?_)⟩;intro Cm D5 Bo Cw hb hbx;have ⟨Be, Bg⟩ := bq2 hbx;refine mv12 hb hE Bj B2 B0 Bi Bf B3 B4 B7 B8 Ba Bb fun hE Bj B2 B0 Bi Bf B3 B4 B7 B8 Ba Bb=>?_;replace Bc := Bc.x hb;have Cd := hb.size;have Df := Be.lt;refine pP (sn_set2 (O := Cm) (j := 0) (v := iv ((Rep.rt l ((recN ((Rep.sortB l)) i))).c : Int)) (v' := iv ((Rep.rt l ((recN ((Rep.sortB l)) i))).n : Int)) (xt (pw Cm 0) (.agg #[iv ((Rep.rt l ((recN ((Rep.sortB l)) i))).c : Int), iv ((Rep.rt l ((recN ((Rep.sortB l)) i))).n : Int)]) (st70 Be.1 Be.2 Bg.1 Bg.2)) Be Bg ?_);intro D6 ho Be Bg hk;replace hE := ho.ext hE (by omega);replace Bj := ho.ext Bj (T (T Bt (T Bq Br)) (Nat.le_of_eq Bo));have q9 := ho.bx O1 (by omega);replace B2 := q9 B2;replace B0 := q9 B0;clear q9;replace Bi := Bi.block (ho.heap' _ (by omega));replace Bf := Bf.turn ho (by omega);have q9 := ho.bx Cj (by omega);replace B3 := q9 B3;replace B4 := q9 B4;replace B7 := q9 B7;replace B8 := q9 B8;replace Ba := q9 Ba;replace Bb := q9 Bb;replace Bc := q9 Bc;clear q9;have Ce := Nat.le_of_eq ho.size.symm;clear ho hk;refine zn (zp (pT (.map (some C0)) ?_));refine pU (.agg #[iv ((Rep.rt l ((recN ((Rep.sortB l)) i))).c : Int), iv ((Rep.rt l ((recN ((Rep.sortB l)) i))).n : Int)]) (xl (ld70 (Be.1) (Bg.1))) ?_;refine pU (rvv (recN ((Rep.sortB l)) i)) (xl (ld49 (B3.1) (B4.1) (B7.1) (B8.1) (Ba.1) (Bb.1) (Bc.1))) ?_;refine pS (sn_newS (us := #[iv ((recN ((Rep.sortB l)) i).c : Int), iv ((recN ((Rep.sortB l)) i).n : Int), iv ((recN ((Rep.sortB l)) i).t : Int), iv ((recN ((Rep.sortB l)) i).o : Int), iv ((recN ((Rep.sortB l)) i).w : Int), iv ((recN ((Rep.sortB l)) i).k : Int), .string ((recN ((Rep.sortB l)) i).x)]) (t := 49) (k := 1) (c := 1) (by kernel_rfl) ?_);intro D2 D7 Cy Cx hb hbx;have ⟨Bx, C3, C4, C5, C6, C7, C8⟩ := bq7 hbx;refine mv6 hb hE Bj B2 B0 Bi Bf fun hE Bj B2 B0 Bi Bf=>?_;have Cf := hb.size;have Dg := Bx.lt;have C2 := (hF.ext Bj);have Dc : RecB D7 D2 0 [(recN (Rep.sortB l) i)] := RecB.one (Bx.1) (C3.1) (C4.1) (C5.1) (C6.1) (C7.1) (C8.1);obtain ⟨X1, Cz, s0, D9, X2, s1, Da, X3, Db, Cn, hch⟩ := fam_step C2 (Nat.lt_of_lt_of_le Cb (T Bm Bh)) (by omega) (Rep.rt l (recN (Rep.sortB l) i)).key (recN (Rep.sortB l) i) Dc (Rep.famP_len (by omega) _);refine pS (sn_eff (v := .tuple #[slV s0, goInt Cz]) (w' := X1) (ex_mapE (kx := keyV (Rep.rt l (recN (Rep.sortB l) i)).key) rfl (by kernel_rfl) (by kernel_rfl) D9) ?_);refine pT (slV s0) ?_;refine pS (sn_eff (v := slV s1) (w' := X2) (ex_append rfl (by kernel_rfl) (by kernel_rfl) Da) ?_);refine pT (goInt Cz) ?_;refine pP (sn_skp (ex_entS rfl (by kernel_rfl) (by kernel_rfl) (by kernel_rfl) Db) ?_)
  replace hE := hch.ext hE (T Ca (T Bw (T Bk (T Bm Bh)))) (T (T Ca Bw) (Nat.le_of_eq Bv));have q9 := fun ⦃j : Nat⦄ ⦃v : Value⦄ (h : BoxAt _ O1 j v) => hch.box (by omega) (by omega) h
  replace B2 := q9 B2;replace B0 := q9 B0;clear q9;replace Bi := hch.map (by omega) (by omega) Bi;replace Bf := hch.recsW (Nat.lt_of_lt_of_le C9 Bh) (by omega) Bf;have Ck := hch.size;have D8 := Cn.congr fun k => (Rep.famP_succ (by omega) k).symm
  clear Cn hch C2;refine pl_nil (qw_block (zq (cK [3,4,18,19,20] (fun L => ?_))));refine zp (pU (iv ((i + 1 : Nat) : Int)) (ew (by omega) (by omega)) ?_);refine pT (iv ((i + 1 : Nat) : Int)) ?_;refine pl_nil (zr [3, 4, 18, 19, 20] _ ?_ ⟨(i + 1), rfl, rfl, (by omega), hE, B2, B0, Bi, Bf, D8, by omega⟩);omega
 ·
  have hin : i = n := by omega
  refine zc (zp (pU (.bool false) (en (((i : Nat) : Int) < ((n : Nat) : Int)) (by omega)) ?_));refine zn (zc (zf ?_));refine cw_exit (qw_then_exit (qw_then_exit (qw_block_out (zq (zc (zp (pD (.map (some C0)) (.map (some C0)) ?_)))))));refine zn (cw_ret (qw_ret [.map (some C0)] rfl ⟨(by kernel_rfl), trivial⟩ ?_));subst hin;exact ⟨_, _, rfl, (T (T Ca Bw) (Nat.le_of_eq Bv)), (T Ca (T Bw (T Bk (T Bm Bh)))), (hF).congr (Rep.famP_all (by omega)), hE⟩
end Go.Proofs.YtfmoabgjaclkpaaGreatDoor

namespace Go.Proofs.YtfmoabgjaclkpaaGreatDoor
set_option maxRecDepth 1000000
set_option maxHeartbeats 4000000
set_option synthInstance.maxHeartbeats 0
set_option synthInstance.maxSize 9999
open Go.RowKit
def slcR : Rep Slc where
 rel _ c x F := c = [slV x] ∧ F = []
 keep := fun h _ => h
 lt := by rintro w c x F ⟨_, rfl⟩ b hb; cases hb
theorem slcT : ElemT Tryz.prog 66 23 (.slice none 0 0) 1 24 := ⟨Tryz.underlying66, by kernel_rfl, rfl, by decide⟩
theorem RecAt.inj {w : World} {b o : Nat} {x y : Rec} (h : RecAt w b o x) (k : RecAt w b o y) : x = y := by
 obtain ⟨h0, h1, h2, h3, h4, h5, h6⟩ := h
 obtain ⟨k0, k1, k2, k3, k4, k5, k6⟩ := k
 rw [h0] at k0; rw [h1] at k1; rw [h2] at k2; rw [h3] at k3; rw [h4] at k4; rw [h5] at k5; rw [h6] at k6
 cases x; cases y
 simp only [Option.some.injEq, Value.int.injEq, Value.string.injEq, true_and] at k0 k1 k2 k3 k4 k5 k6
 subst k0 k1 k2 k3 k4 k5 k6; rfl
open Classical in
noncomputable def rdR (w : World) (s : Slc) : Rec := if h : ∃ x b o, s.1 = some ⟨b, o, none⟩ ∧ RecAt w b o x then h.choose else default
theorem rdR_eq {w : World} {s : Slc} {b o : Nat} {x : Rec} (ha : s.1 = some ⟨b, o, none⟩) (h : RecAt w b o x) : rdR w s = x := by
 have hx : ∃ x b o, s.1 = some ⟨b, o, none⟩ ∧ RecAt w b o x := ⟨x, b, o, ha, h⟩
 unfold rdR; rw [dif_pos hx]
 obtain ⟨b', o', q1, q2⟩ := hx.choose_spec
 rw [ha] at q1; cases q1
 exact q2.inj h
structure IsFam (w : World) (s : Slc) : Prop where
 pos : 0 < s.2.1
 at_ : ∃ b o, s.1 = some ⟨b, o, none⟩ ∧ RecAt w b o (rdR w s)
theorem Fold1_g {b1 o1 n1 c1 b2 o2 n2 c2 : Nat} {x y : Rec} (w : World) (h1 : RecAt w b1 o1 x) (h2 : RecAt w b2 o2 y) (p1 : 0 < n1) (p2 : 0 < n2) : Calls Tryz.prog 45 #[sv b1 o1 n1 c1, sv b2 o2 n2 c2] w fun e w' => e = .returned (iv (Rep.befC x y)) ∧ Gro w w' := by
 have hG : Gro w w := Gro.refl w;obtain ⟨B0, B2, B3, B4, B7, B8, Ba⟩ := h1;obtain ⟨Bb, Bc, Be, Bf, Bg, Bh, Bi⟩ := h2;refine calls_cw 12 [(1, sv b2 o2 n2 c2), (0, sv b1 o1 n1 c1)] Tryz.func45 rfl Tryz.ntmps45 (by kernel_rfl) (by kernel_rfl) (fun L => ?_);have hE := Ext.refl w;refine zc (zp (pT (iv 0) ?_));refine zn (zc (cw_drawG [(some 5, [0], []), (some 6, [5], [0]), (some 7, [6], [1]), (some 8, [1], []), (some 9, [8], [3]), (some 10, [9], [4]), (some 11, [7, 10], [2, 5]), (some 4, [11], [6, 6, 0, 1, 2, 3, 4, 5, 6])] (fun w' => w'.cell? ⟨b1, o1, none⟩ = some (iv x.c) ∧ w'.cell? ⟨b1, o1 + 1, none⟩ = some (iv x.n) ∧ w'.cell? ⟨b1, o1 + 2, none⟩ = some (iv x.t) ∧ w'.cell? ⟨b1, o1 + 3, none⟩ = some (iv x.o) ∧ w'.cell? ⟨b1, o1 + 4, none⟩ = some (iv x.w) ∧ w'.cell? ⟨b1, o1 + 5, none⟩ = some (iv x.k) ∧ w'.cell? ⟨b1, o1 + 6, none⟩ = some (.string x.x) ∧ w'.cell? ⟨b2, o2, none⟩ = some (iv y.c) ∧ w'.cell? ⟨b2, o2 + 1, none⟩ = some (iv y.n) ∧ w'.cell? ⟨b2, o2 + 2, none⟩ = some (iv y.t) ∧ w'.cell? ⟨b2, o2 + 3, none⟩ = some (iv y.o) ∧ w'.cell? ⟨b2, o2 + 4, none⟩ = some (iv y.w) ∧ w'.cell? ⟨b2, o2 + 5, none⟩ = some (iv y.k) ∧ w'.cell? ⟨b2, o2 + 6, none⟩ = some (.string y.x)) (by kernel_rfl) (by kernel_rfl) (by kernel_rfl) (by kernel_rfl) ((calm_then calm_body)) (⟨B0, B2, B3, B4, B7, B8, Ba, Bb, Bc, Be, Bf, Bg, Bh, Bi⟩) (fun ops Q X1 hgx hb hL hR hK => ?_)));replace hG := hG.trans hgx;clear hgx;replace hE := hE.trans hb;have Bj := hb.size;have hS := A14 (hE.cell B0) (hE.cell B2) (hE.cell B3) (hE.cell B4) (hE.cell B7) (hE.cell B8) (hE.cell Ba) (hE.cell Bb) (hE.cell Bc) (hE.cell Be) (hE.cell Bf) (hE.cell Bg) (hE.cell Bh) (hE.cell Bi);refine wV 0 (sv b1 o1 n1 c1) hR hS ?_;refine wL 1 (pw b1 o1) hR (fun w _ => ex_index (p := sv b1 o1 n1 c1) (i := iv ((0 : Nat) : Int)) rfl (by kernel_rfl) (by kernel_rfl) (ix23 (k := 0) (by omega))) hS ?_;refine wM 2 (rvv x) hR (fun w hS => ld49 (hS.1) (hS.2.1) (hS.2.2.1) (hS.2.2.2.1) (hS.2.2.2.2.1) (hS.2.2.2.2.2.1) (hS.2.2.2.2.2.2.1)) hS ?_;refine wV 3 (sv b2 o2 n2 c2) hR hS ?_;refine wL 4 (pw b2 o2) hR (fun w _ => ex_index (p := sv b2 o2 n2 c2) (i := iv ((0 : Nat) : Int)) rfl (by kernel_rfl) (by kernel_rfl) (ix23 (k := 0) (by omega))) hS ?_;refine wM 5 (rvv y) hR (fun w hS => ld49 (hS.2.2.2.2.2.2.2.1) (hS.2.2.2.2.2.2.2.2.1) (hS.2.2.2.2.2.2.2.2.2.1) (hS.2.2.2.2.2.2.2.2.2.2.1) (hS.2.2.2.2.2.2.2.2.2.2.2.1) (hS.2.2.2.2.2.2.2.2.2.2.2.2.1) (hS.2.2.2.2.2.2.2.2.2.2.2.2.2)) hS ?_;refine wC 6 46 #[rvv x, rvv y] hR ((before_g x y _).mono ?_);rintro e w3 ⟨rfl, hb⟩;have hgx := hb;replace hb := hgx.ext;replace hG := hG.trans hgx;clear hgx;replace hE := hE.trans hb;have Bk := hb.size;have hS := A14 (hE.cell B0) (hE.cell B2) (hE.cell B3) (hE.cell B4) (hE.cell B7) (hE.cell B8) (hE.cell Ba) (hE.cell Bb) (hE.cell Bc) (hE.cell Be) (hE.cell Bf) (hE.cell Bg) (hE.cell Bh) (hE.cell Bi);refine ⟨_, rfl, hS, ?_⟩;refine wV 7 (iv (Rep.befC x y : Int)) hR hS ?_;refine we hL hR hK ?_;refine zq (cw_ret (qw_ret [iv (Rep.befC x y : Int)] rfl ⟨(by kernel_rfl), trivial⟩ ?_));exact ⟨rfl, hG⟩
structure SlcsAt (w : World) (a : Option Addr) (m : Nat) (A : List Slc) : Prop where
 len : A.length = m
 at_ : m = 0 ∨ ∃ b, a = some ⟨b, 0, none⟩ ∧ b < w.heap.size ∧ ∀ (i : Nat) s, A[i]? = some s → w.cell? ⟨b, i, none⟩ = some (slV s)
theorem SortFams_c {w w0 : World} {n₀ m c : Nat} {a : Option Addr} {A : List Slc} (h : OwnL slcR n₀ 23 1 (.slice a m c) w A) (hl : A.length = m) (hm : m ≤ 1000) (e0 : Ext w0 w) (hn : w0.heap.size ≤ n₀) (hf : ∀ s ∈ A, IsFam w0 s) :
    Calls Tryz.prog 44 #[.slice a m c, .func (.func 45) #[] #[]] w fun e w' => e = .returned (.tuple #[]) ∧ ∃ A', A'.Perm A ∧ (A'.Pairwise fun s t => ¬ Rep.ltB (rdR w0 t) (rdR w0 s)) ∧ SlcsAt w' a m A' ∧ (∀ U, Ext U w → U.heap.size ≤ n₀ → Ext U w') ∧ w.heap.size ≤ w'.heap.size := by
  rcases A with _ | ⟨s0, A0⟩
  · subst hl
    exact (Go.Proofs.AnyF.slices_SortFunc_none Tryz.sortL a c _ w).mono fun e w' ⟨he, hw⟩ => ⟨he, [], .refl _, .nil, ⟨rfl, .inl rfl⟩, fun U hU _ => hw ▸ hU, by rw [hw]; exact Nat.le_refl _⟩
  · have hlt := h.lt
    obtain ⟨cs, h1, h2, h3, h4⟩ := h
    rcases h3.2 with ⟨q, _⟩ | ⟨g, cap, cur, q, hgn, _⟩
    · injection q with q1 q2 q3; rw [← hl] at q2; simp at q2
    injection q with q1 q2 q3; subst q1 q3
    have hgl := hlt g rfl
    have h3' := h3; rw [hl] at h3'
    let β := {s : Slc // IsFam w0 s}
    let b0 : β := ⟨s0, hf s0 (List.mem_cons_self ..)⟩
    haveI : Inhabited β := ⟨b0⟩
    let enc : β → Value := fun s => slV s.1
    let cf : β → β → Int := fun s t => Rep.befC (rdR w0 s.1) (rdR w0 t.1)
    obtain ⟨D, hD⟩ : ∃ D : List β, D.map Subtype.val = s0 :: A0 := ⟨(s0 :: A0).attach.map fun s => ⟨s.1, hf s.1 s.2⟩, by rw [List.map_map]; exact (s0 :: A0).attach_map_subtype_val⟩
    have hDl : D.length = m := by rw [← hl, ← hD, List.length_map]
    have hO : Go.Sort.SWO (Go.Proofs.ltOf cf) := ⟨fun x => swo_bef.irrefl (rdR w0 x.1), fun x y z => swo_bef.trans (rdR w0 x.1) (rdR w0 y.1) (rdR w0 z.1), fun x y z => swo_bef.ntrans (rdR w0 x.1) (rdR w0 y.1) (rdR w0 z.1)⟩
    have hH : Go.Sort.Holds enc w g 0 D.toArray := by
      intro j hj
      have hj' : j < D.length := by simpa using hj
      have hx : (s0 :: A0)[j]? = some D[j].1 := by rw [← hD, List.getElem?_map, List.getElem?_eq_getElem hj']; rfl
      have hc := List.getElem?_eq_getElem (l := cs) (i := j) (by rw [h1, hl]; omega)
      obtain ⟨F, ⟨e1, _⟩, _⟩ := h4 j _ _ hx hc
      have f := flatten_get h2 j hc 0 (by omega)
      rw [e1] at f
      have hz := h3'.cellAt j (by omega)
      refine ⟨?_, h3'.frozenAt _⟩
      rw [Nat.zero_add, hz, show j = j * 1 + 0 by omega, f, getElem!_pos D.toArray _ (by simpa using hj)]
      simp only [Nat.mul_one, Nat.add_zero]; rfl
    have hcmp : Go.Proofs.CmpLays1 Tryz.prog 45 #[] enc cf g 0 D.toArray.size w := fun k os dk _ x y => by
      obtain ⟨p1, b1, o1, B0, r1⟩ := x.2
      obtain ⟨p2, b2, o2, B2, r2⟩ := y.2
      have key : ∀ {b o : Nat} {z : Rec}, RecAt w0 b o z → RecAt (Go.Proofs.sortWorld enc w g 0 k dk os) b o z := fun {b o z} r => by
        have hb : b < w0.heap.size := World.block_lt_of_cell? _ _ r.1
        have hc : ∀ {q : Nat} {v : Value}, w0.cell? ⟨b, q, none⟩ = some v → (Go.Proofs.sortWorld enc w g 0 k dk os).cell? ⟨b, q, none⟩ = some v := fun {q v} hv => by
          unfold Go.Proofs.sortWorld
          rw [Go.Sort.cell?_grow _ _ _ (by rw [Go.Sort.size_putRow]; exact Nat.lt_of_lt_of_le hb e0.size), Go.Sort.cell?_putRow_other enc _ _ _ dk _ (Or.inl (show b ≠ g by omega))]
          exact e0.cell hv
        obtain ⟨c0, c1, c2, c3, c4, c5, c6⟩ := r
        exact ⟨hc c0, hc c1, hc c2, hc c3, hc c4, hc c5, hc c6⟩
      have e1 : x.1 = (some ⟨b1, o1, none⟩, x.1.2.1, x.1.2.2) := by rw [← B0]
      have e2 : y.1 = (some ⟨b2, o2, none⟩, y.1.2.1, y.1.2.2) := by rw [← B2]
      show Calls Tryz.prog _ #[slV x.1, slV y.1] _ _
      have hcon := Fold1_g (n1 := x.1.2.1) (c1 := x.1.2.2) (n2 := y.1.2.1) (c2 := y.1.2.2) (Go.Proofs.sortWorld enc w g 0 k dk os) (key r1) (key r2) p1 p2
      rw [show slV x.1 = .slice (some ⟨b1, o1, none⟩) x.1.2.1 x.1.2.2 by rw [e1]; rfl, show slV y.1 = .slice (some ⟨b2, o2, none⟩) y.1.2.1 y.1.2.2 by rw [e2]; rfl]
      exact hcon
    have hsz : D.toArray.size = m := by simpa using hDl
    have L : Go.Proofs.SlLaysF.n6 Tryz.prog Tryz.sortL_ren := { Tryz.sortL with a24 := Tryz.isAgg23, z24 := Tryz.sizeOf23 }
    have hcon := Go.Proofs.Any.slices_SortFunc L enc (fun _ => rfl) cf hO 45 #[] g 0 c D.toArray w (Go.Proofs.enters_of Tryz.func45 (by kernel_rfl) rfl) hcmp hH hgl (by rw [hsz]; omega)
    rw [hsz] at hcon
    refine hcon.mono fun e w' ⟨he, d', q, os, ⟨hs, _, hp⟩, hso, hw⟩ => ⟨he, d'.toList.map Subtype.val, ?_, ?_, ⟨?_, ?_⟩, ?_, ?_⟩
    · have e1 : d'.extract 0 m = d' := by rw [← hsz, ← hs]; simp
      have e2 : D.toArray.extract 0 m = D.toArray := by rw [← hsz]; simp
      rw [e1, e2] at hp
      rw [← hD]; exact List.Perm.map _ (by simpa using hp)
    · rw [List.pairwise_map, List.pairwise_iff_getElem]
      intro i j hi hj hij
      have h0 := hso i j (Nat.zero_le _) hij (by rw [← hsz, ← hs]; simpa using hj)
      have h9 : ¬ Go.Proofs.ltOf cf d'[j]! d'[i]! = true := by rw [h0]; exact Bool.false_ne_true
      intro q9
      refine h9 ?_
      unfold Go.Proofs.ltOf
      rw [decide_eq_true_iff]
      have hi' : i < d'.size := by simpa using hi
      have hj' : j < d'.size := by simpa using hj
      rw [getElem!_pos d' j hj', getElem!_pos d' i hi']
      exact Rep.befC_neg.2 (by simpa using q9)
    · rw [List.length_map]; have := hs; rw [hsz] at this; simpa using this
    · refine .inr ⟨g, rfl, ?_, fun i s hx => ?_⟩
      · rw [hw]; unfold Go.Proofs.sortWorld; rw [Go.Sort.size_grow, Go.Sort.size_putRow]; exact Nat.lt_of_lt_of_le hgl (Nat.le_add_right _ _)
      · have hH' : Go.Sort.Holds enc w' g 0 d' := by
          rw [hw]
          refine Go.Sort.holds_grow enc _ _ _ _ _ ?_ ?_
          · rw [Go.Sort.size_putRow]; exact hgl
          · exact Go.Sort.holds_putRow enc _ _ _ D.toArray _ (Go.Sort.holds_ahead enc _ _ _ _ _ hH) hs
        rw [List.getElem?_map] at hx
        obtain ⟨y, hy, rfl⟩ := Option.map_eq_some_iff.1 hx
        obtain ⟨hi, rfl⟩ := List.getElem?_eq_some_iff.1 hy
        have hi' : i < d'.size := by simpa using hi
        have := (hH' i hi').1
        rw [Nat.zero_add, getElem!_pos d' i hi'] at this
        simpa using this
    · intro U hU hUn
      rw [hw]
      refine ⟨hU.os, hU.tape, hU.output, ?_, fun k hk => ?_⟩
      · unfold Go.Proofs.sortWorld; rw [Go.Sort.size_grow, Go.Sort.size_putRow]; exact T hU.size (Nat.le_add_right _ _)
      · show ((w.heap.modify g _) ++ os)[k]? = _
        rw [Array.getElem?_append_left (by simpa using Nat.lt_of_lt_of_le hk hU.size), Array.getElem?_modify, if_neg (by omega)]; exact hU.block k hk
    · rw [hw]; unfold Go.Proofs.sortWorld; rw [Go.Sort.size_grow, Go.Sort.size_putRow]; exact Nat.le_add_right _ _
end Go.Proofs.YtfmoabgjaclkpaaGreatDoor

namespace Go.Proofs.YtfmoabgjaclkpaaGreatDoor
set_option maxRecDepth 1000000
set_option maxHeartbeats 4000000
set_option synthInstance.maxHeartbeats 0
set_option synthInstance.maxSize 9999
open Go.RowKit
def Tz41_0 : List Row := [(some 27, [3], []), (some 28, [27], [0]), (some 29, [8], []), (some 30, [9], []), (some 31, [29, 30], [2, 3, 1]), (some 32, [28, 31], [1, 4]), (some 6, [32], [5, 4, 0, 1, 2, 3, 4, 5]), (some 7, [], [6, 0, 1, 2, 3, 4, 5, 6])]
theorem nodup_len {κ : Type} [DecidableEq κ] : ∀ {L M : List κ}, L.Nodup → (∀ x ∈ L, x ∈ M) → L.length ≤ M.length
 | [], _, _, _ => Nat.zero_le _
 | x :: L, M, hn, h => by
  rw [List.nodup_cons] at hn
  have hx := h x (List.mem_cons_self ..)
  have ih := nodup_len (M := M.erase x) hn.2 fun y hy => (List.mem_erase_of_ne (by rintro rfl; exact hn.1 hy)).2 (h y (List.mem_cons_of_mem _ hy))
  rw [List.length_erase_of_mem hx] at ih
  have := List.length_pos_of_mem hx
  rw [List.length_cons]; omega
theorem perm_map {α β : Type} (f : α → β) {A B : List β} (h : A.Perm B) : ∀ {L : List α}, L.map f = B → ∃ L' : List α, L'.Perm L ∧ L'.map f = A := by
 induction h with
 | nil => intro L hL; exact ⟨L, .refl _, hL⟩
 | cons x _ ih =>
  intro L hL
  cases L with
  | nil => cases hL
  | cons y L =>
   injection hL with h1 h2
   obtain ⟨L', q1, q2⟩ := ih h2
   exact ⟨y :: L', q1.cons y, by rw [List.map_cons, h1, q2]⟩
 | swap x y r =>
  intro L hL
  match L, hL with
  | p :: q :: L, hL =>
   injection hL with h1 h2
   injection h2 with h2 h3
   exact ⟨q :: p :: L, .swap p q L, by rw [List.map_cons, List.map_cons, h1, h2, h3]⟩
 | trans _ _ i1 i2 =>
  intro L hL
  obtain ⟨L1, q1, q2⟩ := i2 hL
  obtain ⟨L2, q3, q4⟩ := i1 q2
  exact ⟨L2, q3.trans q1, q4⟩
theorem erase_perm {α : Type} : ∀ {l : List α} {i : Nat} (h : i < l.length), (l[i] :: l.eraseIdx i).Perm l
 | _x :: _l, 0, _ => .refl _
 | x :: l, i + 1, h => (List.Perm.swap x (l[i]'(Nat.lt_of_succ_lt_succ h)) _).trans (.cons x (erase_perm (Nat.lt_of_succ_lt_succ h)))
theorem perm_next {A LL : List Slc} {left : List ((Int × Int) × Slc)} {i : Nat} {p : (Int × Int) × Slc} (h : (A ++ left.map Prod.snd).Perm LL) (hp : left[i]? = some p) : ((A ++ [p.2]) ++ (left.eraseIdx i).map Prod.snd).Perm LL := by
 refine List.Perm.trans ?_ h
 rw [List.append_assoc]
 refine List.Perm.append_left A ?_
 obtain ⟨hi, rfl⟩ := List.getElem?_eq_some_iff.1 hp
 exact ((erase_perm hi).map Prod.snd)
theorem len_erase {left : List ((Int × Int) × Slc)} {i : Nat} {p : (Int × Int) × Slc} (hp : left[i]? = some p) : (left.eraseIdx i).length + 1 = left.length := by
 have hi := (List.getElem?_eq_some_iff.1 hp).1
 rw [List.length_eraseIdx, if_pos hi]; omega
theorem fam_len {l : List Rec} (hv : Rep.Vd l) (k : Int × Int) : (Rep.famK l k).length ≤ l.length := by
 unfold Rep.famK
 exact T (List.length_filter_le _ _) (Nat.le_of_eq (Rep.sortB_len hv.keys))
theorem FamsS.get {w : World} {lo B : Nat} {F : Int × Int → List Rec} (h : FamsS w lo B F) {k : Int × Int} (hk : F k ≠ []) (hb : (F k).length ≤ 1000) : ∃ L, MapS keyV slV w B L ∧ ∃ a n c, getM k L = some (a, n, c) ∧ RecsAt w a n (F k) ∧ n ≤ c := by
 obtain ⟨L, hM, hnd, hown, hdis, hno⟩ := h.out
 refine ⟨L, hM, ?_⟩
 cases hg : getM k L with
 | none => exact absurd (hno k (getM_none' hnd hg)) hk
 | some s =>
  obtain ⟨k1, k2, k3, k4⟩ := hown _ (getM_mem hg)
  have k2' : (F k).length = s.2.1 := k2
  exact ⟨s.1, s.2.1, s.2.2, rfl, own_recs k1 k2 (by show s.2.1 ≤ _; omega), k4⟩
theorem own_capR {α : Type} {R : Rep α} {n₀ : Nat} {e : TypeId} {size g n cap : Nat} {w : World} {l : List α} (h : OwnL R n₀ e size (.slice (some ⟨g, 0, none⟩) n cap) w l) (hl : l.length = n) : n ≤ cap := by
 subst hl
 obtain ⟨cs, h1, h2, h3, h4⟩ := h
 rcases h3.2 with ⟨q, _⟩ | ⟨g', cap', cur, q, _, _, h5, h6, _⟩
 · cases q
 · injection q with q1 q2 q3; subst q3; exact h5
structure ListsAt (w : World) (a : Option Addr) (m : Nat) (G : List (List Rec)) : Prop where
 len : G.length = m
 at_ : ∀ i, i < m → ∃ b g n c F, a = some ⟨b, 0, none⟩ ∧ b < w.heap.size ∧ G[i]? = some F ∧ w.cell? ⟨b, i, none⟩ = some (.slice (some ⟨g, 0, none⟩) n c) ∧ RecB w g 0 F ∧ F.length = n ∧ 0 < n ∧ g < w.heap.size ∧ n ≤ 140737488355328
theorem fam_first {w : World} {lo : Nat} {l : List Rec} {L : List ((Int × Int) × Slc)} (hv : Rep.Vd l) (hl80 : l.length ≤ 80) (hown : ∀ p ∈ L, OwnL recR lo 49 7 (slV p.2) w (Rep.famK l p.1) ∧ (Rep.famK l p.1).length = p.2.2.1 ∧ 0 < p.2.2.1 ∧ p.2.2.1 ≤ p.2.2.2) (p : (Int × Int) × Slc) (hp : p ∈ L) :
    IsFam w p.2 ∧ rdR w p.2 = recN (Rep.famK l p.1) 0 ∧ (rdR w p.2).key = p.1 ∧ rdR w p.2 ∈ l ∧ Rep.isRoot (rdR w p.2) ∧ ∃ g, p.2.1 = some ⟨g, 0, none⟩ ∧ RecB w g 0 (Rep.famK l p.1) ∧ g < w.heap.size ∧ p.2.2.1 ≤ 140737488355328 := by
  obtain ⟨k1, k2, k3, k4⟩ := hown p hp
  have hfl := fam_len hv p.1
  have hmx : p.2.2.1 ≤ 140737488355328 := by omega
  have ⟨g, hg⟩ : ∃ g, p.2.1 = some ⟨g, 0, none⟩ := by
    obtain ⟨_, _, _, hr, _⟩ := k1
    rcases hr.2 with ⟨q, z⟩ | ⟨g, cap, cur, q, _⟩
    · unfold slV at q; injection q with q1 q2 q3; omega
    · unfold slV at q; injection q with q1 q2 q3; exact ⟨g, q1⟩
  have hW : RecsW w g (Rep.famK l p.1) := own_recW (n := p.2.2.1) (cap := p.2.2.2) (by have e : slV p.2 = .slice (some ⟨g, 0, none⟩) p.2.2.1 p.2.2.2 := by unfold slV; rw [hg]
                                                                                       rw [← e]; exact k1) k2
  have h0 : 0 < (Rep.famK l p.1).length := by omega
  have hr := hW.recB.r0 h0
  rw [Nat.zero_mul] at hr
  have e := rdR_eq hg hr
  obtain ⟨r, hr1, hr2, hr3⟩ : ∃ r ∈ l, Rep.isRoot r ∧ r.key = p.1 := Classical.byContradiction fun q => by
    have := Rep.fam_none hv (k := p.1) fun r h1 h2 h3 => q ⟨r, h1, h2, h3⟩
    rw [this] at h0; exact absurd h0 (Nat.lt_irrefl _)
  have hh := (Rep.fam_head hv hr1 hr2).2
  rw [hr3] at hh
  refine ⟨⟨k3, g, 0, hg, by rw [e]; exact hr⟩, e, by rw [e, hh]; exact hr3, by rw [e, hh]; exact hr1, by rw [e, hh]; exact hr2, g, hg, hW.recB, hW.lt h0, hmx⟩
theorem lists_of {w w' : World} {lo m : Nat} {a : Option Addr} {l : List Rec} {L : List ((Int × Int) × Slc)} {A A' : List Slc} (hv : Rep.Vd l) (hl80 : l.length ≤ 80) (hnd : (L.map Prod.fst).Nodup)
    (hown : ∀ p ∈ L, OwnL recR lo 49 7 (slV p.2) w (Rep.famK l p.1) ∧ (Rep.famK l p.1).length = p.2.2.1 ∧ 0 < p.2.2.1 ∧ p.2.2.1 ≤ p.2.2.2) (hno : ∀ k, k ∉ L.map Prod.fst → Rep.famK l k = [])
    (hA : A.Perm (L.map Prod.snd)) (hA' : A'.Perm A) (hs : A'.Pairwise fun s t => ¬ Rep.ltB (rdR w t) (rdR w s)) (hS : SlcsAt w' a m A') (hE : Ext w w') : ListsAt w' a m ((Rep.rootsF l).map fun r => Rep.famK l r.key) := by
  obtain ⟨L', hp, rfl⟩ := perm_map Prod.snd (hA'.trans hA) rfl
  have hf := fun p hp' => fam_first hv hl80 hown p (hp.mem_iff.1 hp')
  have hnd' : (L'.map Prod.fst).Nodup := (hp.map _).nodup_iff.2 hnd
  have he : L'.map (fun p => Rep.famK l p.1) = (Rep.rootsF l).map fun r => Rep.famK l r.key := by
    refine Rep.fams_uniq hv ?_ fun f => ?_
    · rw [List.pairwise_map] at hs ⊢
      have hn2 : L'.Pairwise fun p q => p.1 ≠ q.1 := by have := hnd'; unfold List.Nodup at this; rw [List.pairwise_map] at this; exact this
      refine List.Pairwise.imp_of_mem (fun {p q} h1 h2 h => ?_) (hs.and hn2)
      obtain ⟨_, e1, k1, _⟩ := hf p h1
      obtain ⟨_, e2, k2, _⟩ := hf q h2
      rw [← e1, ← e2]
      rcases Rep.ltB_tri (rdR w p.2) (rdR w q.2) with z | z | z
      · exact z
      · exact absurd (k1.symm.trans (z.trans k2)) h.2
      · exact absurd z h.1
    · rw [List.mem_map]
      constructor
      · rintro ⟨p, h1, rfl⟩
        obtain ⟨_, _, k1, k2, k3, _⟩ := hf p h1
        exact ⟨_, k2, k3, by rw [k1]⟩
      · rintro ⟨r, h1, h2, rfl⟩
        have h0 := (Rep.fam_head hv h1 h2).1
        have : r.key ∈ L.map Prod.fst := Classical.byContradiction fun q => by rw [hno _ q] at h0; exact absurd h0 (Nat.lt_irrefl _)
        obtain ⟨p, q1, q2⟩ := List.mem_map.1 this
        exact ⟨p, hp.mem_iff.2 q1, by rw [q2]⟩
  rw [← he]
  refine ⟨by rw [List.length_map]; have := hS.len; rwa [List.length_map] at this, fun i hi => ?_⟩
  have hl : i < L'.length := by have := hS.len; rw [List.length_map] at this; omega
  have hx : L'[i]? = some L'[i] := List.getElem?_eq_getElem hl
  rcases hS.at_ with q | ⟨b, ha, hb, hc⟩
  · omega
  · obtain ⟨_, _, _, _, _, g, hg, hR, hgl, hmx⟩ := hf _ (List.getElem_mem hl)
    obtain ⟨_, k2, k3, _⟩ := hown _ (hp.mem_iff.1 (List.getElem_mem hl))
    refine ⟨b, g, L'[i].2.2.1, L'[i].2.2.2, _, ha, hb, by rw [List.getElem?_map, hx]; rfl, ?_, hR.ext hE, k2, k3, Nat.lt_of_lt_of_le hgl hE.size, hmx⟩
    have := hc i L'[i].2 (by rw [List.getElem?_map, hx]; rfl)
    rw [this]; unfold slV; rw [hg]
theorem keys_few {w : World} {lo : Nat} {l : List Rec} {L : List ((Int × Int) × Slc)} (hv : Rep.Vd l) (hl80 : l.length ≤ 80) (hnd : (L.map Prod.fst).Nodup) (hown : ∀ p ∈ L, OwnL recR lo 49 7 (slV p.2) w (Rep.famK l p.1) ∧ (Rep.famK l p.1).length = p.2.2.1 ∧ 0 < p.2.2.1 ∧ p.2.2.1 ≤ p.2.2.2) : L.length ≤ l.length := by
 have := nodup_len (M := l.map Rec.key) hnd fun k hk => by
  obtain ⟨p, hp, rfl⟩ := List.mem_map.1 hk
  obtain ⟨_, _, k1, k2, _⟩ := fam_first hv hl80 hown p hp
  exact List.mem_map.2 ⟨_, k2, k1⟩
 rwa [List.length_map, List.length_map] at this
theorem families_c {w0 : World} {c : Int} {a : Option Addr} {n : Nat} {l : List Rec} (k : Nat) (w : World) (H : RecsAt w0 a n l) (e0 : Ext w0 w) (hRl : RootAt w) (hv : Rep.Vd l) (hn : n ≤ 100) : Calls Tryz.prog 43 #[.agg #[.int .i64 c, .slice a n k]] w fun e w' => ∃ B lo, e = .returned (.map (some B)) ∧ FamsS w' lo B (Rep.famK l) ∧ Ext w w' := by
  rcases Nat.eq_zero_or_pos n with h0 | h0
  · subst h0
    obtain rfl := List.eq_nil_of_length_eq_zero H.len
    exact (families_0 k w H e0).mono fun _ _ ⟨B, lo, he, _, _, h, hE⟩ => ⟨B, lo, he, h.congr fun k => rfl, hE⟩
  · exact (families_p k w H e0 hRl hv h0 hn).mono fun _ _ ⟨B, lo, he, _, _, h, hE⟩ => ⟨B, lo, he, h, hE⟩
def OptL (w' : World) (o : Option (List Rec)) (a : Option Addr) (n k : Nat) (er : Int) : Prop :=
 (∃ l, o = some l ∧ er = 0 ∧ RecsAt w' a n l ∧ n ≤ k) ∨ (o = none ∧ er = 350 ∧ a = none ∧ n = 0 ∧ k = 0)
namespace Rep
def foldO (c : Int) (l : List Rec) : Option (List Rec) := if validB c l = true then some (foldF l) else none
def histO (c : Int) (l : List Rec) (k : Int × Int) : Option (List Rec) := if validB c l = true then histF l k else none
def foldG (G : List (List Rec)) : List Rec := (G.map lastR).filter fun x => decide (¬ x.x = empty)
theorem foldG_snoc {G : List (List Rec)} {i : Nat} {F : List Rec} (h : G[i]? = some F) : foldG (G.take (i + 1)) = foldG (G.take i) ++ if (lastR F).x = empty then [] else [lastR F] := by
 unfold foldG
 rw [List.take_add_one, h, List.map_append, List.filter_append]
 by_cases q : (lastR F).x = empty <;> simp [q]
theorem foldG_all {l : List Rec} {m i : Nat} (hm : ((rootsF l).map fun r => famK l r.key).length = m) (hi : m ≤ i) : foldG (((rootsF l).map fun r => famK l r.key).take i) = foldF l := by
 rw [List.take_of_length_le (by omega)]; unfold foldG foldF; rw [List.map_map]; rfl
theorem foldG_len {G : List (List Rec)} {i : Nat} (h : i ≤ 1000) : (foldG (G.take i)).length ≤ 1000 := by
 unfold foldG
 refine T (List.length_filter_le _ _) ?_
 rw [List.length_map]; exact T (List.length_take_le _ _) h
end Rep
theorem Fold_c {w0 : World} {c : Int} {a : Option Addr} {n : Nat} {l : List Rec} (k : Nat) (w : World) (H : RecsAt w0 a n l) (e0 : Ext w0 w) (hRl : RootAt w) : Calls Tryz.prog 13 #[.agg #[iv c, .slice a n k]] w fun e w' => ∃ a' n' k' er, e = .returned (.tuple #[.slice a' n' k', iv er]) ∧ OptL w' (Rep.foldO c l) a' n' k' er ∧ Ext w w' := by
 replace H := H.ext e0;clear e0;have hln := H.len;refine calls_cw 48 [(0, .agg #[iv c, .slice a n k])] Tryz.func13 rfl Tryz.ntmps13 (by kernel_rfl) (by kernel_rfl) (fun L => ?_);have hE := Ext.refl w;refine zc (zp (pS (sw 25 #[iv c, .slice a n k] ?_)));intro O1 X2 Et Er hb hbx;have ⟨B0, B2⟩ := bq2 hbx;replace hE := hE.trans hb;have Cx := hb.size;have Dl := B0.lt;refine pD (.slice none 0 0) (iv 0) ?_;refine zn (zc (cw_seq ?_));obtain ⟨q9, Ch⟩ : ∃ q, Rep.validB c l = q := ⟨_, rfl⟩
 cases q9
 ·
  refine zp (pU (.agg #[iv c, .slice a n k]) (xl (ld25 (B0.1) (B2.1))) ?_);refine pS (sc 16 #[.agg #[iv c, .slice a n k]] ((Valid_r (r := false) _ _ H hE (hRl.ext hE) Ch).mono ?_));rintro e w5 ⟨rfl, hb⟩;refine mv3 hb hE B0 B2 fun hE B0 B2=>?_;have F8 := hb.size;refine ⟨_, rfl, pT (.bool true) ?_⟩;refine zn (zt ?_);refine zc (zp (pD (.slice none 0 0) (iv 350) ?_));refine zn (cw_ret (qw_then_ret (qw_ret [.slice none 0 0, iv 350] rfl ⟨(by kernel_rfl), (by kernel_rfl), trivial⟩ ?_)));exact ⟨_, _, _, _, rfl, .inr ⟨if_neg (by rw [Ch]; exact Bool.false_ne_true), rfl, rfl, rfl, rfl⟩, hE⟩
 ·
  have hv := Rep.valid_vd Ch;have Cu := Rep.valid_len Ch;refine zp (pU (.agg #[iv c, .slice a n k]) (xl (ld25 (B0.1) (B2.1))) ?_);refine pS (sc 16 #[.agg #[iv c, .slice a n k]] ((Valid_r (r := true) _ _ H hE (hRl.ext hE) Ch).mono ?_));rintro e w7 ⟨rfl, hb⟩;refine mv3 hb hE B0 B2 fun hE B0 B2=>?_;have Cm := hb.size;refine ⟨_, rfl, pT (.bool false) ?_⟩;refine zn (zf ?_);refine cw_skip (zq (zc (zp (pT (.slice none 0 0) ?_))));refine zn (zc (zc (zp (pU (.agg #[iv c, .slice a n k]) (xl (ld25 (B0.1) (B2.1))) ?_))));refine pS (sc 43 #[.agg #[iv c, .slice a n k]] ((families_c _ _ H hE (hRl.ext hE) hv (by omega)).mono ?_));rintro e Cz ⟨B9, Eu, rfl, Dp, hb⟩;refine mv3 hb hE B0 B2 fun hE B0 B2=>?_;have Bt := hb.size;obtain ⟨LM, E1, hnd, hown, hdis, hno⟩ := Dp.out;clear hdis;have hfw := keys_few hv Cu hnd hown;have B3 := Ext.refl Cz;have Dy := E1.lt;refine ⟨_, rfl, ?_⟩;obtain ⟨Do, D6, D1, hb, Es⟩ := run_rangeS Tryz.underlying67 E1;obtain ⟨Cy, Cp⟩ : ∃ r, r = Cz.heap.size := ⟨_, rfl⟩;rw [← Cp] at D6 D1;refine pS (sn_eff (v := pw Cy 0) (ex_range rfl (by kernel_rfl) D6) ?_);refine mv4 hb hE B3 B0 B2 fun hE B3 B0 B2=>?_;have Bj := hb.size;have Ct : Cy < Do.heap.size := by omega
  refine zn (cw_block ?_);refine cw_loop [4, 16] (fun ws' wr m => ∃ aa : Option Addr, ∃ mm cc : Nat, ∃ A : List Slc, ∃ left : List ((Int × Int) × Slc), ws' = [(4, .slice aa mm cc), (16, pw Cy 0)] ∧ m = left.length ∧ Do.heap.size ≤ wr.heap.size ∧ Ext w wr ∧ Ext Cz wr ∧ BoxAt wr O1 0 (iv c) ∧ BoxAt wr O1 1 (.slice a n k) ∧ OwnL slcR Do.heap.size 23 1 (.slice aa mm cc) wr A ∧ RangeS keyV slV wr B9 Cy LM left ∧ A.length = mm ∧ (A ++ left.map Prod.snd).Perm (LM.map Prod.snd) ∧ mm + left.length = LM.length) (ws0 := [(4, .slice none 0 0), (16, pw Cy 0)]) (by kernel_rfl) _ ⟨none, 0, 0, [], LM, rfl, rfl, Nat.le_refl _, hE, B3, B0, B2, OwnL.nil _ _ _ _ _, D1, rfl, List.Perm.refl _, Nat.zero_add _⟩ ?_;clear B0 B2 hE B3;rintro Fd L ws Dz ⟨aa, mm, cc, A, left, rfl, rfl, By, hE, B3, B0, B2, ow, hRg, hAl, hPm, hmL⟩;have Eh := Ext.refl Dz;refine zc (cw_plain ?_);rcases run_nextS (P := Tryz.prog) hRg 0 with ⟨E0, Cq⟩ | ⟨E9, Cl, Ec, D5, Cq, C5, Cg, D4⟩
  ·
   refine pS (sn_eff (v := .tuple #[.bool false]) (ex_next rfl (by kernel_rfl) Cq) ?_);rw [E0, List.map_nil, List.append_nil] at hPm;rw [E0, List.length_nil] at hmL;refine pT (.bool false) ?_;refine zn (zc (zf ?_));refine cw_exit (qw_then_exit (qw_then_exit (qw_block_out (zq (zc (zp (pT (.slice aa mm cc) ?_)))))))
   have Dq : ∀ s ∈ A, IsFam Cz s := fun s hs9 => by
    obtain ⟨p9, q9, rfl⟩ := List.mem_map.1 (hPm.mem_iff.1 hs9);exact (fam_first hv Cu hown p9 q9).1
   refine pS (sc 44 #[.slice aa mm cc, .func (.func 45) #[] #[]] ((SortFams_c ow hAl (by omega) B3 Bj Dq).mono ?_));rintro e Di ⟨rfl, F2, D0, Da, D2, Cn, Db⟩;replace B0 := old_box Cn B0 (by omega);replace B2 := old_box Cn B2 (by omega);replace hE := Cn _ hE (T Cx (T Cm (T Bt Bj)));replace B3 := Cn _ B3 Bj;have Cf := Db;have hLs := lists_of hv Cu hnd hown hno hPm D0 Da D2 B3;obtain ⟨G, hG⟩ : ∃ q, q = (Rep.rootsF l).map fun r => Rep.famK l r.key := ⟨_, rfl⟩
   rw [← hG] at hLs;have B4 := Ext.refl Di;refine ⟨_, rfl, ?_⟩;refine zn (zc (zp (pT (.slice none 0 0) ?_)));refine zn (zc (zc (zp (pD (.slice aa mm cc) (iv mm) ?_))));refine pT (iv 0) ?_;refine zn (cw_block ?_);refine cw_loop [7, 27, 28, 29] (fun ws' wr m => ∃ i : Nat, ∃ ao : Option Addr, ∃ mo co : Nat, ws' = [(7, .slice ao mo co), (27, .slice aa mm cc), (28, iv mm), (29, iv i)] ∧ m = mm - i ∧ Di.heap.size ≤ wr.heap.size ∧ Ext w wr ∧ Ext Cz wr ∧ Ext Di wr ∧ OwnL recR Di.heap.size 49 7 (.slice ao mo co) wr (Rep.foldG (G.take i)) ∧ i ≤ mm ∧ (Rep.foldG (G.take i)).length = mo ∧ mo ≤ co) (ws0 := [(7, .slice none 0 0), (27, .slice aa mm cc), (28, iv mm), (29, iv 0)]) (by kernel_rfl) _ ⟨0, none, 0, 0, rfl, rfl, Nat.le_refl _, hE, B3, B4, OwnL.nil _ _ _ _ _, Nat.zero_le _, rfl, Nat.le_refl _⟩ ?_;clear hE B3 B4;rintro Fe L ws Ff ⟨i, ao, mo, co, rfl, rfl, Bv, hE, B3, B4, C6, hi, hol, Co⟩;have Bi := C6.lt
   by_cases hlt : i < mm
   ·
    obtain ⟨b9, g9, n9, c9, F9, Ei, F6, Dj, E3, Cc, Dk, F5, F7, Fc⟩ := hLs.at_ i (by omega);subst Ei;have Ek : n9 - 1 < F9.length := by omega
    by_cases hq : (recN F9 (n9 - 1)).x = Rep.empty
    ·
     refine zc (zp (pU (.bool true) (ed (((i : Nat) : Int) < ((mm : Nat) : Int)) (by omega)) ?_));refine zn (zc (zt ?_));refine cw_skip (zq (zc (cw_block ?_)));refine zc (zp (pU (pw b9 i) (xi (sv b9 0 mm cc) (iv i) (ix66z (k := i) (by omega))) ?_));refine pU (sv g9 0 n9 c9) (xl (ld23 ((B4.cell E3)))) ?_;refine pT (sv g9 0 n9 c9) ?_;refine zn (zc (zp (pD (sv g9 0 n9 c9) (sv g9 0 n9 c9) ?_)));refine pT (iv n9) ?_;refine pU (iv ((n9 - 1 : Nat) : Int)) (ev_wrapN (a := ((n9 : Nat) : Int) - ((1 : Nat) : Int)) (k := n9 - 1) (by kernel_rfl) (by omega) (by omega)) ?_;refine pU (pw g9 ((n9 - 1) * 7)) (xi (sv g9 0 n9 c9) (iv ((n9 - 1 : Nat) : Int)) (ix23z (k := n9 - 1) (by omega))) ?_;refine pU (rvv (recN F9 (n9 - 1))) (xl (ld49 ((Cc.ext B4).d0 (i := n9 - 1) (by omega)) ((Cc.ext B4).d1 (i := n9 - 1) (by omega)) ((Cc.ext B4).d2 (i := n9 - 1) (by omega)) ((Cc.ext B4).d3 (i := n9 - 1) (by omega)) ((Cc.ext B4).d4 (i := n9 - 1) (by omega)) ((Cc.ext B4).d5 (i := n9 - 1) (by omega)) ((Cc.ext B4).d6 (i := n9 - 1) (by omega)))) ?_;refine pS (sw 49 #[iv 0, iv 0, iv 0, iv 0, iv 0, iv 0, .string (⟨#[]⟩)] ?_);intro Dm Ed Cd E4 hb hbx;have ⟨Bk, Bn, Bo, Bp, Bq, Br, Bm⟩ := bq7 hbx;refine mv4 hb hE B3 B4 C6 fun hE B3 B4 C6=>?_;have Du := hb.size;have Ev := Bk.lt;refine pP (sn_setK7 (O := Dm) (j := 0) (v0 := iv ((recN F9 (n9 - 1)).c : Int)) (v1 := iv ((recN F9 (n9 - 1)).n : Int)) (v2 := iv ((recN F9 (n9 - 1)).t : Int)) (v3 := iv ((recN F9 (n9 - 1)).o : Int)) (v4 := iv ((recN F9 (n9 - 1)).w : Int)) (v5 := iv ((recN F9 (n9 - 1)).k : Int)) (v6 := .string ((recN F9 (n9 - 1)).x)) (xt (pw Dm 0) (rvv (recN F9 (n9 - 1))) (st49 Bk.1 Bk.2 Bn.1 Bn.2 Bo.1 Bo.2 Bp.1 Bp.2 Bq.1 Bq.2 Br.1 Br.2 Bm.1 Bm.2)) Bk Bn Bo Bp Bq Br Bm ?_);intro Ee ho Bk Bn Bo Bp Bq Br Bm hk;replace hE := ho.ext hE (by omega);replace B3 := ho.ext B3 (by omega);replace B4 := ho.ext B4 (T Bv (Nat.le_of_eq Cd));replace C6 := C6.turn ho (own_not2 Bi (Nat.le_of_eq Cd)) (fun _ _ _ h => by rw [h.2]; exact fun b hb => by cases hb);have Dv := Nat.le_of_eq ho.size.symm;clear ho hk;refine zn (cK [7,10,27,28,29] (fun L => ?_));refine zc (zp (pT (pw Dm 6) ?_));refine pU (.string ((recN F9 (n9 - 1)).x)) (xl (ld9 (Bm.1))) ?_;refine pU (.bool false) (ex_binV (a := .string ((recN F9 (n9 - 1)).x)) (b := .string (⟨#[]⟩)) rfl (by kernel_rfl) (by kernel_rfl) eqG_str (bin_nqs_t hq)) ?_;refine zn (zf ?_);refine cw_skip (qw_block (zq (zp (pU (iv ((i + 1 : Nat) : Int)) (ew (by omega) (by omega)) ?_))));refine pT (iv ((i + 1 : Nat) : Int)) ?_;refine pl_nil (qw_round [7, 27, 28, 29] (ws' := [(7, .slice ao mo co), (27, sv b9 0 mm cc), (28, iv mm), (29, iv ((i + 1 : Nat) : Int))]) (by kernel_rfl) _ ?_ ⟨(i + 1), ao, mo, co, rfl, rfl, (T Bv (T Du Dv)), hE, B3, B4, (by rw [Rep.foldG_snoc Dj, show Rep.lastR F9 = recN F9 (n9 - 1) by unfold Rep.lastR; rw [Dk], if_pos hq, List.append_nil]; exact C6), by omega, (by rw [Rep.foldG_snoc Dj, show Rep.lastR F9 = recN F9 (n9 - 1) by unfold Rep.lastR; rw [Dk], if_pos hq, List.append_nil]; exact hol), Co⟩);omega
    ·
     refine zc (zp (pU (.bool true) (ed (((i : Nat) : Int) < ((mm : Nat) : Int)) (by omega)) ?_));refine zn (zc (zt ?_));refine cw_skip (zq (zc (cw_block ?_)));refine zc (zp (pU (pw b9 i) (xi (sv b9 0 mm cc) (iv i) (ix66z (k := i) (by omega))) ?_));refine pU (sv g9 0 n9 c9) (xl (ld23 ((B4.cell E3)))) ?_;refine pT (sv g9 0 n9 c9) ?_;refine zn (zc (zp (pD (sv g9 0 n9 c9) (sv g9 0 n9 c9) ?_)));refine pT (iv n9) ?_;refine pU (iv ((n9 - 1 : Nat) : Int)) (ev_wrapN (a := ((n9 : Nat) : Int) - ((1 : Nat) : Int)) (k := n9 - 1) (by kernel_rfl) (by omega) (by omega)) ?_;refine pU (pw g9 ((n9 - 1) * 7)) (xi (sv g9 0 n9 c9) (iv ((n9 - 1 : Nat) : Int)) (ix23z (k := n9 - 1) (by omega))) ?_;refine pU (rvv (recN F9 (n9 - 1))) (xl (ld49 ((Cc.ext B4).d0 (i := n9 - 1) (by omega)) ((Cc.ext B4).d1 (i := n9 - 1) (by omega)) ((Cc.ext B4).d2 (i := n9 - 1) (by omega)) ((Cc.ext B4).d3 (i := n9 - 1) (by omega)) ((Cc.ext B4).d4 (i := n9 - 1) (by omega)) ((Cc.ext B4).d5 (i := n9 - 1) (by omega)) ((Cc.ext B4).d6 (i := n9 - 1) (by omega)))) ?_;refine pS (sw 49 #[iv 0, iv 0, iv 0, iv 0, iv 0, iv 0, .string (⟨#[]⟩)] ?_);intro Dn Ef Bh E5 hb hbx;have ⟨B7, Bb, Bc, Be, Bf, Bg, B8⟩ := bq7 hbx;refine mv4 hb hE B3 B4 C6 fun hE B3 B4 C6=>?_;have Bw := hb.size;have Ew := B7.lt;refine pP (sn_setK7 (O := Dn) (j := 0) (v0 := iv ((recN F9 (n9 - 1)).c : Int)) (v1 := iv ((recN F9 (n9 - 1)).n : Int)) (v2 := iv ((recN F9 (n9 - 1)).t : Int)) (v3 := iv ((recN F9 (n9 - 1)).o : Int)) (v4 := iv ((recN F9 (n9 - 1)).w : Int)) (v5 := iv ((recN F9 (n9 - 1)).k : Int)) (v6 := .string ((recN F9 (n9 - 1)).x)) (xt (pw Dn 0) (rvv (recN F9 (n9 - 1))) (st49 B7.1 B7.2 Bb.1 Bb.2 Bc.1 Bc.2 Be.1 Be.2 Bf.1 Bf.2 Bg.1 Bg.2 B8.1 B8.2)) B7 Bb Bc Be Bf Bg B8 ?_);intro Eg ho B7 Bb Bc Be Bf Bg B8 hk;replace hE := ho.ext hE (by omega);replace B3 := ho.ext B3 (by omega);replace B4 := ho.ext B4 (T Bv (Nat.le_of_eq Bh));replace C6 := C6.turn ho (own_not2 Bi (Nat.le_of_eq Bh)) (fun _ _ _ h => by rw [h.2]; exact fun b hb => by cases hb);have Bx := Nat.le_of_eq ho.size.symm;clear ho hk;refine zn (cK [7,10,27,28,29] (fun L => ?_));refine zc (zp (pT (pw Dn 6) ?_));refine pU (.string ((recN F9 (n9 - 1)).x)) (xl (ld9 (B8.1))) ?_;refine pU (.bool true) (ex_binV (a := .string ((recN F9 (n9 - 1)).x)) (b := .string (⟨#[]⟩)) rfl (by kernel_rfl) (by kernel_rfl) eqG_str (bin_nqs_f hq)) ?_;refine zn (zt ?_);refine zp (pT (.slice ao mo co) ?_);refine pU (rvv (recN F9 (n9 - 1))) (xl (ld49 (B7.1) (Bb.1) (Bc.1) (Be.1) (Bf.1) (Bg.1) (B8.1))) ?_;refine pS (sn_newS (us := #[iv ((recN F9 (n9 - 1)).c : Int), iv ((recN F9 (n9 - 1)).n : Int), iv ((recN F9 (n9 - 1)).t : Int), iv ((recN F9 (n9 - 1)).o : Int), iv ((recN F9 (n9 - 1)).w : Int), iv ((recN F9 (n9 - 1)).k : Int), .string ((recN F9 (n9 - 1)).x)]) (t := 49) (k := 1) (c := 1) (by kernel_rfl) ?_);intro Ea F3 Bs E6 hb hbx;have ⟨Bu, Bz, C0, C1, C2, C3, C4⟩ := bq7 hbx;refine mv4 hb hE B3 B4 C6 fun hE B3 B4 C6=>?_;have D7 := hb.size;have Ey := Bu.lt;have Dr := Rep.foldG_len (G := G) (show i ≤ 1000 by omega);have E2 := C6.base;obtain ⟨Cv, C7, F0, Cr, Ce, Cb, Ba⟩ := own_app1k (P := Tryz.prog) (ty := 23) recT (C6) (T Bv (T Bw (T Bx D7))) (k := mo) hol (O := Ea) (c := 1) (x := (recN F9 (n9 - 1))) (d := [iv ((recN F9 (n9 - 1)).c : Int), iv ((recN F9 (n9 - 1)).n : Int), iv ((recN F9 (n9 - 1)).t : Int), iv ((recN F9 (n9 - 1)).o : Int), iv ((recN F9 (n9 - 1)).w : Int), iv ((recN F9 (n9 - 1)).k : Int), .string ((recN F9 (n9 - 1)).x)]) (F := []) rfl (cells7 (Bu.1) (Bz.1) (C0.1) (C1.1) (C2.1) (C3.1) (C4.1)) (by simp [Value.oneCell']) (⟨rfl, rfl⟩) (fun b hb => by cases hb) (by omega) (by omega);refine pS (sn_eff (v := sv Cv 0 (mo + 1) C7) (w' := F0) (ex_append rfl (by kernel_rfl) (by kernel_rfl) Cr) ?_);replace hE := Cb.ext _ hE (T Cx (T Cm (T Bt (T Bj (T By Cf)))));replace B3 := Cb.ext _ B3 (T Bj (T By Cf));replace B4 := Cb.ext _ B4 (Nat.le_refl _);have Dw := Cb.size;have En := Ce.base Cv rfl;have El := Ce.lt Cv rfl;have D3 := (own_capR Ce (by rw [List.length_append, hol]; rfl));refine pT (sv Cv 0 (mo + 1) C7) ?_;refine pl_nil (qw_block (zq (zp (pU (iv ((i + 1 : Nat) : Int)) (ew (by omega) (by omega)) ?_))));refine pT (iv ((i + 1 : Nat) : Int)) ?_;refine pl_nil (qw_round [7, 27, 28, 29] (ws' := [(7, sv Cv 0 (mo + 1) C7), (27, sv b9 0 mm cc), (28, iv mm), (29, iv ((i + 1 : Nat) : Int))]) (by kernel_rfl) _ ?_ ⟨(i + 1), (some ⟨Cv, 0, none⟩), (mo + 1), C7, rfl, rfl, (T Bv (T Bw (T Bx (T D7 Dw)))), hE, B3, B4, (by rw [Rep.foldG_snoc Dj, show Rep.lastR F9 = recN F9 (n9 - 1) by unfold Rep.lastR; rw [Dk], if_neg hq]; exact Ce), by omega, (by rw [Rep.foldG_snoc Dj, show Rep.lastR F9 = recN F9 (n9 - 1) by unfold Rep.lastR; rw [Dk], if_neg hq, List.length_append, hol]; rfl), D3⟩);omega
   ·
    refine zc (zp (pU (.bool false) (en (((i : Nat) : Int) < ((mm : Nat) : Int)) (by omega)) ?_));refine zn (zc (zf ?_));refine cw_exit (qw_then_exit (qw_then_exit (qw_block_out (zq (zc (zp (pD (.slice ao mo co) (.slice ao mo co) ?_)))))));refine pT (iv 0) ?_;refine zn (cw_ret (qw_ret [.slice ao mo co, iv 0] rfl ⟨(by kernel_rfl), (by kernel_rfl), trivial⟩ ?_));have Dr := Rep.foldG_len (G := G) (show i ≤ 1000 by omega);have Ej : Rep.foldG (G.take i) = Rep.foldF l := by rw [hG];exact Rep.foldG_all (m := mm) (by rw [← hG]; exact hLs.len) (by omega)
    exact ⟨_, _, _, _, rfl, .inl ⟨Rep.foldF l, if_pos Ch, rfl, by rw [← Ej]; exact own_recs C6 hol (by omega), Co⟩, hE⟩
  ·
   refine pS (sn_eff (v := .tuple #[.bool true, keyV Cl.1, slV Cl.2]) (ex_next rfl (by kernel_rfl) Cq) ?_);replace hE := Cg.ext hE (T (T Cx (T Cm Bt)) (Nat.le_of_eq Cp.symm));replace B3 := Cg.ext B3 (Nat.le_of_eq Cp.symm);replace B0 := (Cg.mv0).box B0;replace B2 := (Cg.mv0).box B2;replace ow := (Cg.mv0).own ow;have D8 : Dz.heap.size ≤ Ec.heap.size := Nat.le_of_eq Cg.size.symm;have Ep := len_erase D5;have Dt : mm + 1 + (left.eraseIdx E9).length = LM.length := by omega
   refine pT (.bool true) ?_;refine zn (zc (zt ?_));refine cw_skip (zq (cw_block ?_));refine zc (zp (pU (.tuple #[keyV Cl.1, slV Cl.2]) (ex_entry rfl (by kernel_rfl) D4) ?_));refine pD (slV Cl.2) (slV Cl.2) ?_;refine zn (zp (pD (.slice aa mm cc) (slV Cl.2) ?_));refine pS (sn_newS (us := #[slV Cl.2]) (t := 23) (k := 1) (c := 1) (by kernel_rfl) ?_);intro Eb F4 E8 E7 hb hbx;have Ci := bq1 hbx;refine mv6 hb hE B3 B0 B2 ow C5 fun hE B3 B0 B2 ow C5=>?_;have D9 := hb.size;have Ez := Ci.lt;have C9 := ow.base;obtain ⟨Cw, C8, F1, Cs, Ck, Cj, Ca⟩ := own_app1k (P := Tryz.prog) (ty := 66) slcT (ow) (T By (T D8 D9)) (k := mm) hAl (O := Eb) (c := 1) (x := Cl.2) (d := [slV Cl.2]) (F := []) rfl (cells1 (Ci.1)) (by simp [Value.oneCell', slV]) (⟨rfl, rfl⟩) (fun b hb => by cases hb) (by omega) (by omega);refine pS (sn_eff (v := sv Cw 0 (mm + 1) C8) (w' := F1) (ex_append rfl (by kernel_rfl) (by kernel_rfl) Cs) ?_);replace B0 := BoxAt.grownR B0 Ca (own_not C9 (by omega));replace B2 := BoxAt.grownR B2 Ca (own_not C9 (by omega));replace C5 := C5.blocks (Ca.block _ C5.map.lt (fun e => own_not C9 (Nat.lt_of_lt_of_le Dy Bj) e.symm)) (Ca.block _ C5.lt (fun e => own_not C9 (Nat.lt_of_lt_of_le Ct (Nat.le_refl _)) e.symm));replace hE := Cj.ext _ hE (T Cx (T Cm (T Bt Bj)));replace B3 := Cj.ext _ B3 Bj;have Dx := Cj.size;have Eo := Ck.base Cw rfl;have Em := Ck.lt Cw rfl;refine pT (sv Cw 0 (mm + 1) C8) ?_;refine pl_nil (qw_block (qw_round [4, 16] (ws' := [(4, sv Cw 0 (mm + 1) C8), (16, pw Cy 0)]) (by kernel_rfl) _ ?_ ⟨(some ⟨Cw, 0, none⟩), (mm + 1), C8, (A ++ [Cl.2]), (left.eraseIdx E9), rfl, rfl, (T By (T D8 (T D9 Dx))), hE, B3, B0, B2, Ck, C5, (by rw [List.length_append, hAl]; rfl), (perm_next hPm D5), Dt⟩));omega
theorem History_c {w0 : World} {c : Int} {a : Option Addr} {n : Nat} {l : List Rec} (k : Nat) (cc nn : Int) (w : World) (H : RecsAt w0 a n l) (e0 : Ext w0 w) (hRl : RootAt w) : Calls Tryz.prog 24 #[.agg #[iv c, .slice a n k], iv cc, iv nn] w fun e w' => ∃ a' n' k' er, e = .returned (.tuple #[.slice a' n' k', iv er]) ∧ OptL w' (Rep.histO c l (cc, nn)) a' n' k' er ∧ Ext w w' := by
 replace H := H.ext e0;clear e0;have hln := H.len;refine calls_cw 33 [(2, iv nn), (1, iv cc), (0, .agg #[iv c, .slice a n k])] Tryz.func24 rfl Tryz.ntmps24 (by kernel_rfl) (by kernel_rfl) (fun L => ?_);have hE := Ext.refl w;refine zc (zp (pS (sw 25 #[iv c, .slice a n k] ?_)));intro O1 X2 Cu Cs hb hbx;have ⟨B0, B2⟩ := bq2 hbx;replace hE := hE.trans hb;have C7 := hb.size;have Cb := B0.lt;refine pD (.slice none 0 0) (iv 0) ?_;refine zn (zc (cw_seq ?_));obtain ⟨q9, Bn⟩ : ∃ q, Rep.validB c l = q := ⟨_, rfl⟩
 cases q9
 ·
  refine zp (pU (.agg #[iv c, .slice a n k]) (xl (ld25 (B0.1) (B2.1))) ?_);refine pS (sc 16 #[.agg #[iv c, .slice a n k]] ((Valid_r (r := false) _ _ H hE (hRl.ext hE) Bn).mono ?_));rintro e w5 ⟨rfl, hb⟩;refine mv3 hb hE B0 B2 fun hE B0 B2=>?_;have D2 := hb.size;refine ⟨_, rfl, pT (.bool true) ?_⟩;refine zn (zt ?_);refine zc (zp (pD (.slice none 0 0) (iv 350) ?_));refine zn (cw_ret (qw_then_ret (qw_ret [.slice none 0 0, iv 350] rfl ⟨(by kernel_rfl), (by kernel_rfl), trivial⟩ ?_)));exact ⟨_, _, _, _, rfl, .inr ⟨if_neg (by rw [Bn]; exact Bool.false_ne_true), rfl, rfl, rfl, rfl⟩, hE⟩
 ·
  have hv := Rep.valid_vd Bn;have Ct := Rep.valid_len Bn;refine zp (pU (.agg #[iv c, .slice a n k]) (xl (ld25 (B0.1) (B2.1))) ?_);refine pS (sc 16 #[.agg #[iv c, .slice a n k]] ((Valid_r (r := true) _ _ H hE (hRl.ext hE) Bn).mono ?_));rintro e w7 ⟨rfl, hb⟩;refine mv3 hb hE B0 B2 fun hE B0 B2=>?_;have C0 := hb.size;refine ⟨_, rfl, pT (.bool false) ?_⟩;refine zn (zf ?_);refine cw_skip (zq (zc (zp (pT (pw O1 1) ?_))));refine pU (.slice a n k) (xl (ld23 (B2.1))) ?_;refine pS (sc 52 #[.slice a n k] ((booked_c _ _ H hE).mono ?_));rintro e D3 ⟨B9, rfl, Cj, Be, hb⟩;refine mv3 hb hE B0 B2 fun hE B0 B2=>?_;have Bs := hb.size;have Bz := Be.lt;refine ⟨_, rfl, pT (.map (some B9)) ?_⟩;refine zn (cw_seq ?_);rcases hf9 : Rep.findK l (cc, nn) with _ | x9
  ·
   have hg : getM (cc, nn) (Rep.bookL l) = none := (Rep.book_get hv.keys _).trans hf9;refine zp (pD (.map (some B9)) (iv cc) ?_);refine pD (iv nn) (.agg #[iv cc, iv nn]) ?_;refine pU (.tuple #[.agg #[iv 0, iv 0, iv 0, iv 0, iv 0, iv 0, .string (⟨#[]⟩)], .bool false]) (ex_lookup rfl (by kernel_rfl) (by kernel_rfl) (lookup_is2 (run_lookup2 Tryz.underlying79 Be key_law (cc, nn) (zero_rec _)) hg)) ?_;refine pD (.tuple #[.agg #[iv 0, iv 0, iv 0, iv 0, iv 0, iv 0, .string (⟨#[]⟩)], .bool false]) (.agg #[iv 0, iv 0, iv 0, iv 0, iv 0, iv 0, .string (⟨#[]⟩)]) ?_;refine pT (.bool false) ?_;refine pS (sw 49 #[iv 0, iv 0, iv 0, iv 0, iv 0, iv 0, .string (⟨#[]⟩)] ?_);intro C5 Cd Bo C9 hb hbx;have ⟨Bf, Bg, Bh, Bi, Bj, Bk, Bm⟩ := bq7 hbx;refine mv4 hb hE B0 B2 Be fun hE B0 B2 Be=>?_;have Cl := hb.size;have Cw := Bf.lt;refine pP (sn_setK7 (O := C5) (j := 0) (v0 := iv 0) (v1 := iv 0) (v2 := iv 0) (v3 := iv 0) (v4 := iv 0) (v5 := iv 0) (v6 := .string (⟨#[]⟩)) (xt (pw C5 0) (.agg #[iv 0, iv 0, iv 0, iv 0, iv 0, iv 0, .string (⟨#[]⟩)]) (st49 Bf.1 Bf.2 Bg.1 Bg.2 Bh.1 Bh.2 Bi.1 Bi.2 Bj.1 Bj.2 Bk.1 Bk.2 Bm.1 Bm.2)) Bf Bg Bh Bi Bj Bk Bm ?_);intro Ce ho Bf Bg Bh Bi Bj Bk Bm hk;replace hE := ho.ext hE (T (T C7 (T C0 Bs)) (Nat.le_of_eq Bo));have q9 := ho.bx O1 (by omega);replace B0 := q9 B0;replace B2 := q9 B2;clear q9;replace Be := Be.block (ho.heap' _ (by omega));have Cm := Nat.le_of_eq ho.size.symm;clear ho hk;refine pT (.bool false) ?_;refine zn (cK [3,8,9,10] (fun L => ?_));refine zc (zc (zp (pD (.bool false) (.bool true) ?_)));refine zn (zt ?_);refine zc (zp (pD (.slice none 0 0) (iv 350) ?_));refine zn (cw_ret (qw_then_ret (qw_ret [.slice none 0 0, iv 350] rfl ⟨(by kernel_rfl), (by kernel_rfl), trivial⟩ ?_)));exact ⟨_, _, _, _, rfl, .inr ⟨(by unfold Rep.histO Rep.histF; rw [if_pos Bn, hf9]; rfl), rfl, rfl, rfl, rfl⟩, hE⟩
  ·
   have hg : getM (cc, nn) (Rep.bookL l) = some x9 := (Rep.book_get hv.keys _).trans hf9;have C8 := (Rep.findK_some hf9).1;obtain ⟨C3, C4, _⟩ := Rep.rt_is hv x9 C8;have C2 : Rep.famK l (Rep.rt l x9).key ≠ [] := List.ne_nil_of_length_pos (Rep.fam_head hv C3 C4).1;refine zp (pD (.map (some B9)) (iv cc) ?_);refine pD (iv nn) (.agg #[iv cc, iv nn]) ?_;refine pU (.tuple #[rvv x9, .bool true]) (ex_lookup rfl (by kernel_rfl) (by kernel_rfl) (lookup_is2 (run_lookup2 Tryz.underlying79 Be key_law (cc, nn) (zero_rec _)) hg)) ?_;refine pD (.tuple #[rvv x9, .bool true]) (rvv x9) ?_;refine pT (.bool true) ?_;refine pS (sw 49 #[iv 0, iv 0, iv 0, iv 0, iv 0, iv 0, .string (⟨#[]⟩)] ?_);intro Bq Cf Bp Ca hb hbx;have ⟨B3, B4, B7, B8, Ba, Bb, Bc⟩ := bq7 hbx;refine mv4 hb hE B0 B2 Be fun hE B0 B2 Be=>?_;have Cn := hb.size;have Cx := B3.lt;refine pP (sn_setK7 (O := Bq) (j := 0) (v0 := iv x9.c) (v1 := iv x9.n) (v2 := iv x9.t) (v3 := iv x9.o) (v4 := iv x9.w) (v5 := iv x9.k) (v6 := .string x9.x) (xt (pw Bq 0) (rvv x9) (st49 B3.1 B3.2 B4.1 B4.2 B7.1 B7.2 B8.1 B8.2 Ba.1 Ba.2 Bb.1 Bb.2 Bc.1 Bc.2)) B3 B4 B7 B8 Ba Bb Bc ?_);intro Cg ho B3 B4 B7 B8 Ba Bb Bc hk;replace hE := ho.ext hE (T (T C7 (T C0 Bs)) (Nat.le_of_eq Bp));have q9 := ho.bx O1 (by omega);replace B0 := q9 B0;replace B2 := q9 B2;clear q9;replace Be := Be.block (ho.heap' _ (by omega));have Co := Nat.le_of_eq ho.size.symm;clear ho hk;refine pT (.bool true) ?_;refine zn (cK [3,8,9,10] (fun L => ?_));refine zc (zc (zp (pD (.bool true) (.bool false) ?_)));refine zn (zf ?_);refine cw_skip (zq (zc (dE Tz41_0 (fun w' => w'.cell? ⟨O1, 0, none⟩ = some (iv c) ∧ w'.cell? ⟨O1, 1, none⟩ = some (.slice a n k) ∧ w'.cell? ⟨Bq, 0, none⟩ = some (iv x9.c) ∧ w'.cell? ⟨Bq, 1, none⟩ = some (iv x9.n) ∧ w'.cell? ⟨Bq, 2, none⟩ = some (iv x9.t) ∧ w'.cell? ⟨Bq, 3, none⟩ = some (iv x9.o) ∧ w'.cell? ⟨Bq, 4, none⟩ = some (iv x9.w) ∧ w'.cell? ⟨Bq, 5, none⟩ = some (iv x9.k) ∧ w'.cell? ⟨Bq, 6, none⟩ = some (.string x9.x)) (⟨B0.1, B2.1, B3.1, B4.1, B7.1, B8.1, Ba.1, Bb.1, Bc.1⟩) (fun ops Q D1 hb hL hR hK => ?_))));refine mv9 hb hE B0 B2 Be B3 B4 B7 B8 Ba fun hE B0 B2 Be B3 B4 B7 B8 Ba=>?_;refine mv2 hb Bb Bc fun Bb Bc=>?_;have Cp := hb.size;have hS := A9 B0.1 B2.1 B3.1 B4.1 B7.1 B8.1 Ba.1 Bb.1 Bc.1;refine wM 0 (.agg #[iv c, .slice a n k]) hR (fun w hS => ld25 (hS.1) (hS.2.1)) hS ?_;refine wV 2 (.map (some B9)) hR hS ?_;refine wM 3 (rvv x9) hR (fun w hS => ld49 (hS.2.2.1) (hS.2.2.2.1) (hS.2.2.2.2.1) (hS.2.2.2.2.2.1) (hS.2.2.2.2.2.2.1) (hS.2.2.2.2.2.2.2.1) (hS.2.2.2.2.2.2.2.2)) hS ?_;refine wC 1 43 #[.agg #[iv c, .slice a n k]] hR ((families_c _ _ H hE (hRl.ext hE) hv (by omega)).mono ?_);rintro e Cc ⟨D0, Cv, rfl, C1, hb⟩;refine mv9 hb hE B0 B2 Be B3 B4 B7 B8 Ba fun hE B0 B2 Be B3 B4 B7 B8 Ba=>?_;refine mv2 hb Bb Bc fun Bb Bc=>?_;have Cq := hb.size;obtain ⟨L, C6, a9, n9, c9, Ch, Ck, Ci⟩ := C1.get C2 (by have := fam_len hv (Rep.rt l x9).key; omega);have Br := Ext.refl Cc;have Cy := C6.lt;refine ⟨_, rfl, ⟨B0.1, B2.1, B3.1, B4.1, B7.1, B8.1, Ba.1, Bb.1, Bc.1⟩, ?_⟩;refine wC 4 59 #[.map (some B9), rvv x9] hR ((root_c x9 _ Be (Ext.refl _) hv C8 (hRl.ext hE)).mono ?_);rintro e Cz ⟨rfl, hb⟩;refine mv9 hb hE Br B0 B2 B3 B4 B7 B8 Ba fun hE Br B0 B2 B3 B4 B7 B8 Ba=>?_;refine mv2 hb Bb Bc fun Bb Bc=>?_;have Cr := hb.size;refine ⟨_, rfl, ⟨B0.1, B2.1, B3.1, B4.1, B7.1, B8.1, Ba.1, Bb.1, Bc.1⟩, ?_⟩;refine wS 5 hR (sn_eff (v := .slice a9 n9 c9) (w' := Cz) (ex_lookup rfl (by kernel_rfl) (by kernel_rfl) (lookup_is1 (run_lookup1 Tryz.underlying67 (C6.ext Br) key_law ((Rep.rt l x9).c, (Rep.rt l x9).n) (zero_slc _)) Ch)) ⟨⟨B0.1, B2.1, B3.1, B4.1, B7.1, B8.1, Ba.1, Bb.1, Bc.1⟩, ?_⟩);have hS := A9 B0.1 B2.1 B3.1 B4.1 B7.1 B8.1 Ba.1 Bb.1 Bc.1;refine wW 6 (.slice a9 n9 c9) 7 (iv 0) hR hS ?_;refine we hL hR hK ?_;refine zq (cw_ret (qw_ret [.slice a9 n9 c9, iv 0] rfl ⟨(by kernel_rfl), (by kernel_rfl), trivial⟩ ?_));exact ⟨_, _, _, _, rfl, .inl ⟨_, (by unfold Rep.histO Rep.histF; rw [if_pos Bn, hf9]; rfl), rfl, Ck.ext Br, Ci⟩, hE⟩
end Go.Proofs.YtfmoabgjaclkpaaGreatDoor

namespace Go.Proofs.YtfmoabgjaclkpaaGreatDoor
set_option maxRecDepth 1000000
set_option maxHeartbeats 4000000
set_option synthInstance.maxHeartbeats 0
set_option synthInstance.maxSize 9999
open Go.RowKit
def Tz42_0 : List Row := [(some 16, [0], []), (some 17, [5], []), (some 18, [16, 17], [0, 1]), (some 19, [18], [2]), (some 20, [1], []), (some 21, [5], []), (some 22, [20, 21], [4, 5]), (some 23, [22], [6]), (some 24, [19, 23], [3, 7])]
theorem merge_ok {c1 c2 : Int} {l1 l2 l : List Rec} (h : Rep.mergeF c1 l1 c2 l2 = some l) : Rep.okM c1 l1 c2 l2 := Classical.byContradiction fun q => by unfold Rep.mergeF at h; rw [if_neg q] at h; cases h
theorem behind_none {c1 c2 : Int} {l1 l2 : List Rec} (h : Rep.mergeF c1 l1 c2 l2 = none) : Rep.behindF c1 l1 c2 l2 = none := if_neg fun q => by unfold Rep.mergeF at h; rw [if_pos q] at h; cases h
theorem OptL.y {w' : World} {l : List Rec} {a : Option Addr} {n k : Nat} {er : Int} (h : OptL w' (some l) a n k er) : er = 0 ∧ RecsAt w' a n l ∧ n ≤ k := by
 rcases h with ⟨l', h1, h2⟩ | ⟨h, _⟩
 · cases h1; exact h2
 · cases h
theorem OptL.n {w' : World} {a : Option Addr} {n k : Nat} {er : Int} (h : OptL w' none a n k er) : er = 350 ∧ a = none ∧ n = 0 ∧ k = 0 := by
 rcases h with ⟨l', h1, h2⟩ | ⟨_, h⟩
 · cases h1
 · exact h
theorem Equal_c {w1 w2 : World} {a1 a2 : Option Addr} {n1 n2 : Nat} {l1 l2 : List Rec} (c1 c2 : Nat) (w : World) (H1 : RecsAt w1 a1 n1 l1) (e1 : Ext w1 w) (H2 : RecsAt w2 a2 n2 l2) (e2 : Ext w2 w) : Calls Tryz.prog 69 #[.slice a1 n1 c1, .slice a2 n2 c2] w fun e w' => e = .returned (.bool (decide (l1 = l2))) ∧ Ext w w' := by
 replace H1 := H1.ext e1;clear e1;replace H2 := H2.ext e2;clear e2;obtain ⟨b1, o1, Ba, B3, B0⟩ := H1.parts;have B7 := H1.len;have Bf := H1.max;obtain ⟨b2, o2, Bb, B4, B2⟩ := H2.parts;have B8 := H2.len;have Bg := H2.max;refine calls_cw 26 [(1, .slice a2 n2 c2), (0, .slice a1 n1 c1)] Tryz.func69 rfl Tryz.ntmps69 (by kernel_rfl) (by kernel_rfl) (fun L => ?_);have hE := Ext.refl w;refine zc (zp (pT (.bool false) ?_));refine zn (zc (cw_seq ?_))
 by_cases hnn : n1 = n2
 ·
  refine zp (pD (.slice a1 n1 c1) (iv n1) ?_);refine pD (.slice a2 n2 c2) (iv n2) ?_;refine pU (.bool false) (ev_nne (show _ = Result.ok (Next.value (Value.bool (((n1 : Nat) : Int) != ((n2 : Nat) : Int)))) _ from by kernel_rfl) (by omega)) ?_;refine zn (zf ?_);refine cw_skip (zq (zc (zc (zp (pD (.slice a1 n1 c1) (iv n1) ?_)))));refine pT (iv 0) ?_;refine zn (cw_block ?_);refine cw_loop [0, 1, 12, 13] (fun ws' wr m => ∃ i : Nat, ws' = [(0, .slice a1 n1 c1), (1, .slice a2 n2 c2), (12, iv n1), (13, iv i)] ∧ m = n1 - i ∧ w.heap.size ≤ wr.heap.size ∧ Ext w wr ∧ i ≤ n1 ∧ (∀ j, j < i → recN l1 j = recN l2 j)) (ws0 := [(0, .slice a1 n1 c1), (1, .slice a2 n2 c2), (12, iv n1), (13, iv 0)]) (by kernel_rfl) _ ⟨0, rfl, rfl, Nat.le_refl _, hE, Nat.zero_le _, (fun j hj => absurd hj (Nat.not_lt_zero j))⟩ ?_;clear hE;rintro m3 L ws w2 ⟨i, rfl, rfl, Bh, hE, hi, hno⟩
  by_cases hlt : i < n1
  ·
   obtain rfl := Ba (by omega);have Bc := B3 (by omega);obtain rfl := Bb (by omega);have Be := B4 (by omega);refine zc (zp (pU (.bool true) (ed (((i : Nat) : Int) < ((n1 : Nat) : Int)) (by omega)) ?_));refine zn (zc (zt ?_));refine cw_skip (zq (zc (cw_block ?_)));refine zc (zp (pD (iv i) (iv i) ?_));refine zn (cw_seq ?_)
   by_cases hq : recN l1 i = recN l2 i
   ·
    refine dE Tz42_0 (fun w' => RecAt w' b1 (o1 + i * 7) (recN l1 i) ∧ RecAt w' b2 (o2 + i * 7) (recN l2 i)) (⟨((B0.ext hE).r (i := i) (by omega)), ((B2.ext hE).r (i := i) (by omega))⟩) (fun ops Q X4 hb hL hR hK => ?_);replace hE := hE.trans hb;have Bi := hb.size;have hS := A2 ((B0.ext hE).r (i := i) (by omega)) ((B2.ext hE).r (i := i) (by omega));refine wW 0 (sv b1 o1 n1 c1) 1 (iv i) hR hS ?_;refine wL 2 (pw b1 (o1 + i * 7)) hR (fun w _ => ex_index (p := sv b1 o1 n1 c1) (i := iv i) rfl (by kernel_rfl) (by kernel_rfl) (ix23 (k := i) (by omega))) hS ?_;refine wM 3 (rvv (recN l1 i)) hR (fun w hS => rl hS.1) hS ?_;refine wW 4 (sv b2 o2 n2 c2) 5 (iv i) hR hS ?_;refine wL 6 (pw b2 (o2 + i * 7)) hR (fun w _ => ex_index (p := sv b2 o2 n2 c2) (i := iv i) rfl (by kernel_rfl) (by kernel_rfl) (ix23 (k := i) (by omega))) hS ?_;refine wM 7 (rvv (recN l2 i)) hR (fun w hS => rl hS.2) hS ?_;refine wL 8 (.bool false) hR (fun w _ => ex_binV (a := rvv (recN l1 i)) (b := rvv (recN l2 i)) rfl (by kernel_rfl) (by kernel_rfl) (eqG_agg (by kernel_rfl)) (bin_nqv_t (rec_eq _ ((recN l1 i)) ((recN l2 i))) hq)) hS ?_;refine we hL hR hK ?_;refine zq (cK [0,1,12,13,24] (fun L => ?_));refine zf ?_;refine cw_skip (qw_block (zq (zp (pU (iv ((i + 1 : Nat) : Int)) (ew (by omega) (by omega)) ?_))));refine pT (iv ((i + 1 : Nat) : Int)) ?_;refine pl_nil (zr [0, 1, 12, 13] _ ?_ ⟨(i + 1), rfl, rfl, (T Bh Bi), hE, by omega, (fun j hj => by rcases Nat.lt_succ_iff_lt_or_eq.1 hj with h | h; exact hno j h; rw [h]; exact hq)⟩);omega
   ·
    refine dE Tz42_0 (fun w' => RecAt w' b1 (o1 + i * 7) (recN l1 i) ∧ RecAt w' b2 (o2 + i * 7) (recN l2 i)) (⟨((B0.ext hE).r (i := i) (by omega)), ((B2.ext hE).r (i := i) (by omega))⟩) (fun ops Q X6 hb hL hR hK => ?_);replace hE := hE.trans hb;have Bj := hb.size;have hS := A2 ((B0.ext hE).r (i := i) (by omega)) ((B2.ext hE).r (i := i) (by omega));refine wW 0 (sv b1 o1 n1 c1) 1 (iv i) hR hS ?_;refine wL 2 (pw b1 (o1 + i * 7)) hR (fun w _ => ex_index (p := sv b1 o1 n1 c1) (i := iv i) rfl (by kernel_rfl) (by kernel_rfl) (ix23 (k := i) (by omega))) hS ?_;refine wM 3 (rvv (recN l1 i)) hR (fun w hS => rl hS.1) hS ?_;refine wW 4 (sv b2 o2 n2 c2) 5 (iv i) hR hS ?_;refine wL 6 (pw b2 (o2 + i * 7)) hR (fun w _ => ex_index (p := sv b2 o2 n2 c2) (i := iv i) rfl (by kernel_rfl) (by kernel_rfl) (ix23 (k := i) (by omega))) hS ?_;refine wM 7 (rvv (recN l2 i)) hR (fun w hS => rl hS.2) hS ?_;refine wL 8 (.bool true) hR (fun w _ => ex_binV (a := rvv (recN l1 i)) (b := rvv (recN l2 i)) rfl (by kernel_rfl) (by kernel_rfl) (eqG_agg (by kernel_rfl)) (bin_nqv_f (rec_eq _ ((recN l1 i)) ((recN l2 i))) hq)) hS ?_;refine we hL hR hK ?_;refine zq (cK [0,1,12,13,24] (fun L => ?_));refine zt ?_;refine zc (zp (pT (.bool false) ?_));refine zn (cw_ret (qw_block_ret (qw_then_ret (qw_then_ret (qw_block_ret (qw_then_ret (qw_ret [.bool false] rfl ⟨(by kernel_rfl), trivial⟩ ?_)))))));exact ⟨rb (decide_eq_false fun e => hq (by rw [e])).symm, hE⟩
  ·
   refine zc (zp (pU (.bool false) (en (((i : Nat) : Int) < ((n1 : Nat) : Int)) (by omega)) ?_));refine zn (zc (zf ?_));refine cw_exit (qw_then_exit (qw_then_exit (qw_block_out (zq (zc (zp (pT (.bool true) ?_)))))));refine zn (cw_ret (qw_ret [.bool true] rfl ⟨(by kernel_rfl), trivial⟩ ?_));exact ⟨rb (decide_eq_true (Rep.rec_ext (by omega) fun j hj => hno j (by omega))).symm, hE⟩
 ·
  refine zp (pD (.slice a1 n1 c1) (iv n1) ?_);refine pD (.slice a2 n2 c2) (iv n2) ?_;refine pU (.bool true) (eM ((n1 : Nat) : Int) ((n2 : Nat) : Int) (by omega)) ?_;refine zn (zt ?_);refine zc (zp (pT (.bool false) ?_));refine zn (cw_ret (qw_then_ret (qw_ret [.bool false] rfl ⟨(by kernel_rfl), trivial⟩ ?_)));exact ⟨rb (decide_eq_false fun e => hnn (by rw [← B7, ← B8, e])).symm, hE⟩
theorem Same_c {w1 w2 : World} {a1 a2 : Option Addr} {n1 n2 : Nat} {l1 l2 : List Rec} {c1 c2 : Int} (k1 k2 : Nat) (w : World) (H1 : RecsAt w1 a1 n1 l1) (e1 : Ext w1 w) (H2 : RecsAt w2 a2 n2 l2) (e2 : Ext w2 w) : Calls Tryz.prog 30 #[.agg #[iv c1, .slice a1 n1 k1], .agg #[iv c2, .slice a2 n2 k2]] w fun e w' => e = .returned (.bool (decide (c1 = c2 ∧ l1 = l2))) ∧ Ext w w' := by
 refine calls_cw 17 [(1, .agg #[iv c2, .slice a2 n2 k2]), (0, .agg #[iv c1, .slice a1 n1 k1])] Tryz.func30 rfl Tryz.ntmps30 (by kernel_rfl) (by kernel_rfl) (fun L => ?_);have hE := Ext.refl w;refine zc (zp (pS (sw 25 #[iv c1, .slice a1 n1 k1] ?_)));intro O1 X2 hzO1 hyO1 hb hbx;have ⟨bO1_0, bO1_1⟩ := bq2 hbx;replace hE := hE.trans hb;have hs3 := hb.size;have lt4 := bO1_0.lt;refine pS (sw 25 #[iv c2, .slice a2 n2 k2] ?_);intro O5 X6 hzO5 hyO5 hb hbx;have ⟨bO5_0, bO5_1⟩ := bq2 hbx;refine mv3 hb hE bO1_0 bO1_1 fun hE bO1_0 bO1_1=>?_;have hs7 := hb.size;have lt8 := bO5_0.lt;refine pT (.bool false) ?_;refine zn (cw_seq ?_)
 by_cases hc : c1 = c2
 ·
  have hX9 := Ext.refl X6;refine zp (pT (pw O1 0) ?_);refine pU (iv c1) (xl (ld3 (bO1_0.1))) ?_;refine pT (pw O5 0) ?_;refine pU (iv c2) (xl (ld3 (bO5_0.1))) ?_;refine pU (.bool true) (eE (c1 : Int) (c2 : Int) (hc)) ?_;refine pD (.bool true) (pw O1 1) ?_;refine pU (.slice a1 n1 k1) (xl (ld23 (bO1_1.1))) ?_;refine pT (pw O5 1) ?_;refine pU (.slice a2 n2 k2) (xl (ld23 (bO5_1.1))) ?_;refine pS (sc 69 #[.slice a1 n1 k1, .slice a2 n2 k2] ((Equal_c _ _ _ H1 (e1.trans hE) H2 (e2.trans hE)).mono ?_));rintro e w10 ⟨rfl, hb⟩;replace hE := hE.trans hb;have hs11 := hb.size;refine ⟨_, rfl, pD (.bool (decide (l1 = l2))) (.bool (decide (l1 = l2))) ?_⟩;refine zn (cK [4] (fun L => ?_));refine cw_ret (qw_ret [.bool (decide (l1 = l2))] rfl ⟨(by kernel_rfl), trivial⟩ ?_);exact ⟨rb (show decide (c1 = c2 ∧ l1 = l2) = decide (l1 = l2) by simp [hc]).symm, hE⟩
 ·
  have hX12 := Ext.refl X6;refine zp (pT (pw O1 0) ?_);refine pU (iv c1) (xl (ld3 (bO1_0.1))) ?_;refine pT (pw O5 0) ?_;refine pU (iv c2) (xl (ld3 (bO5_0.1))) ?_;refine pU (.bool false) (eN (c1 : Int) (c2 : Int) (hc)) ?_;refine pT (.bool false) ?_;refine pK ?_;refine pK ?_;refine pK ?_;refine pK ?_;refine pK ?_;refine pD (.bool false) (.bool false) ?_;refine zn (cK [4] (fun L => ?_));refine cw_ret (qw_ret [.bool false] rfl ⟨(by kernel_rfl), trivial⟩ ?_);exact ⟨rb (show decide (c1 = c2 ∧ l1 = l2) = false by simp [hc]).symm, hE⟩
theorem Behind_0 {w1 w2 : World} {c1 c2 : Int} {a1 a2 : Option Addr} {n1 : Nat} {l1 l2 : List Rec} (k1 k2 : Nat) (w : World) (H1 : RecsAt w1 a1 n1 l1) (e1 : Ext w1 w) (H2 : RecsAt w2 a2 0 l2) (e2 : Ext w2 w) (hRl : RootAt w) : Calls Tryz.prog 28 #[.agg #[iv c1, .slice a1 n1 k1], .agg #[iv c2, .slice a2 0 k2]] w fun e w' => ∃ a' n' k' er, e = .returned (.tuple #[.slice a' n' k', iv er]) ∧ OptL w' (Rep.behindF c1 l1 c2 l2) a' n' k' er ∧ Ext w w' := by
 replace H1 := H1.ext e1;clear e1;replace H2 := H2.ext e2;clear e2;refine calls_cw 26 [(1, .agg #[iv c2, .slice a2 0 k2]), (0, .agg #[iv c1, .slice a1 n1 k1])] Tryz.func28 rfl Tryz.ntmps28 (by kernel_rfl) (by kernel_rfl) (fun L => ?_);have hE := Ext.refl w;refine zc (zp (pS (sw 25 #[iv c1, .slice a1 n1 k1] ?_)));intro O1 X2 Cl Cj hb hbx;have ⟨B0, B2⟩ := bq2 hbx;replace hE := hE.trans hb;have Bu := hb.size;have Bx := B0.lt;refine pS (sw 25 #[iv c2, .slice a2 0 k2] ?_);intro O5 X6 Cm Ck hb hbx;have ⟨B3, B4⟩ := bq2 hbx;refine mv3 hb hE B0 B2 fun hE B0 B2=>?_;have Bp := hb.size;have By := B3.lt;refine pD (.slice none 0 0) (iv 0) ?_;refine zn (zc (cw_seq ?_));rcases ho : Rep.mergeF c1 l1 c2 l2 with _ | lm
 ·
  refine zp (pU (.agg #[iv c1, .slice a1 n1 k1]) (xl (ld25 (B0.1) (B2.1))) ?_);refine pU (.agg #[iv c2, .slice a2 0 k2]) (xl (ld25 (B3.1) (B4.1))) ?_;refine pS (sc 26 #[.agg #[iv c1, .slice a1 n1 k1], .agg #[iv c2, .slice a2 0 k2]] ((Merge_n _ _ _ H1 hE H2 hE (hRl.ext hE) ho).mono ?_));rintro e w9 ⟨rfl, hb⟩;refine mv5 hb hE B0 B2 B3 B4 fun hE B0 B2 B3 B4=>?_;have Bn := hb.size;refine ⟨_, rfl, pD (.tuple #[.agg #[iv 0, .slice none 0 0], iv 350]) (.agg #[iv 0, .slice none 0 0]) ?_⟩;refine pT (iv 350) ?_;refine pS (sw 25 #[iv 0, .slice none 0 0] ?_);intro C0 C5 Bh C2 hb hbx;have ⟨Bb, Bc⟩ := bq2 hbx;refine mv5 hb hE B0 B2 B3 B4 fun hE B0 B2 B3 B4=>?_;have Cd := hb.size;have Cn := Bb.lt;refine pP (sn_set2 (O := C0) (j := 0) (v := iv 0) (v' := .slice none 0 0) (xt (pw C0 0) (.agg #[iv 0, .slice none 0 0]) (st25 Bb.1 Bb.2 Bc.1 Bc.2)) Bb Bc ?_);intro C6 ho Bb Bc hk;replace hE := ho.ext hE (T (T Bu (T Bp Bn)) (Nat.le_of_eq Bh));have q9 := ho.bx O1 (by omega);replace B0 := q9 B0;replace B2 := q9 B2;clear q9;have q9 := ho.bx O5 (by omega);replace B3 := q9 B3;replace B4 := q9 B4;clear q9;have Ce := Nat.le_of_eq ho.size.symm;clear ho hk;refine pT (iv 350) ?_;refine zn (zc (zp (pD (iv 350) (.bool true) ?_)));refine zn (cK [2,3,7,16] (fun L => ?_));refine zt ?_;refine zc (zp (pD (iv 350) (.slice none 0 0) ?_));refine pT (iv 350) ?_;refine zn (cw_ret (qw_then_ret (qw_ret [.slice none 0 0, iv 350] rfl ⟨(by kernel_rfl), (by kernel_rfl), trivial⟩ ?_)));exact ⟨_, _, _, _, rfl, .inr ⟨behind_none ho, rfl, rfl, rfl, rfl⟩, hE⟩
 ·
  have hok := merge_ok ho;have Bq := Rep.valid_vd hok.1;have Cs := Rep.valid_len hok.1;have Ct := Rep.valid_len hok.2.1;have Cb := H1.len;have Bt := H2.len;refine zp (pU (.agg #[iv c1, .slice a1 n1 k1]) (xl (ld25 (B0.1) (B2.1))) ?_);refine pU (.agg #[iv c2, .slice a2 0 k2]) (xl (ld25 (B3.1) (B4.1))) ?_;refine pS (sc 26 #[.agg #[iv c1, .slice a1 n1 k1], .agg #[iv c2, .slice a2 0 k2]] ((Merge_y _ _ _ H1 hE H2 hE (hRl.ext hE) ho).mono ?_));rintro e Cu ⟨a3, n3, k3, rfl, Cr, Cp, Cq, hb⟩;refine mv3 hb hE B2 B4 fun hE B2 B4=>?_;have Bg := hb.size;refine ⟨_, rfl, pD (.tuple #[.agg #[iv c1, .slice a3 n3 k3], iv 0]) (.agg #[iv c1, .slice a3 n3 k3]) ?_⟩;refine pT (iv 0) ?_;refine pS (sw 25 #[iv 0, .slice none 0 0] ?_);intro Bs C7 Bi C3 hb hbx;have ⟨B7, B8⟩ := bq2 hbx;refine mv3 hb hE B2 B4 fun hE B2 B4=>?_;have Bo := hb.size;have Bv := B7.lt;refine pP (sn_set2 (O := Bs) (j := 0) (v := iv c1) (v' := .slice a3 n3 k3) (xt (pw Bs 0) (.agg #[iv c1, .slice a3 n3 k3]) (st25 B7.1 B7.2 B8.1 B8.2)) B7 B8 ?_);intro C8 ho B7 B8 hk;replace hE := ho.ext hE (T (T Bu (T Bp Bg)) (Nat.le_of_eq Bi));have q9 := ho.bx O1 (by omega);replace B2 := q9 B2;clear q9;have q9 := ho.bx O5 (by omega);replace B4 := q9 B4;clear q9;have Bj := Nat.le_of_eq ho.size.symm;clear ho hk;refine pT (iv 0) ?_;refine zn (zc (zp (pD (iv 0) (.bool false) ?_)));refine zn (cK [2,3,7,16] (fun L => ?_));refine zf ?_;refine cw_skip (zq (zc (zp (pT (pw O1 1) ?_))));refine pU (.slice a1 n1 k1) (xl (ld23 (B2.1))) ?_;refine pS (sc 52 #[.slice a1 n1 k1] ((booked_c _ _ H1 hE).mono ?_));rintro e Cv ⟨Bz, rfl, Cc, Be, hb⟩;refine mv2 hb hE B4 fun hE B4=>?_;have Bk := hb.size;have Bw := Be.lt;refine ⟨_, rfl, pS (sw 79 #[.map none] ?_)⟩;intro Br C9 Bf C4 hb hbx;have Ba := bq1 hbx;refine mv3 hb hE B4 Be fun hE B4 Be=>?_;have Cf := hb.size;have Co := Ba.lt;refine pP (zE Br 0 (.map (some Bz)) (st79 Ba.1 Ba.2) Ba ?_);intro Ca ho Ba hk;replace hE := ho.ext hE (by omega);have q9 := ho.bx O1 (by omega);clear q9;have q9 := ho.bx O5 (by omega);replace B4 := q9 B4;clear q9;have q9 := ho.bx Bs (by omega);clear q9;replace Be := Be.block (ho.heap' _ (by omega));have Cg := Nat.le_of_eq ho.size.symm;clear ho hk;refine zn (zc (zp (pT (pw O5 1) ?_)));refine pU (.slice a2 0 k2) (xl (ld23 (B4.1))) ?_;refine pS (sc 66 #[.slice a2 0 k2] ((Clone_0 _ _ H2 hE).mono ?_));rintro e Cw ⟨a9, c9, rfl, C1, hb⟩;refine mv3 hb hE Be Ba fun hE Be Ba=>?_;have Ch := hb.size;refine ⟨_, rfl, pT (.func (.func 67) #[] #[pw Br 0]) ?_⟩;refine pS (sc 65 #[.slice a9 0 c9, .func (.func 67) #[] #[pw Br 0]] ((Delete_0 _ ⟨rfl, Nat.zero_le _, C1.imp id (fun ⟨g, e⟩ => ⟨g, 0, e⟩), .inl rfl⟩ Be (Ext.refl _) Ba.1 (Ext.refl _)).mono ?_));rintro e Cx ⟨rfl, hb⟩;replace hE := hE.trans hb;have Ci := hb.size;refine ⟨_, rfl, pD (.slice a9 0 c9) (iv 0) ?_⟩;refine zn (cK [4,5] (fun L => ?_));refine cw_ret (qw_ret [.slice a9 0 c9, iv 0] rfl ⟨(by kernel_rfl), (by kernel_rfl), trivial⟩ ?_);obtain rfl := List.eq_nil_of_length_eq_zero Bt;exact ⟨_, _, _, _, rfl, .inl ⟨_, if_pos hok, rfl, ⟨rfl, Nat.zero_le _, C1.imp id (fun ⟨g, e⟩ => ⟨g, 0, e⟩), .inl rfl⟩, Nat.zero_le _⟩, hE⟩
theorem Behind_p {w1 w2 : World} {c1 c2 : Int} {a1 a2 : Option Addr} {n1 n2 : Nat} {l1 l2 : List Rec} (k1 k2 : Nat) (w : World) (H1 : RecsAt w1 a1 n1 l1) (e1 : Ext w1 w) (H2 : RecsAt w2 a2 n2 l2) (e2 : Ext w2 w) (hRl : RootAt w) (hp : 0 < n2) : Calls Tryz.prog 28 #[.agg #[iv c1, .slice a1 n1 k1], .agg #[iv c2, .slice a2 n2 k2]] w fun e w' => ∃ a' n' k' er, e = .returned (.tuple #[.slice a' n' k', iv er]) ∧ OptL w' (Rep.behindF c1 l1 c2 l2) a' n' k' er ∧ Ext w w' := by
 replace H1 := H1.ext e1;clear e1;replace H2 := H2.ext e2;clear e2;refine calls_cw 26 [(1, .agg #[iv c2, .slice a2 n2 k2]), (0, .agg #[iv c1, .slice a1 n1 k1])] Tryz.func28 rfl Tryz.ntmps28 (by kernel_rfl) (by kernel_rfl) (fun L => ?_);have hE := Ext.refl w;refine zc (zp (pS (sw 25 #[iv c1, .slice a1 n1 k1] ?_)));intro O1 X2 Cv Ct hb hbx;have ⟨B0, B2⟩ := bq2 hbx;replace hE := hE.trans hb;have C3 := hb.size;have C4 := B0.lt;refine pS (sw 25 #[iv c2, .slice a2 n2 k2] ?_);intro O5 X6 Cw Cu hb hbx;have ⟨B3, B4⟩ := bq2 hbx;refine mv3 hb hE B0 B2 fun hE B0 B2=>?_;have Br := hb.size;have C5 := B3.lt;refine pD (.slice none 0 0) (iv 0) ?_;refine zn (zc (cw_seq ?_));rcases ho : Rep.mergeF c1 l1 c2 l2 with _ | lm
 ·
  refine zp (pU (.agg #[iv c1, .slice a1 n1 k1]) (xl (ld25 (B0.1) (B2.1))) ?_);refine pU (.agg #[iv c2, .slice a2 n2 k2]) (xl (ld25 (B3.1) (B4.1))) ?_;refine pS (sc 26 #[.agg #[iv c1, .slice a1 n1 k1], .agg #[iv c2, .slice a2 n2 k2]] ((Merge_n _ _ _ H1 hE H2 hE (hRl.ext hE) ho).mono ?_));rintro e w9 ⟨rfl, hb⟩;refine mv5 hb hE B0 B2 B3 B4 fun hE B0 B2 B3 B4=>?_;have Bt := hb.size;refine ⟨_, rfl, pD (.tuple #[.agg #[iv 0, .slice none 0 0], iv 350]) (.agg #[iv 0, .slice none 0 0]) ?_⟩;refine pT (iv 350) ?_;refine pS (sw 25 #[iv 0, .slice none 0 0] ?_);intro Cc Ch Bo Cd hb hbx;have ⟨Bb, Bc⟩ := bq2 hbx;refine mv5 hb hE B0 B2 B3 B4 fun hE B0 B2 B3 B4=>?_;have Cp := hb.size;have Cx := Bb.lt;refine pP (sn_set2 (O := Cc) (j := 0) (v := iv 0) (v' := .slice none 0 0) (xt (pw Cc 0) (.agg #[iv 0, .slice none 0 0]) (st25 Bb.1 Bb.2 Bc.1 Bc.2)) Bb Bc ?_);intro Ci ho Bb Bc hk;replace hE := ho.ext hE (T (T C3 (T Br Bt)) (Nat.le_of_eq Bo));have q9 := ho.bx O1 (by omega);replace B0 := q9 B0;replace B2 := q9 B2;clear q9;have q9 := ho.bx O5 (by omega);replace B3 := q9 B3;replace B4 := q9 B4;clear q9;have Cq := Nat.le_of_eq ho.size.symm;clear ho hk;refine pT (iv 350) ?_;refine zn (zc (zp (pD (iv 350) (.bool true) ?_)));refine zn (cK [2,3,7,16] (fun L => ?_));refine zt ?_;refine zc (zp (pD (iv 350) (.slice none 0 0) ?_));refine pT (iv 350) ?_;refine zn (cw_ret (qw_then_ret (qw_ret [.slice none 0 0, iv 350] rfl ⟨(by kernel_rfl), (by kernel_rfl), trivial⟩ ?_)));exact ⟨_, _, _, _, rfl, .inr ⟨behind_none ho, rfl, rfl, rfl, rfl⟩, hE⟩
 ·
  have hok := merge_ok ho;have Bu := Rep.valid_vd hok.1;have D1 := Rep.valid_len hok.1;have D2 := Rep.valid_len hok.2.1;have Cn := H1.len;have Cb := H2.len;refine zp (pU (.agg #[iv c1, .slice a1 n1 k1]) (xl (ld25 (B0.1) (B2.1))) ?_);refine pU (.agg #[iv c2, .slice a2 n2 k2]) (xl (ld25 (B3.1) (B4.1))) ?_;refine pS (sc 26 #[.agg #[iv c1, .slice a1 n1 k1], .agg #[iv c2, .slice a2 n2 k2]] ((Merge_y _ _ _ H1 hE H2 hE (hRl.ext hE) ho).mono ?_));rintro e D4 ⟨a3, n3, k3, rfl, D0, Cy, Cz, hb⟩;refine mv3 hb hE B2 B4 fun hE B2 B4=>?_;have Bf := hb.size;refine ⟨_, rfl, pD (.tuple #[.agg #[iv c1, .slice a3 n3 k3], iv 0]) (.agg #[iv c1, .slice a3 n3 k3]) ?_⟩;refine pT (iv 0) ?_;refine pS (sw 25 #[iv 0, .slice none 0 0] ?_);intro Bw Cj Bp Ce hb hbx;have ⟨B7, B8⟩ := bq2 hbx;refine mv3 hb hE B2 B4 fun hE B2 B4=>?_;have Bm := hb.size;have C1 := B7.lt;refine pP (sn_set2 (O := Bw) (j := 0) (v := iv c1) (v' := .slice a3 n3 k3) (xt (pw Bw 0) (.agg #[iv c1, .slice a3 n3 k3]) (st25 B7.1 B7.2 B8.1 B8.2)) B7 B8 ?_);intro Ck ho B7 B8 hk;replace hE := ho.ext hE (T (T C3 (T Br Bf)) (Nat.le_of_eq Bp));have q9 := ho.bx O1 (by omega);replace B2 := q9 B2;clear q9;have q9 := ho.bx O5 (by omega);replace B4 := q9 B4;clear q9;have Bh := Nat.le_of_eq ho.size.symm;clear ho hk;refine pT (iv 0) ?_;refine zn (zc (zp (pD (iv 0) (.bool false) ?_)));refine zn (cK [2,3,7,16] (fun L => ?_));refine zf ?_;refine cw_skip (zq (zc (zp (pT (pw O1 1) ?_))));refine pU (.slice a1 n1 k1) (xl (ld23 (B2.1))) ?_;refine pS (sc 52 #[.slice a1 n1 k1] ((booked_c _ _ H1 hE).mono ?_));rintro e D5 ⟨C6, rfl, Co, Be, hb⟩;refine mv2 hb hE B4 fun hE B4=>?_;have Bi := hb.size;have Bv := Be.lt;refine ⟨_, rfl, pS (sw 79 #[.map none] ?_)⟩;intro Bx Cl Bk Cf hb hbx;have Ba := bq1 hbx;refine mv3 hb hE B4 Be fun hE B4 Be=>?_;have Bn := hb.size;have C2 := Ba.lt;refine pP (zE Bx 0 (.map (some C6)) (st79 Ba.1 Ba.2) Ba ?_);intro Cm ho Ba hk;replace hE := ho.ext hE (by omega);have q9 := ho.bx O1 (by omega);clear q9;have q9 := ho.bx O5 (by omega);replace B4 := q9 B4;clear q9;have q9 := ho.bx Bw (by omega);clear q9;replace Be := Be.block (ho.heap' _ (by omega));have Bj := Nat.le_of_eq ho.size.symm;clear ho hk;refine zn (zc (zp (pT (pw O5 1) ?_)));refine pU (.slice a2 n2 k2) (xl (ld23 (B4.1))) ?_;refine pS (sc 66 #[.slice a2 n2 k2] ((Clone_p _ _ H2 hE (by omega) hp).mono ?_));rintro e D6 ⟨Bq, C7, rfl, Bg, By, Ca, hb⟩;refine mv3 hb hE Be Ba fun hE Be Ba=>?_;have Cr := hb.size;have C9 := By.lt (i := 0) (by omega);refine ⟨_, rfl, pT (.func (.func 67) #[] #[pw Bx 0]) ?_⟩;refine pS (sc 65 #[sv Bq 0 n2 C7, .func (.func 67) #[] #[pw Bx 0]] ((Delete_c _ By Cb (Nat.lt_of_lt_of_le C9 (Nat.le_refl _)) Ca (by omega) Be Ba.1 (by omega) (Nat.lt_of_lt_of_le C2 (T Bj Bg))).mono ?_));rintro e D7 ⟨Cg, rfl, C8, C0, Bz, hw⟩;replace hE := hw.ext hE (fun k hk => (show k = Bq from hk) ▸ (by omega));have q9 := fun ⦃j : Nat⦄ ⦃v : Value⦄ (h : BoxAt _ O1 j v) => hw.box (fun hx => absurd (show O1 = Bq from hx) (by omega)) h
  clear q9;have q9 := fun ⦃j : Nat⦄ ⦃v : Value⦄ (h : BoxAt _ O5 j v) => hw.box (fun hx => absurd (show O5 = Bq from hx) (by omega)) h
  clear q9;have q9 := fun ⦃j : Nat⦄ ⦃v : Value⦄ (h : BoxAt _ Bw j v) => hw.box (fun hx => absurd (show Bw = Bq from hx) (by omega)) h
  clear q9;have Cs := hw.size;refine ⟨_, rfl, pD (sv Bq 0 Cg C7) (iv 0) ?_⟩;refine zn (cK [4,5] (fun L => ?_));refine cw_ret (qw_ret [sv Bq 0 Cg C7, iv 0] rfl ⟨(by kernel_rfl), (by kernel_rfl), trivial⟩ ?_);have D3 := List.length_filter_le (fun x => !Rep.knownB (Rep.bookL l1) x) l2;exact ⟨_, _, _, _, rfl, .inl ⟨_, if_pos hok, rfl, by rw [← Rep.known_more Bu.keys]; exact C8.at C0 (by omega), Bz⟩, hE⟩
theorem Behind_c {w1 w2 : World} {c1 c2 : Int} {a1 a2 : Option Addr} {n1 n2 : Nat} {l1 l2 : List Rec} (k1 k2 : Nat) (w : World) (H1 : RecsAt w1 a1 n1 l1) (e1 : Ext w1 w) (H2 : RecsAt w2 a2 n2 l2) (e2 : Ext w2 w) (hRl : RootAt w) : Calls Tryz.prog 28 #[.agg #[.int .i64 c1, .slice a1 n1 k1], .agg #[.int .i64 c2, .slice a2 n2 k2]] w fun e w' => ∃ a' n' k' er, e = .returned (.tuple #[.slice a' n' k', .int .i64 er]) ∧ OptL w' (Rep.behindF c1 l1 c2 l2) a' n' k' er ∧ Ext w w' := by
 rcases Nat.eq_zero_or_pos n2 with h0 | h0
 · subst h0; exact Behind_0 k1 k2 w H1 e1 H2 e2 hRl
 · exact Behind_p k1 k2 w H1 e1 H2 e2 hRl h0
theorem Behind_y {w1 w2 : World} {c1 c2 : Int} {a1 a2 : Option Addr} {n1 n2 : Nat} {l1 l2 : List Rec} {l' : List Rec} (k1 k2 : Nat) (w : World) (H1 : RecsAt w1 a1 n1 l1) (e1 : Ext w1 w) (H2 : RecsAt w2 a2 n2 l2) (e2 : Ext w2 w) (hRl : RootAt w) (ho : Rep.behindF c1 l1 c2 l2 = some l') : Calls Tryz.prog 28 #[.agg #[.int .i64 c1, .slice a1 n1 k1], .agg #[.int .i64 c2, .slice a2 n2 k2]] w fun e w' => ∃ a' n' k', e = .returned (.tuple #[.slice a' n' k', .int .i64 0]) ∧ RecsAt w' a' n' l' ∧ n' ≤ k' ∧ Ext w w' :=
 (Behind_c k1 k2 w H1 e1 H2 e2 hRl).mono fun _ _ ⟨a', n', k', er, he, hO, hE⟩ => by
  rw [ho] at hO
  obtain ⟨rfl, h1, h2⟩ := hO.y
  exact ⟨a', n', k', he, h1, h2, hE⟩
theorem Fold_y {w0 : World} {c : Int} {a : Option Addr} {n : Nat} {l : List Rec} {l' : List Rec} (k : Nat) (w : World) (H : RecsAt w0 a n l) (e0 : Ext w0 w) (hRl : RootAt w) (ho : Rep.foldO c l = some l') : Calls Tryz.prog 13 #[.agg #[.int .i64 c, .slice a n k]] w fun e w' => ∃ a' n' k', e = .returned (.tuple #[.slice a' n' k', .int .i64 0]) ∧ RecsAt w' a' n' l' ∧ n' ≤ k' ∧ Ext w w' :=
 (Fold_c k w H e0 hRl).mono fun _ _ ⟨a', n', k', er, he, hO, hE⟩ => by
  rw [ho] at hO
  obtain ⟨rfl, h1, h2⟩ := hO.y
  exact ⟨a', n', k', he, h1, h2, hE⟩
theorem History_y {w0 : World} {c cc nn : Int} {a : Option Addr} {n : Nat} {l : List Rec} {l' : List Rec} (k : Nat) (w : World) (H : RecsAt w0 a n l) (e0 : Ext w0 w) (hRl : RootAt w) (ho : Rep.histO c l (cc, nn) = some l') : Calls Tryz.prog 24 #[.agg #[.int .i64 c, .slice a n k], .int .i64 cc, .int .i64 nn] w fun e w' => ∃ a' n' k', e = .returned (.tuple #[.slice a' n' k', .int .i64 0]) ∧ RecsAt w' a' n' l' ∧ n' ≤ k' ∧ Ext w w' :=
 (History_c k cc nn w H e0 hRl).mono fun _ _ ⟨a', n', k', er, he, hO, hE⟩ => by
  rw [ho] at hO
  obtain ⟨rfl, h1, h2⟩ := hO.y
  exact ⟨a', n', k', he, h1, h2, hE⟩
theorem History_n {w0 : World} {c cc nn : Int} {a : Option Addr} {n : Nat} {l : List Rec} (k : Nat) (w : World) (H : RecsAt w0 a n l) (e0 : Ext w0 w) (hRl : RootAt w) (ho : Rep.histO c l (cc, nn) = none) : Calls Tryz.prog 24 #[.agg #[.int .i64 c, .slice a n k], .int .i64 cc, .int .i64 nn] w fun e w' => e = .returned (.tuple #[.slice none 0 0, .int .i64 350]) ∧ Ext w w' :=
 (History_c k cc nn w H e0 hRl).mono fun _ _ ⟨a', n', k', er, he, hO, hE⟩ => by
  rw [ho] at hO
  obtain ⟨rfl, rfl, rfl, rfl⟩ := hO.n
  exact ⟨he, hE⟩
end Go.Proofs.YtfmoabgjaclkpaaGreatDoor

namespace Go.Proofs.YtfmoabgjaclkpaaGreatDoor
namespace Wire
def byt (y : Nat) : UInt8 := if y < 128 then UInt8.ofNat y else UInt8.ofNat (y % 128 + 128)
def vbF : Nat → Nat → List UInt8
 | 0, z => [byt z]
 | f + 1, z => if z < 128 then [byt z] else byt z :: vbF f (z / 128)
def vb (z : Nat) : List UInt8 := vbF 9 z
theorem vbF_pos : ∀ f z, 0 < (vbF f z).length
 | 0, _ => by simp [vbF]
 | f + 1, z => by unfold vbF; split <;> simp
theorem vbF_at : ∀ (f z : Nat), z < 128 ^ (f + 1) → ∀ i, i < (vbF f z).length → (vbF f z)[i]? = some (byt (z / 128 ^ i)) ∧ (i + 1 < (vbF f z).length ↔ 128 ≤ z / 128 ^ i)
  | 0, z, hz, i, hi => by
    simp [vbF] at hi ⊢; subst hi; simp at hz ⊢; omega
  | f + 1, z, hz, i, hi => by
    unfold vbF at hi ⊢
    by_cases h : z < 128
    · rw [if_pos h] at hi ⊢
      simp at hi; subst hi; simp; omega
    · rw [if_neg h] at hi ⊢
      have h0 := vbF_pos f (z / 128)
      cases i with
      | zero => simp; exact ⟨fun _ => by omega, fun _ => h0⟩
      | succ i =>
        have hz' : z / 128 < 128 ^ (f + 1) := by rw [Nat.div_lt_iff_lt_mul (by decide)]; rw [Nat.pow_succ] at hz; exact hz
        have ih := vbF_at f (z / 128) hz' i (by simpa using hi)
        rw [Nat.div_div_eq_div_mul, show 128 * 128 ^ i = 128 ^ (i + 1) by rw [Nat.pow_succ, Nat.mul_comm]] at ih
        simpa using ih
theorem vb_pos (z : Nat) : 0 < (vb z).length := vbF_pos 9 z
theorem vb_at {z i : Nat} (hz : z < 9223372036854775808) (hi : i < (vb z).length) : (vb z)[i]? = some (byt (z / 128 ^ i)) ∧ (i + 1 < (vb z).length ↔ 128 ≤ z / 128 ^ i) :=
 vbF_at 9 z (Nat.lt_trans hz (by decide)) i hi
theorem vbF_len : ∀ (f z : Nat), (vbF f z).length ≤ f + 1
 | 0, _ => by simp [vbF]
 | f + 1, z => by
  unfold vbF; split
  · simp
  · have := vbF_len f (z / 128); simp; omega
theorem vb_len (z : Nat) : (vb z).length ≤ 10 := vbF_len 9 z
theorem vb_last {z i : Nat} (hz : z < 9223372036854775808) (hi : i < (vb z).length) : i + 1 = (vb z).length ↔ z / 128 ^ i < 128 := by
 have := (vb_at hz hi).2; omega
theorem vb_take {z i : Nat} (hz : z < 9223372036854775808) (hi : i < (vb z).length) : (vb z).take (i + 1) = (vb z).take i ++ [byt (z / 128 ^ i)] := by rw [List.take_add_one, (vb_at hz hi).1]; rfl
theorem vb_small {z i : Nat} (_hz : z < 9223372036854775808) (hi : i < (vb z).length) : i < 10 := Nat.lt_of_lt_of_le hi (vb_len z)
def val : List UInt8 → Nat
 | [] => 0
 | b :: l => b.toNat % 128 + 128 * val l
def Chain : List UInt8 → Prop
 | [] => False
 | [b] => b.toNat < 128
 | b :: c :: l => 128 ≤ b.toNat ∧ Chain (c :: l)
def okLast (l : List UInt8) : Prop := l.length = 1 ∨ (l.getLast?.map UInt8.toNat) ≠ some 0
theorem byt_small {y : Nat} (h : y < 128) : (byt y).toNat = y := by unfold byt; rw [if_pos h]; simp; omega
theorem byt_big {y : Nat} (h : ¬ y < 128) : (byt y).toNat = y % 128 + 128 := by unfold byt; rw [if_neg h]; simp; omega
theorem toNat_inj {a b : UInt8} (h : a.toNat = b.toNat) : a = b := UInt8.toNat_inj.1 h
theorem val_pos : ∀ {l : List UInt8}, Chain l → okLast l → 1 < l.length → 128 ≤ val l
  | [], h, _, _ => h.elim
  | [b], _, _, h => by simp at h
  | [b, c], h, ho, _ => by
    obtain ⟨h1, h2⟩ := h
    have h2 : c.toNat < 128 := h2
    rcases ho with q | q
    · simp at q
    · simp at q
      have : c.toNat ≠ 0 := q
      simp only [val]; omega
  | b :: c :: d :: l, h, ho, _ => by
    have ih := val_pos (l := c :: d :: l) h.2 (by
      rcases ho with q | q
      · simp at q
      · exact .inr (by simpa using q)) (by simp)
    rw [val]; omega
theorem canon : ∀ (f : Nat) {l : List UInt8}, Chain l → okLast l → l.length ≤ f + 1 → vbF f (val l) = l
 | _, [], h, _, _ => h.elim
 | 0, [b], h, _, _ => by
  have h : b.toNat < 128 := h
  have e : val [b] = b.toNat := by simp [val]; omega
  rw [e, vbF]; exact congrArg (· :: []) (toNat_inj (byt_small h))
 | f + 1, [b], h, _, _ => by
  have h : b.toNat < 128 := h
  have e : val [b] = b.toNat := by simp [val]; omega
  rw [e, vbF, if_pos h]; exact congrArg (· :: []) (toNat_inj (byt_small h))
 | 0, b :: c :: l, _, _, hl => by simp at hl
 | f + 1, b :: c :: l, h, ho, hl => by
  have hb := b.toNat_lt
  have h1 := h.1
  have hv := val_pos h ho (by simp)
  have e : val (b :: c :: l) = b.toNat % 128 + 128 * val (c :: l) := rfl
  have ho' : okLast (c :: l) := by
   rcases ho with q | q
   · simp at q
   · exact .inr (by simpa using q)
  rw [vbF, if_neg (by omega)]
  have e1 : byt (val (b :: c :: l)) = b := toNat_inj (by rw [byt_big (by omega), e]; omega)
  have e2 : val (b :: c :: l) / 128 = val (c :: l) := by rw [e]; omega
  rw [e1, e2, canon f h.2 ho' (by simpa using hl)]
theorem vbF_chain : ∀ (f z : Nat), z < 128 ^ (f + 1) → Chain (vbF f z) ∧ val (vbF f z) = z ∧ okLast (vbF f z)
  | 0, z, hz => by
    have hz : z < 128 := by simpa using hz
    unfold vbF
    exact ⟨(by show (byt z).toNat < 128; rw [byt_small hz]; exact hz), (by simp [val, byt_small hz]; omega), .inl rfl⟩
  | f + 1, z, hz => by
    unfold vbF
    by_cases h : z < 128
    · rw [if_pos h]
      exact ⟨(by show (byt z).toNat < 128; rw [byt_small h]; exact h), (by simp [val, byt_small h]; omega), .inl rfl⟩
    · rw [if_neg h]
      have hz' : z / 128 < 128 ^ (f + 1) := by rw [Nat.div_lt_iff_lt_mul (by decide)]; rw [Nat.pow_succ] at hz; exact hz
      obtain ⟨i1, i2, i3⟩ := vbF_chain f (z / 128) hz'
      refine ⟨?_, ?_, .inr ?_⟩
      · have h0 := vbF_pos f (z / 128)
        cases hq : vbF f (z / 128) with
        | nil => rw [hq] at h0; simp at h0
        | cons c l => rw [hq] at i1; exact ⟨by rw [byt_big h]; omega, i1⟩
      · rw [val, i2, byt_big h]; omega
      · have h0 := vbF_pos f (z / 128)
        rw [List.getLast?_cons_of_ne_nil (List.ne_nil_of_length_pos h0)]
        rcases i3 with q | q
        · cases hq : vbF f (z / 128) with
          | nil => rw [hq] at h0; simp at h0
          | cons c l =>
            rw [hq] at q i2; simp at q; subst q
            have hc : c.toNat % 128 + 128 * 0 = z / 128 := i2
            simp
            intro e
            have e : c.toNat = 0 := by rw [e]
            omega
        · exact q
def zz (n : Int) : Nat := if n < 0 then (2 * (-n) - 1).toNat else (2 * n).toNat
def uz (z : Nat) : Int := if z % 2 = 1 then -((z / 2 : Nat) : Int) - 1 else ((z / 2 : Nat) : Int)
theorem zz_uz (z : Nat) : zz (uz z) = z := by unfold zz uz; split <;> split <;> omega
def fits (n : Int) : Prop := -4611686018427387903 ≤ n ∧ n ≤ 4611686018427387903
theorem fits_zz {n : Int} (h : fits n) : zz n < 9223372036854775807 := by unfold fits at h; unfold zz; split <;> omega
theorem fits_uz {z : Nat} (h : z < 9223372036854775807) : fits (uz z) := by unfold fits uz; split <;> omega
theorem not_fits {z : Nat} (h1 : ¬ z < 9223372036854775807) (h2 : z < 9223372036854775808) : ¬ fits (uz z) := by
 obtain rfl : z = 9223372036854775807 := by omega
 unfold fits uz; simp
def encI (n : Int) : ByteArray := ⟨(vb (zz n)).toArray⟩
def bytes (s : ByteArray) : List UInt8 := s.data.toList
theorem bytes_len (s : ByteArray) : (bytes s).length = s.size := by unfold bytes; simp
theorem bytes_encI (n : Int) : bytes (encI n) = vb (zz n) := rfl
theorem bytes_eq {a b : ByteArray} (h : bytes a = bytes b) : a = b := by
 cases a; cases b; unfold bytes at h; simp at h; rw [h]
theorem bytes_ext (s : ByteArray) (i j : Nat) : bytes (s.extract i j) = (bytes s).extract i j := by unfold bytes; simp
def scan (s : List UInt8) (a : Nat) : Nat → Nat → Nat → Option (Nat × Nat)
 | 0, _, _ => none
 | k + 1, i, z => match s[a + i]? with
  | none => none
  | some b => if b.toNat < 128 then (if b.toNat = 0 ∧ 0 < i then none else some (z + b.toNat % 128 * 128 ^ i, i)) else scan s a k (i + 1) (z + b.toNat % 128 * 128 ^ i)
def rdI (s : List UInt8) (a : Nat) : Option (Int × Nat) := match scan s a 9 0 0 with
 | none => none
 | some (z, i) => if z < 9223372036854775807 then some (uz z, a + i + 1) else none
theorem scan_is {s : List UInt8} {a : Nat} : ∀ (k i z : Nat) {z' j : Nat}, scan s a k i z = some (z', j) → i ≤ j ∧ j < i + k ∧ a + j < s.length ∧ Chain (s.extract (a + i) (a + j + 1)) ∧ z' = z + 128 ^ i * val (s.extract (a + i) (a + j + 1)) ∧ (j = 0 ∨ ∃ b, s[a + j]? = some b ∧ b.toNat ≠ 0)
  | 0, _, _, _, _, h => by cases h
  | k + 1, i, z, z', j, h => by
    unfold scan at h
    cases hb : s[a + i]? with
    | none => rw [hb] at h; cases h
    | some b =>
      rw [hb] at h
      have hi := (List.getElem?_eq_some_iff.1 hb).1
      have hcons : ∀ m, a + i < m → s.extract (a + i) m = b :: s.extract (a + i + 1) m := fun m hm => by
        obtain ⟨_, e⟩ := List.getElem?_eq_some_iff.1 hb
        rw [List.extract_eq_take_drop, List.drop_eq_getElem_cons hi, e, show m - (a + i) = (m - (a + i + 1)) + 1 by omega, List.take_succ_cons, List.extract_eq_take_drop]
      dsimp only at h
      by_cases h1 : b.toNat < 128
      · rw [if_pos h1] at h
        by_cases h2 : b.toNat = 0 ∧ 0 < i
        · rw [if_pos h2] at h; cases h
        · rw [if_neg h2] at h
          injection h with h; injection h with h3 h4
          subst h3 h4
          have e : s.extract (a + i) (a + i + 1) = [b] := by rw [hcons _ (by omega), List.extract_eq_take_drop]; simp
          refine ⟨Nat.le_refl _, by omega, hi, by rw [e]; exact h1, by rw [e]; simp [val, Nat.mul_comm], ?_⟩
          by_cases h0 : i = 0
          · exact .inl h0
          · exact .inr ⟨b, hb, by omega⟩
      · rw [if_neg h1] at h
        obtain ⟨g1, g2, g3, g4, g5, g6⟩ := scan_is k (i + 1) _ h
        rw [show a + (i + 1) = a + i + 1 by omega] at g4 g5
        have e := hcons (a + j + 1) (by omega)
        refine ⟨by omega, by omega, g3, ?_, ?_, g6⟩
        · rw [e]
          cases hq : s.extract (a + i + 1) (a + j + 1) with
          | nil => rw [hq] at g4; exact g4.elim
          | cons c l => rw [hq] at g4; exact ⟨by omega, g4⟩
        · rw [e, g5, val, Nat.pow_succ, Nat.mul_add, Nat.mul_comm (b.toNat % 128), Nat.mul_assoc, Nat.add_assoc]
theorem ext_len (s : List UInt8) (i j : Nat) (h : j ≤ s.length) : (s.extract i j).length = j - i := by rw [List.extract_eq_take_drop]; simp; omega
theorem ext_get {s : List UInt8} {i j q : Nat} (h : q < j - i) : (s.extract i j)[q]? = s[i + q]? := by
 rw [List.extract_eq_take_drop, List.getElem?_take, if_pos h, List.getElem?_drop]
theorem rdI_is {s : List UInt8} {a : Nat} {n : Int} {nx : Nat} (h : rdI s a = some (n, nx)) : a < nx ∧ nx ≤ s.length ∧ s.extract a nx = vb (zz n) ∧ fits n := by
  unfold rdI at h
  cases hs : scan s a 9 0 0 with
  | none => rw [hs] at h; cases h
  | some p =>
    obtain ⟨z, i⟩ := p
    rw [hs] at h
    by_cases hz : z < 9223372036854775807
    · simp only [if_pos hz] at h
      injection h with h; injection h with h1 h2
      subst h1 h2
      obtain ⟨g1, g2, g3, g4, g5, g6⟩ := scan_is 9 0 0 hs
      rw [Nat.pow_zero, Nat.one_mul, Nat.zero_add, Nat.add_zero] at g5
      rw [Nat.add_zero] at g4
      refine ⟨by omega, by omega, ?_, fits_uz hz⟩
      rw [zz_uz, g5]
      refine (canon 9 g4 ?_ (by rw [ext_len _ _ _ (by omega)]; omega)).symm
      rcases g6 with g6 | ⟨b, g6, g7⟩
      · exact .inl (by rw [ext_len _ _ _ (by omega)]; omega)
      · refine .inr ?_
        rw [List.getLast?_eq_getElem?, ext_len _ _ _ (by omega), ext_get (by omega), show a + (a + i + 1 - a - 1) = a + i by omega, g6]
        simpa using g7
    · simp only [if_neg hz] at h; cases h
end Wire
end Go.Proofs.YtfmoabgjaclkpaaGreatDoor

namespace Go.Proofs.YtfmoabgjaclkpaaGreatDoor
open Go.RowKit
theorem wrap_u64n {a : Nat} (h : a < 18446744073709551616) : IntKind.u64.wrap (a : Int) = a := by rw [IntKind.wrap_u64]; omega
theorem wrap_u8n {a : Nat} (h : a < 256) : IntKind.u8.wrap (a : Int) = a := by rw [IntKind.wrap_u8]; omega
theorem ofI {n : Nat} {a : Nat} (h : a < 2 ^ n) : (BitVec.ofInt n (a : Int)).toNat = a := by
 rw [BitVec.toNat_ofInt]
 have : (a : Int) % ((2 ^ n : Nat) : Int) = ((a % 2 ^ n : Nat) : Int) := rfl
 rw [this, Nat.mod_eq_of_lt h]; rfl
section
variable {P : Program} {w : World} {t : TypeId}
theorem and_64 {a b c : Nat} (ha : a < 18446744073709551616) (hb : b < 18446744073709551616) (h : a &&& b = c) : (binOp .and t (.int .u64 (a : Int)) (.int .u64 (b : Int))).run P w = .ok (.int .u64 (c : Int)) w := by
 have e : (BitVec.ofInt IntKind.u64.bits (a : Int) &&& BitVec.ofInt IntKind.u64.bits (b : Int)).toNat = c := by rw [BitVec.toNat_and, ofI ha, ofI hb, h]
 have hc : c < 18446744073709551616 := by rw [← h]; exact Nat.lt_of_le_of_lt Nat.and_le_left ha
 simp only [binOp, Op.intBits, e, wrap_u64n hc]; rfl
theorem or_64 {a b c : Nat} (ha : a < 18446744073709551616) (hb : b < 18446744073709551616) (h : a ||| b = c) : (binOp .or t (.int .u64 (a : Int)) (.int .u64 (b : Int))).run P w = .ok (.int .u64 (c : Int)) w := by
 have e : (BitVec.ofInt IntKind.u64.bits (a : Int) ||| BitVec.ofInt IntKind.u64.bits (b : Int)).toNat = c := by rw [BitVec.toNat_or, ofI ha, ofI hb, h]
 have hc : c < 18446744073709551616 := by rw [← h]; exact Nat.or_lt_two_pow (n := 64) ha hb
 simp only [binOp, Op.intBits, e, wrap_u64n hc]; rfl
theorem xor_64 {a b c : Nat} (ha : a < 18446744073709551616) (hb : b < 18446744073709551616) (h : a ^^^ b = c) : (binOp .xor t (.int .u64 (a : Int)) (.int .u64 (b : Int))).run P w = .ok (.int .u64 (c : Int)) w := by
 have e : (BitVec.ofInt IntKind.u64.bits (a : Int) ^^^ BitVec.ofInt IntKind.u64.bits (b : Int)).toNat = c := by rw [BitVec.toNat_xor, ofI ha, ofI hb, h]
 have hc : c < 18446744073709551616 := by rw [← h]; exact Nat.xor_lt_two_pow (n := 64) ha hb
 simp only [binOp, Op.intBits, e, wrap_u64n hc]; rfl
theorem and_8 {a b c : Nat} (ha : a < 256) (hb : b < 256) (h : a &&& b = c) : (binOp .and t (.int .u8 (a : Int)) (.int .u8 (b : Int))).run P w = .ok (.int .u8 (c : Int)) w := by
 have e : (BitVec.ofInt IntKind.u8.bits (a : Int) &&& BitVec.ofInt IntKind.u8.bits (b : Int)).toNat = c := by rw [BitVec.toNat_and, ofI ha, ofI hb, h]
 have hc : c < 256 := by rw [← h]; exact Nat.lt_of_le_of_lt Nat.and_le_left ha
 simp only [binOp, Op.intBits, e, wrap_u8n hc]; rfl
theorem or_8 {a b c : Nat} (ha : a < 256) (hb : b < 256) (h : a ||| b = c) : (binOp .or t (.int .u8 (a : Int)) (.int .u8 (b : Int))).run P w = .ok (.int .u8 (c : Int)) w := by
 have e : (BitVec.ofInt IntKind.u8.bits (a : Int) ||| BitVec.ofInt IntKind.u8.bits (b : Int)).toNat = c := by rw [BitVec.toNat_or, ofI ha, ofI hb, h]
 have hc : c < 256 := by rw [← h]; exact Nat.or_lt_two_pow (n := 8) ha hb
 simp only [binOp, Op.intBits, e, wrap_u8n hc]; rfl
theorem and_127 (a : Nat) : a &&& 127 = a % 128 := Nat.and_two_pow_sub_one_eq_mod a 7
theorem and_1 (a : Nat) : a &&& 1 = a % 2 := Nat.and_two_pow_sub_one_eq_mod a 1
theorem or_128 {a : Nat} (h : a < 128) : a ||| 128 = a + 128 := by
 have := Nat.two_pow_add_eq_or_of_lt (i := 7) (show a < 2 ^ 7 from h) 1
 rw [Nat.or_comm, ← this]; omega
theorem or_shift {a b i : Nat} (h : a < 2 ^ i) : a ||| b * 2 ^ i = a + b * 2 ^ i := by
 have := Nat.two_pow_add_eq_or_of_lt h b
 rw [Nat.or_comm, Nat.mul_comm b, ← this]; omega
theorem shl_64 {S n c : Nat} {q : IntKind} (hn : n ≤ 64) (h : S * 2 ^ n = c) (hc : c < 18446744073709551616) : (binOp .shl t (.int .u64 (S : Int)) (.int q (n : Int))).run P w = .ok (.int .u64 (c : Int)) w := by
 have e : (S : Int) * 2 ^ n = ((c : Nat) : Int) := by rw [← h]; simp
 simp only [binOp, Op.shift, IntKind.bits, if_neg (show ¬ ((n : Int) < 0) by omega), show min (n : Int).toNat 64 = n by omega, e, wrap_u64n hc]; rfl
theorem shr_64 {S n : Nat} {q : IntKind} (hn : n ≤ 64) : (binOp .shr t (.int .u64 (S : Int)) (.int q (n : Int))).run P w = .ok (.int .u64 ((S / 2 ^ n : Nat) : Int)) w := by
 have e : (S : Int).fdiv (2 ^ n) = ((S / 2 ^ n : Nat) : Int) := by rw [Int.fdiv_eq_ediv_of_nonneg _ (by have : (0 : Int) < 2 ^ n := Int.pow_pos (by decide); omega)]; simp
 simp only [binOp, Op.shift, IntKind.bits, if_neg (show ¬ ((n : Int) < 0) by omega), show min (n : Int).toNat 64 = n by omega, e]; rfl
theorem shr_sign {n : Int} {q : IntKind} (h0 : 0 ≤ n) (h1 : n < 9223372036854775808) : (binOp .shr t (.int .i64 n) (.int q 63)).run P w = .ok (.int .i64 0) w := by
 have e : n.fdiv (2 ^ 63) = 0 := by rw [Int.fdiv_eq_ediv_of_nonneg _ (by decide)]; omega
 simp only [binOp, Op.shift, IntKind.bits, if_neg (show ¬ ((63 : Int) < 0) by decide), show min (63 : Int).toNat 64 = 63 by decide, e]; rfl
theorem xor_sign {z : Nat} (hz : z < 9223372036854775808) : (binOp .xor t (.int .i64 ((z / 2 : Nat) : Int)) (.int .i64 (-((z % 2 : Nat) : Int)))).run P w = .ok (.int .i64 (Wire.uz z)) w := by
  have ha : z / 2 < 2 ^ 64 := Nat.lt_trans (show z / 2 < 9223372036854775808 by omega) (by decide)
  rcases Nat.mod_two_eq_zero_or_one z with q | q
  · have e : (BitVec.ofInt IntKind.i64.bits ((z / 2 : Nat) : Int) ^^^ BitVec.ofInt IntKind.i64.bits (-((z % 2 : Nat) : Int))).toNat = z / 2 := by
      show (BitVec.ofInt 64 ((z / 2 : Nat) : Int) ^^^ BitVec.ofInt 64 (-((z % 2 : Nat) : Int))).toNat = z / 2
      rw [q, BitVec.toNat_xor, ofI ha]; simp
    simp only [binOp, Op.intBits, e]
    rw [show IntKind.i64.wrap ((z / 2 : Nat) : Int) = Wire.uz z by unfold Wire.uz; rw [if_neg (by omega), IntKind.wrap_i64]; omega]; rfl
  · have e : (BitVec.ofInt IntKind.i64.bits ((z / 2 : Nat) : Int) ^^^ BitVec.ofInt IntKind.i64.bits (-((z % 2 : Nat) : Int))).toNat = 18446744073709551615 - z / 2 := by
      show (BitVec.ofInt 64 ((z / 2 : Nat) : Int) ^^^ BitVec.ofInt 64 (-((z % 2 : Nat) : Int))).toNat = 18446744073709551615 - z / 2
      rw [q, show -((1 : Nat) : Int) = -1 by rfl, show BitVec.ofInt 64 (-1) = BitVec.allOnes 64 by decide, BitVec.xor_allOnes, BitVec.toNat_not, ofI ha]
    simp only [binOp, Op.intBits, e]
    rw [show IntKind.i64.wrap ((18446744073709551615 - z / 2 : Nat) : Int) = Wire.uz z by unfold Wire.uz; rw [if_pos q, IntKind.wrap_i64]; omega]; rfl
end
def byteR : Rep UInt8 where
 rel _ c x F := c = [.int .u8 (x.toNat : Int)] ∧ F = []
 keep := fun h _ => h
 lt := by rintro w c x F ⟨_, rfl⟩ b hb; cases hb
theorem byteT : ElemT Tryz.prog 63 5 (.int .u8 0) 1 1 := ⟨Tryz.underlying63, by kernel_rfl, rfl, by decide⟩
set_option maxRecDepth 100000 in
theorem own_str {n₀ e n c : Nat} {a : Option Addr} {w : World} {l : List UInt8} (h : OwnL byteR n₀ e 1 (.slice a n c) w l) (hl : l.length = n) : (convert 63 9 (.slice a n c)).run Tryz.prog w = .ok (.string ⟨l.toArray⟩) w := by
  obtain ⟨cs, h1, h2, h3, h4⟩ := h
  rcases h3.2 with ⟨q, z⟩ | ⟨g, cap, cur, q, _⟩
  · injection q with q1 q2 q3
    obtain rfl := List.eq_nil_of_length_eq_zero (show l.length = 0 by omega)
    rw [q1]
    exact run_convert_bytes_nil w 63 5 Tryz.underlying63 Tryz.underlying5 _ _ _ Tryz.underlying9
  · injection q with q1 q2 q3
    subst q1 hl q3
    refine run_convert_bytes_back w 63 9 5 ⟨g, 0, none⟩ c l Tryz.underlying63 Tryz.underlying5 Tryz.underlying9 fun j hj => ?_
    rw [Addr.add_mid, Nat.zero_add]
    have hc := List.getElem?_eq_getElem (l := cs) (i := j) (by omega)
    obtain ⟨F, ⟨e1, _⟩, _⟩ := h4 j _ _ (List.getElem?_eq_getElem hj) hc
    have f := flatten_get h2 j hc 0 (by omega)
    rw [e1, Nat.mul_one, Nat.add_zero] at f
    have hz := h3.cellAt j (by omega)
    rw [hz]; exact f
theorem ex_conv {P : Program} {ev : Operand → Value} {o : Oper} {w X : World} {s d : TypeId} {x : Operand} {a v : Value} (hop : o.op = .convert s d x) (hx : ev x = a) (h : (convert s d a).run P w = .ok v X) : (execOp ev o).run P w = .ok (.value v) X := by
 simp [execOp, hop, hx, h, Result.andThen]
theorem Turns.nc {O : Nat} {w X : World} (t : Turns O w X) {k : Nat} {o : Obj} (h : w.heap[k]? = some o) (hc : o.isCells = false) : X.heap[k]? = some o := by
 by_cases e : k = O
 · subst e; exact t.oth' o h hc
 · rw [t.heap' k e]; exact h
def SeqT (P : Program) (g : Nat) (lb : Array Value) (N : Nat) (encs : Nat → List Value) (Φ : Nat → World → Prop) (X : Nat → Prop) (B : Nat) (w : World) : Prop :=
 ∀ (l : Nat) (J Jx : Nat → World → Prop) (W : World), Ext w W → (∀ i A B, J i A → Ext A B → J i B) → (∀ i A B, Jx i A → Ext A B → Jx i B) → (∀ i A C, J i A → Turns B A C → J i C) → (∀ i A C, Jx i A → Turns B A C → Jx i C) →
  (∀ i W1 m, i < N → J i W1 → Φ i W1 → YieldAt Fence.wide m P l (encs i).toArray W1 fun e W' => (e = .returned (.bool true) ∧ J (i + 1) W' ∧ KeptX X W1 W') ∨ (e = .returned (.bool false) ∧ Jx i W' ∧ KeptX X W1 W')) →
  J 0 W → ∀ n, CallsIn Fence.wide n P g (#[.func (.yield l) #[] #[]] ++ lb) W fun e W' => (∃ v, e = .returned v) ∧ (J N W' ∨ ∃ i, i < N ∧ Jx i W')
section
variable {P : Program} {n : Nat} {L : List Value} {ws : List (Nat × Value)} {w : World} {Q : Exit → Act → World → Prop} {r : Option Nat} {m : Nat} {Ds : List Nat}
theorem icw_rangeT {g : Operand} {ps : List Nat} {assign body : Code} {gf : Nat} {lb : Array Value} (hg : evalW L ws g = .func (.func gf) #[] lb) (eg : ∀ args w, (callFunc gf args).run P w = .ok (.enter gf args) w)
    {N : Nat} {encs : Nat → List Value} {Φ : Nat → World → Prop} {X : Nat → Prop} {w0 : World} {TB : Nat} (hseq : SeqT P gf lb N encs Φ X TB w0) (hb0 : Ext w0 w) (hps : ∀ i, (encs i).length = ps.length) (hpn : ps.all (fun p => Nat.blt p n) = true)
    (Inv : Nat → World → Prop) (Ix : Code → Nat → World → Prop) (hI : ∀ i A B, Inv i A → Mv w.heap.size A B → Inv i B) (hIx : ∀ c i A B, Ix c i A → Mv w.heap.size A B → Ix c i B) (hT : ∀ i A B, Inv i A → Turns TB A B → Inv i B) (hTx : ∀ c i A B, Ix c i A → Turns TB A B → Ix c i B) (h0 : Inv 0 w)
    (round : ∀ l k i W, i < N → Inv i W → Φ i W → ICW P (some l) k [] assign (AsgQ P l k w.heap.size X body Inv Ix i W) n L (zipW ps (encs i) ws) W)
    (done : ∀ D W, w.heap.size ≤ D → D < W.heap.size → Inv N W → W.heap[D]? = some (.deferred (some [])) → IQW (D :: Ds) Q .normal n L ws W)
    (stop : ∀ c D i W, w.heap.size ≤ D → D < W.heap.size → i < N → Ix c i W → W.heap[D]? = some (.deferred (some [])) → ICW P none m (D :: Ds) c Q n L ws W) :
    ICW P none m Ds (.rangeFunc g ps.toArray assign body) Q n L ws w := ⟨fun b => by
  have hgv : Act.eval ⟨(setAll L ws).toArray, marks Ds⟩ g = .func (.func gf) #[] lb := by rw [eval_W b.lt]; exact hg
  show (Code.rangeFunc g ps.toArray assign body).wpIn Fence.wide m P Q ⟨(setAll L ws).toArray, marks Ds⟩ w
  refine wpIn_rangeFunc fun fn hfn => ?_
  let R := recOf ⟨(setAll L ws).toArray, marks Ds⟩ ps.toArray assign body fn w.heap.size
  let W1 := (w.alloc (.deferred (some []))).alloc (.loop (R .ready none))
  have sz : W1.heap.size = w.heap.size + 2 := by simp [W1]
  have hL1 : W1.heap[w.heap.size + 1]? = some (.loop (R .ready none)) := by
    have := World.alloc_heap_new (w.alloc (.deferred (some []))) (.loop (R .ready none))
    rwa [World.size_alloc] at this
  have Bc : W1.heap[w.heap.size]? = some (.deferred (some [])) := (Below.heap_alloc _ _ _ (by simp)).trans (World.alloc_heap_new w _)
  have B8 : Ext w W1 := ((Ext.refl w).alloc _).alloc _
  refine ⟨w.heap.size + 1, [{ target := .collected w.heap.size, args := #[] }], W1, { target := .fn (.func gf) lb, args := #[.func (.yield (w.heap.size + 1)) #[] #[]] }, W1, gf, #[.func (.yield (w.heap.size + 1)) #[] #[]] ++ lb, W1,
    run_enterLoop_outer _ _ _ _ _, ?_, fun _ _ => trivial, by simp [invoke, go_sem, eg], fun h => by simp [Fence.wide] at h, ?_⟩
  · have hgv' : Act.eval ⟨(setAll L ws).toArray, marks Ds⟩ g = .func (.func gf) #[] lb := hgv
    simp only [resolve, hgv']; simp [go_sem]
  refine (hseq (w.heap.size + 1)
    (fun i W => Inv i W ∧ W.heap[w.heap.size + 1]? = some (.loop (R .ready none)) ∧ W.heap[w.heap.size]? = some (.deferred (some [])))
    (fun i W => ∃ c, Ix c i W ∧ W.heap[w.heap.size + 1]? = some (.loop (R .done (some c))) ∧ W.heap[w.heap.size]? = some (.deferred (some [])))
    W1 (hb0.trans B8)
    (fun i A B hs e => ⟨hI i A B hs.1 (Mv.of_ext e), (e.block _ (Array.getElem?_eq_some_iff.1 hs.2.1).1).trans hs.2.1, (e.block _ (Array.getElem?_eq_some_iff.1 hs.2.2).1).trans hs.2.2⟩)
    (fun i A B ⟨c, h1, h2, h3⟩ e => ⟨c, hIx c i A B h1 (Mv.of_ext e), (e.block _ (Array.getElem?_eq_some_iff.1 h2).1).trans h2, (e.block _ (Array.getElem?_eq_some_iff.1 h3).1).trans h3⟩)
    (fun i A B hs t => ⟨hT i A B hs.1 t, t.nc hs.2.1 rfl, t.nc hs.2.2 rfl⟩)
    (fun i A B ⟨c, h1, h2, h3⟩ t => ⟨c, hTx c i A B h1 t, t.nc h2 rfl, t.nc h3 rfl⟩)
    ?_ ⟨hI 0 w W1 h0 (Mv.of_ext B8), hL1, Bc⟩ _).mono ?_
  · rintro i W k hi ⟨hInv, hl, hk⟩ hx
    have hlt := (Array.getElem?_eq_some_iff.1 hl).1
    have hsz : (encs i).toArray.size = ps.toArray.size := by simp [hps i]
    refine ⟨fn, _, assign, body, run_yield (P := P) (args := (encs i).toArray) hl hsz, roundIn_of_wpIn (F := Fence.wide) hfn ?_⟩
    have hround := (round (w.heap.size + 1) k i W hi hInv hx).out (zip_bd b hpn)
    have e0 : (⟨(setAll L (zipW ps (encs i) ws)).toArray, marks []⟩ : Act) = { tmps := (ps.toArray.zip (encs i).toArray).foldl (fun t (p, v) => t.setIfInBounds p v) (setAll L ws).toArray, defers := [] } := by rw [zip_set]; rfl
    rw [e0] at hround
    refine Go.wpIn_mono hround fun e a1 w1 hp => ?_
    cases e with
    | normal =>
      obtain ⟨B3, hbody⟩ := hp
      have B4 := B3.oth.same _ _ (by omega) hl rfl
      have hkk := B3.oth.same _ _ (Nat.le_refl _) hk rfl
      have B7 := (Array.getElem?_eq_some_iff.1 B4).1
      refine ⟨_, run_beginRound B4 rfl, ?_⟩
      let W2 := w1.putObj (w.heap.size + 1) (.loop (R .busy none))
      have Ba : Mv w.heap.size w1 W2 := Mv.putObj _ (by omega) B4 rfl
      have Bf : W2.heap[w.heap.size + 1]? = some (.loop (R .busy none)) := World.putObj_heap_same B7
      have Be : W2.heap[w.heap.size]? = some (.deferred (some [])) := (World.putObj_heap_other (by omega)).trans hkk
      have leave : ∀ (jump : Option Code) (W3 : World), RK w.heap.size X W2 W3 →
          W3.heap[w.heap.size + 1]? = some (.loop (R .busy none)) ∧
          (Instr.endRound (w.heap.size + 1) jump).run P W3 = .ok (.bool jump.isNone) (W3.putObj (w.heap.size + 1) (.loop (R (if jump.isNone then .ready else .done) jump))) ∧
          (W3.putObj (w.heap.size + 1) (.loop (R (if jump.isNone then .ready else .done) jump))).heap[w.heap.size + 1]? = some (.loop (R (if jump.isNone then .ready else .done) jump)) ∧
          (W3.putObj (w.heap.size + 1) (.loop (R (if jump.isNone then .ready else .done) jump))).heap[w.heap.size]? = some (.deferred (some [])) ∧
          Mv w.heap.size W3 (W3.putObj (w.heap.size + 1) (.loop (R (if jump.isNone then .ready else .done) jump))) ∧ KeptX X W (W3.putObj (w.heap.size + 1) (.loop (R (if jump.isNone then .ready else .done) jump))) := fun jump W3 h3 => by
        have B0 := h3.oth.same _ _ (by omega) Bf rfl
        have Bb : Mv w.heap.size W3 (W3.putObj (w.heap.size + 1) (.loop (R (if jump.isNone then .ready else .done) jump))) := Mv.putObj _ (by omega) B0 rfl
        exact ⟨B0, run_endRound (P := P) jump B0, World.putObj_heap_same (Array.getElem?_eq_some_iff.1 B0).1, (World.putObj_heap_other (by omega)).trans (h3.oth.same _ _ (Nat.le_refl _) Be rfl), Bb, ((B3.kept.trans (KeptX.of_mv Ba)).trans h3.kept).trans (KeptX.of_mv Bb)⟩
      refine Go.wpIn_mono (hbody W2 Ba) fun e a3 W3 hp => ?_
      cases e with
      | normal =>
        obtain ⟨h3, B2⟩ := hp
        obtain ⟨B0, hr, q1, q2, q3, q4⟩ := leave none W3 h3
        exact ⟨_, _, hr, .inl ⟨rfl, ⟨hI _ _ _ B2 q3, q1, q2⟩, q4⟩⟩
      | ret =>
        obtain ⟨h3, B2⟩ := hp
        obtain ⟨B0, hr, q1, q2, q3, q4⟩ := leave (some .ret) W3 h3
        exact ⟨_, _, hr, .inr ⟨rfl, ⟨_, hIx _ _ _ _ B2 q3, q1, q2⟩, q4⟩⟩
      | exit id =>
        obtain ⟨h3, B2⟩ := hp
        obtain ⟨B0, hr, q1, q2, q3, q4⟩ := leave (some (.exit id)) W3 h3
        exact ⟨_, _, hr, .inr ⟨rfl, ⟨_, hIx _ _ _ _ B2 q3, q1, q2⟩, q4⟩⟩
      | goto _ => exact hp.elim
      | panic _ => exact hp.elim
      | outgrown => exact hp.elim
    | exit _ => exact hp.elim
    | ret => exact hp.elim
    | goto _ => exact hp.elim
    | panic _ => exact hp.elim
    | outgrown => exact hp.elim
  · rintro e W2 ⟨⟨v, rfl⟩, (⟨hi, hl, hk⟩ | ⟨i, hiN, c, hi, hl, hk⟩)⟩
    · exact ⟨none, _, run_endLoop (P := P) hl (by simp [R, recOf]), (done w.heap.size _ (Nat.le_refl _) (by have := (Array.getElem?_eq_some_iff.1 hk).1; simpa using this) (hI _ _ _ hi (Mv.putObj _ (by omega) hl rfl)) ((World.putObj_heap_other (by omega)).trans hk)).out b⟩
    · exact ⟨some c, _, run_endLoop (P := P) hl (by simp [R, recOf]), (stop c w.heap.size i _ (Nat.le_refl _) (by have := (Array.getElem?_eq_some_iff.1 hk).1; simpa using this) hiN (hIx _ _ _ _ hi (Mv.putObj _ (by omega) hl rfl)) ((World.putObj_heap_other (by omega)).trans hk)).out b⟩⟩
end
end Go.Proofs.YtfmoabgjaclkpaaGreatDoor

namespace Go.Proofs.YtfmoabgjaclkpaaGreatDoor
set_option maxRecDepth 1000000
set_option maxHeartbeats 4000000
set_option synthInstance.maxHeartbeats 0
set_option synthInstance.maxSize 9999
open Go.RowKit
theorem ev_wrap8 {w : World} {r : Result Next} {a : Int} (h : r = .ok (.value (.int .u8 (IntKind.u8.wrap a))) w) (h0 : 0 ≤ a) (h1 : a < 256) : r = .ok (.value (.int .u8 a)) w := by
 have e : IntKind.u8.wrap a = a := by rw [IntKind.wrap_u8]; omega
 rw [h, e]
theorem ev_wrapI {w : World} {r : Result Next} {a : Int} (h : r = .ok (.value (.int .i64 (IntKind.i64.wrap a))) w) (h0 : -9223372036854775808 ≤ a) (h1 : a < 9223372036854775808) : r = .ok (.value (.int .i64 a)) w := by
 have e : IntKind.i64.wrap a = a := by rw [IntKind.wrap_i64]; omega
 rw [h, e]
theorem eqG_and {P : Program} {w : World} {t : TypeId} {x y : Operand} {a b : Value} : (eqGuard .and t x y a b).run P w = .ok () w := by simp [eqGuard]
theorem eqG_or {P : Program} {w : World} {t : TypeId} {x y : Operand} {a b : Value} : (eqGuard .or t x y a b).run P w = .ok () w := by simp [eqGuard]
theorem eqG_xor {P : Program} {w : World} {t : TypeId} {x y : Operand} {a b : Value} : (eqGuard .xor t x y a b).run P w = .ok () w := by simp [eqGuard]
theorem eqG_shl {P : Program} {w : World} {t : TypeId} {x y : Operand} {a b : Value} : (eqGuard .shl t x y a b).run P w = .ok () w := by simp [eqGuard]
def encG (z i : Nat) : List Value := [.int .u8 ((z / 128 ^ i % 128 : Nat) : Int), .bool (decide (z / 128 ^ i < 128))]
theorem yield_to {F : Fence} {m : Nat} {P : Program} {l : Nat} {xs bs : List Value} {W : World} {R : Ending → World → Prop} (h : YieldAt F m P l xs.toArray W R) (e : xs = bs) : YieldAt F m P l bs.toArray W R := e ▸ h
theorem div_step (z i : Nat) : z / 128 ^ i / 2 ^ 7 = z / 128 ^ (i + 1) := by
 show z / 128 ^ i / 128 = _
 rw [Nat.div_div_eq_div_mul, ← Nat.pow_succ]
theorem groups_c (z : Nat) (w : World) : Calls Tryz.prog 91 #[.int .u64 ((z : Nat) : Int)] w fun e w' => ∃ B, e = .returned (.func (.func 107) #[] #[pw B 0]) ∧ w.heap.size ≤ B ∧ BoxAt w' B 0 (.int .u64 ((z : Nat) : Int)) ∧ Ext w w' := by
 refine calls_cw 4 [(0, .int .u64 ((z : Nat) : Int))] Tryz.func91 rfl Tryz.ntmps91 (by kernel_rfl) (by kernel_rfl) (fun L => ?_);have hE := Ext.refl w;refine zc (zp (pS (sw 110 #[.int .u64 ((z : Nat) : Int)] ?_)));intro O1 X2 hzO1 hyO1 hb hbx;have bO1_0 := bq1 hbx;replace hE := hE.trans hb;have hs3 := hb.size;have lt4 := bO1_0.lt;refine pT (Value.nilFunc) ?_;refine zn (zc (zp (pD (.func (.func 107) #[] #[pw O1 0]) (.func (.func 107) #[] #[pw O1 0]) ?_)));refine zn (cw_ret (qw_ret [.func (.func 107) #[] #[pw O1 0]] rfl ⟨(by kernel_rfl), trivial⟩ ?_));exact ⟨O1, rfl, (Nat.le_of_eq hzO1), bO1_0, hE⟩
theorem groups_seq {z B : Nat} {X : Nat → Prop} {w1 : World} (hz : z < 9223372036854775808) (cB : BoxAt w1 B 0 (.int .u64 ((z : Nat) : Int))) (hBX : ¬ X B) :
  SeqT Tryz.prog 107 #[pw B 0] (Wire.vb z).length (encG z) (fun _ _ => True) X B w1 := by
 intro l9 J Jx w hW hJst hJxst hJT hJxT hY Bi n9;replace cB := cB.x hW;have hBl := cB.lt;refine icalls 18 [(1, pw B 0), (0, .func (.yield l9) #[] #[])] Tryz.func107 rfl Tryz.ntmps107 (by kernel_rfl) (by kernel_rfl) (fun L mm => ?_);have hE := Ext.refl w;refine icw_block ?_;have hJs := hJst _ _ _ Bi (Ext.refl _);have Bh : BoxAt w B 0 (.int .u64 ((z / 128 ^ 0 : Nat) : Int)) := by rw [Nat.pow_zero, Nat.div_one];exact cB
 refine icw_loop [0, 1] (fun ws' wr m => ∃ i : Nat, ws' = [(0, .func (.yield l9) #[] #[]), (1, pw B 0)] ∧ m = (Wire.vb z).length - i ∧ w.heap.size ≤ wr.heap.size ∧ BoxAt wr B 0 (.int .u64 ((z / 128 ^ i : Nat) : Int)) ∧ J i wr ∧ i < (Wire.vb z).length) (ws0 := [(0, .func (.yield l9) #[] #[]), (1, pw B 0)]) (by kernel_rfl) _ ⟨0, rfl, rfl, Nat.le_refl _, Bh, hJs, Wire.vb_pos z⟩ ?_;clear cB;rintro m3 L ws w2 ⟨i, rfl, rfl, Bo, B0, Bg, hi⟩;have Bs := Ext.refl w2;have hpt := (Wire.vb_last hz hi)
 by_cases hl : z / 128 ^ i < 128
 ·
  have hG : encG z i = [.int .u8 ((z / 128 ^ i % 128 : Nat) : Int), .bool true] := by unfold encG;rw [decide_eq_true hl]
  refine icw_block ?_;refine icw_seq ?_;have hyz : z / 128 ^ i ≤ z := Nat.div_le_self _ _;refine icw_plain (iU (.int .u64 ((z / 128 ^ i : Nat) : Int)) (xl (ld110 (B0.1))) ?_);refine iU (.bool true) (ed (((z / 128 ^ i : Nat) : Int) < (128 : Int)) (by omega)) ?_;refine iT (.bool true) ?_;refine ipl_nil (iqw_then (icw_seq (icw_seq (icw_plain (iT (.func (.yield l9) #[] #[]) ?_)))));refine iU (.int .u64 ((z / 128 ^ i : Nat) : Int)) (xl (ld110 (B0.1))) ?_;refine iU (.int .u64 ((z / 128 ^ i % 128 : Nat) : Int)) (ex_binV (a := .int .u64 ((z / 128 ^ i : Nat) : Int)) (b := .int .u64 127) rfl (by kernel_rfl) (by kernel_rfl) eqG_and (and_64 (b := 127) (by omega) (by omega) (and_127 _))) ?_;refine iU (.int .u8 ((z / 128 ^ i % 128 : Nat) : Int)) (ev_wrap8 (a := ((z / 128 ^ i % 128 : Nat) : Int)) (by kernel_rfl) (by omega) (by omega)) ?_;refine iT (.bool true) ?_;refine ipl_yield rfl (by kernel_rfl) (by kernel_rfl) (by kernel_rfl) (sy_yield (args := #[.int .u8 ((z / 128 ^ i % 128 : Nat) : Int), .bool true]) rfl (by kernel_rfl) (by kernel_rfl) (yield_mono (yield_to (hY i _ _ hi (hJst _ _ _ Bg (Ext.refl _)) trivial) hG) ?_));rintro e w5 (⟨rfl, Bc, B8⟩ | ⟨rfl, Bc, B8⟩)
  ·
   replace B0 := B8.box hBX B0;have Bu := B8.size;have Bt := Ext.refl w5;refine ⟨_, rfl, iT (.bool false) ?_⟩;refine iT (.bool false) ?_;refine iT (.bool true) ?_;refine iT (.bool true) ?_;refine ipl_nil (iqw_then (icw_clean [0, 1, 15] (ws' := [(0, .func (.yield l9) #[] #[]), (1, pw B 0), (15, .bool true)]) (by kernel_rfl) (fun L => ?_)));refine icw_t (by kernel_rfl) ?_;refine icw_ret ?_;refine iqw_then_ret ?_;refine iqw_block_ret ?_;refine iqw_then_ret ?_;refine iqw_block_ret ?_;refine iqw_ret0 [] rfl trivial ?_;exact ⟨⟨_, rfl⟩, .inl (hpt.2 hl ▸ hJst _ _ _ Bc (Ext.refl _))⟩
  ·
   replace B0 := B8.box hBX B0;have Bp := B8.size;have Bj := Ext.refl w5;refine ⟨_, rfl, iT (.bool true) ?_⟩;refine iT (.bool true) ?_;refine iK ?_;refine iT (.bool true) ?_;refine ipl_nil (iqw_then (icw_clean [0, 1, 15] (ws' := [(0, .func (.yield l9) #[] #[]), (1, pw B 0), (15, .bool true)]) (by kernel_rfl) (fun L => ?_)));refine icw_t (by kernel_rfl) ?_;refine icw_ret ?_;refine iqw_then_ret ?_;refine iqw_block_ret ?_;refine iqw_then_ret ?_;refine iqw_block_ret ?_;refine iqw_ret0 [] rfl trivial ?_;exact ⟨⟨_, rfl⟩, .inr ⟨i, hi, hJxst _ _ _ Bc (Ext.refl _)⟩⟩
 ·
  have hG : encG z i = [.int .u8 ((z / 128 ^ i % 128 : Nat) : Int), .bool false] := by unfold encG;rw [decide_eq_false hl]
  refine icw_block ?_;refine icw_seq ?_;have hyz : z / 128 ^ i ≤ z := Nat.div_le_self _ _;refine icw_plain (iU (.int .u64 ((z / 128 ^ i : Nat) : Int)) (xl (ld110 (B0.1))) ?_);refine iU (.bool false) (en (((z / 128 ^ i : Nat) : Int) < (128 : Int)) (by omega)) ?_;refine iT (.bool false) ?_;refine ipl_nil (iqw_then (icw_seq (icw_seq (icw_plain (iT (.func (.yield l9) #[] #[]) ?_)))));refine iU (.int .u64 ((z / 128 ^ i : Nat) : Int)) (xl (ld110 (B0.1))) ?_;refine iU (.int .u64 ((z / 128 ^ i % 128 : Nat) : Int)) (ex_binV (a := .int .u64 ((z / 128 ^ i : Nat) : Int)) (b := .int .u64 127) rfl (by kernel_rfl) (by kernel_rfl) eqG_and (and_64 (b := 127) (by omega) (by omega) (and_127 _))) ?_;refine iU (.int .u8 ((z / 128 ^ i % 128 : Nat) : Int)) (ev_wrap8 (a := ((z / 128 ^ i % 128 : Nat) : Int)) (by kernel_rfl) (by omega) (by omega)) ?_;refine iT (.bool false) ?_;refine ipl_yield rfl (by kernel_rfl) (by kernel_rfl) (by kernel_rfl) (sy_yield (args := #[.int .u8 ((z / 128 ^ i % 128 : Nat) : Int), .bool false]) rfl (by kernel_rfl) (by kernel_rfl) (yield_mono (yield_to (hY i _ _ hi (hJst _ _ _ Bg (Ext.refl _)) trivial) hG) ?_));rintro e Ba (⟨rfl, B4, B3⟩ | ⟨rfl, B4, B3⟩)
  ·
   replace B0 := B3.box hBX B0;have Be := B3.size;have Bk := Ext.refl Ba;refine ⟨_, rfl, iT (.bool false) ?_⟩;refine iT (.bool false) ?_;refine iT (.bool false) ?_;refine iT (.bool false) ?_;refine ipl_nil (iqw_then (icw_clean [0, 1, 15] (ws' := [(0, .func (.yield l9) #[] #[]), (1, pw B 0), (15, .bool false)]) (by kernel_rfl) (fun L => ?_)));refine icw_f (by kernel_rfl) ?_;refine icw_skip (iqw_then (icw_plain (iU (.int .u64 ((z / 128 ^ i : Nat) : Int)) (xl (ld110 (B0.1))) ?_)));refine iU (.int .u64 ((z / 128 ^ i / 2 ^ 7 : Nat) : Int)) (ex_binV (a := .int .u64 ((z / 128 ^ i : Nat) : Int)) (b := .int .u64 7) rfl (by kernel_rfl) (by kernel_rfl) eqG_shr (shr_64 (n := 7) (by omega))) ?_;have B7 := hJst _ _ _ B4 (Ext.refl _);have B2 := B0;refine iP (zE B 0 (.int .u64 ((z / 128 ^ i / 2 ^ 7 : Nat) : Int)) (st110 B2.1 B2.2) B2 ?_);intro Bb ho Br hk;replace B7 := hJT _ _ _ B7 ho;clear hk;have Bf := Nat.le_of_eq ho.size.symm;clear ho;have Bm := Ext.refl Bb;refine ipl_nil (iqw_block (iqw_round [0, 1] (ws' := [(0, .func (.yield l9) #[] #[]), (1, pw B 0)]) (by kernel_rfl) _ ?_ ⟨(i + 1), rfl, rfl, (T Bo (T Be Bf)), (by rw [← div_step]; exact Br), B7, (by omega)⟩));omega
  ·
   have Bq := B3.size;have Bn := Ext.refl Ba;refine ⟨_, rfl, iT (.bool true) ?_⟩;refine iT (.bool true) ?_;refine iK ?_;refine iT (.bool true) ?_;refine ipl_nil (iqw_then (icw_clean [0, 1, 15] (ws' := [(0, .func (.yield l9) #[] #[]), (1, pw B 0), (15, .bool true)]) (by kernel_rfl) (fun L => ?_)));refine icw_t (by kernel_rfl) ?_;refine icw_ret ?_;refine iqw_then_ret ?_;refine iqw_block_ret ?_;refine iqw_then_ret ?_;refine iqw_block_ret ?_;refine iqw_ret0 [] rfl trivial ?_;exact ⟨⟨_, rfl⟩, .inr ⟨i, hi, hJxst _ _ _ B4 (Ext.refl _)⟩⟩
theorem PutInt_n {n : Nat} (w : World) (hn : n ≤ 4611686018427387903) : Calls Tryz.prog 70 #[iv n] w fun e w' => e = .returned (.tuple #[.string ⟨(Wire.vb (n * 2)).toArray⟩, iv 0]) ∧ Ext w w' := by
 refine icalls_cw 33 [(0, iv n)] Tryz.func70 rfl Tryz.ntmps70 (by kernel_rfl) (by kernel_rfl) (fun L mm => ?_);have hE := Ext.refl w;refine icw_seq (icw_plain (iT (.string (⟨#[]⟩)) ?_));refine iT (iv 0) ?_;refine ipl_nil (iqw_then (icw_seq (icw_seq (icw_plain (iT (iv n) ?_)))));refine iU (.bool false) (en (((n : Nat) : Int) < (-4611686018427387903 : Int)) (by omega)) ?_;refine iT (.bool false) ?_;refine iT (iv n) ?_;refine iU (.bool false) (en (((n : Nat) : Int) > (4611686018427387903 : Int)) (by omega)) ?_;refine iT (.bool false) ?_;refine ipl_nil (iqw_then (icw_f (by kernel_rfl) ?_));refine icw_skip (iqw_then (icw_seq (icw_plain (iS (sw 63 #[.slice none 0 0] ?_)))));intro O1 X2 C5 Cx hb hbx;have Be := bq1 hbx;replace hE := hE.trans hb;have Bv := hb.size;have By := Be.lt;refine ipl_nil (iqw_then (icw_seq (icw_seq (icw_plain (iT (iv n) ?_)))));refine iU (.int .u64 ((n : Nat) : Int)) (ev_wrapU (a := ((n : Nat) : Int)) (by kernel_rfl) (by omega) (by omega)) ?_;refine iU (.int .u64 ((n * 2 : Nat) : Int)) (ex_binV (a := .int .u64 ((n : Nat) : Int)) (b := .int .u64 1) rfl (by kernel_rfl) (by kernel_rfl) eqG_shl (shl_64 (n := 1) (by omega) (by omega) (by omega))) ?_;refine iT (iv n) ?_;refine iU (iv 0) (ex_binV (a := iv n) (b := .int .u64 63) rfl (by kernel_rfl) (by kernel_rfl) eqG_shr (shr_sign (by omega) (by omega))) ?_;refine iT (.int .u64 0) ?_;refine iU (.int .u64 ((n * 2 : Nat) : Int)) (ex_binV (a := .int .u64 ((n * 2 : Nat) : Int)) (b := .int .u64 0) rfl (by kernel_rfl) (by kernel_rfl) eqG_xor (xor_64 (b := 0) (by omega) (by omega) (Nat.xor_zero _))) ?_;refine iS (sc 91 #[.int .u64 ((n * 2 : Nat) : Int)] ((groups_c (n * 2) _).mono ?_));rintro e w8 ⟨B5, rfl, Ca, C7, hb⟩;refine mv2 hb hE Be fun hE Be=>?_;have Bj := hb.size;have C6 := C7.lt;refine ⟨_, rfl, ?_⟩;refine ipl_nil (iqw_then (icw_clean [4, 20] (ws' := [(4, pw O1 0), (20, .func (.func 107) #[] #[pw B5 0])]) (by kernel_rfl) (fun L => ?_)));refine icw_block ?_;refine icw_rangeT (ps := [21, 22]) (by kernel_rfl) (enters_of Tryz.func107 (by kernel_rfl) rfl) (groups_seq (X := (fun k => k = O1 ∨ w8.heap.size ≤ k)) (by omega) C7 (fun h => h.elim (by omega) (fun q => absurd (Nat.lt_of_lt_of_le C6 (Nat.le_refl _)) (Nat.not_lt_of_le q)))) (Ext.refl _) (fun _ => rfl) (by kernel_rfl) (fun i W => ∃ a9 : Option Addr, ∃ c9 : Nat, w8.heap.size ≤ W.heap.size ∧ Ext w W ∧ BoxAt W O1 0 (.slice a9 i c9) ∧ OwnL byteR w8.heap.size 5 1 (.slice a9 i c9) W ((Wire.vb (n * 2)).take i)) (fun _ _ _ => False) (fun i A B h hm => by obtain ⟨a9, c9, hsz, hE, b9, B7⟩ := h; exact ⟨a9, c9, T hsz hm.size, hm.ext hE (T Bv Bj), hm.box b9, hm.own B7⟩) (fun _ _ _ _ h _ => h.elim) (fun i A B h ho => by obtain ⟨a9, c9, hsz, hE, b9, B7⟩ := h; exact ⟨a9, c9, T hsz (Nat.le_of_eq ho.size.symm), ho.ext hE (T Bv Ca), ho.box (by omega) b9, B7.turn ho (own_not (B7.base) (Nat.lt_of_lt_of_le C6 (Nat.le_refl _))) (fun _ _ _ h => by rw [h.2]; exact fun b hb => by cases hb)⟩) (fun _ _ _ _ h _ => h.elim) ⟨none, 0, Nat.le_refl _, hE, Be, OwnL.nil _ _ _ _ _⟩ ?_ ?_ ?_
 ·
  clear Be C7 hE;intro D4 D3 i C8 hii h _;obtain ⟨a9, c9, Bk, hE, b9, B7⟩ := h;have htk : ((Wire.vb (n * 2)).take i).length = i := by rw [List.length_take];omega
  have htn := Wire.vb_take (z := n * 2) (by omega) hii;have hsm := Wire.vb_small (z := n * 2) (by omega) hii;have Cq := Ext.refl C8;refine icw_clean [4, 21, 22] (ws' := [(4, pw O1 0), (21, .int .u8 ((n * 2 / 128 ^ i % 128 : Nat) : Int)), (22, .bool (decide (n * 2 / 128 ^ i < 128)))]) (by kernel_rfl) (fun L => ?_);have Bs : RK w8.heap.size (fun k => k = O1 ∨ w8.heap.size ≤ k) C8 C8 := RK.refl _ _ _
  by_cases hl : n * 2 / 128 ^ i < 128
  ·
   rw [decide_eq_true hl];refine icw_seq (icw_plain (iT (.int .u8 ((n * 2 / 128 ^ i % 128 : Nat) : Int)) ?_));refine ipl_nil (iqw_then (icw_plain (iT (.bool true) ?_)));refine ipl_nil (iqw_asg Bs (fun w18 hm17 => ?_));have B3 := b9;have B0 := B7;replace hE := hm17.ext hE (T Bv Bj);replace B3 := hm17.box B3;replace B0 := hm17.own B0;have C0 := hm17.size;have B8 : RK w8.heap.size (fun k => k = O1 ∨ w8.heap.size ≤ k) w18 w18 := RK.refl _ _ _;refine icw_block ?_;refine icw_seq (icw_seq (icw_plain (iT (.bool true) ?_)));refine iT (.bool false) ?_;refine ipl_nil (iqw_then (icw_f (by kernel_rfl) ?_));refine icw_skip (iqw_then (icw_plain (iU (.slice a9 i c9) (xl (ld63 (B3.1))) ?_)));refine iT (.int .u8 ((n * 2 / 128 ^ i % 128 : Nat) : Int)) ?_;refine iS (sn_newS (us := #[.int .u8 ((n * 2 / 128 ^ i % 128 : Nat) : Int)]) (t := 5) (k := 1) (c := 1) (by kernel_rfl) ?_);intro Cm D1 Ci Cg hb hbx;have Bh := bq1 hbx;refine mv4 hb hE B3 B0 B8 fun hE B3 B0 B8=>?_;have C1 := hb.size;have Cy := Bh.lt;have Bm := B0.base;obtain ⟨Bw, Bf, Ck, Bt, Bb, Bq, Bo⟩ := own_app1k (P := Tryz.prog) (ty := 63) byteT (B0) (T Bk (T C0 C1)) (k := i) htk (O := Cm) (c := 1) (x := Wire.byt (n * 2 / 128 ^ i)) (d := [.int .u8 ((n * 2 / 128 ^ i % 128 : Nat) : Int)]) (F := []) rfl (cells1 (Bh.1)) (by simp [Value.oneCell']) (⟨by rw [Wire.byt_small hl, Nat.mod_eq_of_lt hl], rfl⟩) (fun b hb => by cases hb) (by omega) (by omega);refine iS (sn_eff (v := sv Bw 0 (i + 1) Bf) (w' := Ck) (ex_append rfl (by kernel_rfl) (by kernel_rfl) Bt) ?_);replace B3 := BoxAt.grownR B3 Bo (own_not Bm (Nat.lt_of_lt_of_le By Bj));replace B8 := B8.app Bo (B0) (fun k hk => .inl (.inr (Bm k hk)));replace hE := Bq.ext _ hE (T Bv Bj);have Cb := Bq.size;have Ct := Bb.base Bw rfl;have Cr := Bb.lt Bw rfl;rw [← htn] at Bb;refine iP (zE O1 0 (sv Bw 0 (i + 1) Bf) (st63 B3.1 B3.2) B3 ?_);intro Co ho B3 hk;replace hE := ho.ext hE (Nat.le_of_eq C5);replace B8 := B8.turn ho (.inl (.inl rfl));replace Bb := Bb.turn ho (own_not (Bb.base) (Nat.lt_of_lt_of_le By Bj)) (fun _ _ _ h => by rw [h.2]; exact fun b hb => by cases hb);have Cc := Nat.le_of_eq ho.size.symm;clear ho hk;refine ipl_nil (iqw_block ?_);exact iqw_next B8 ⟨(some ⟨Bw, 0, none⟩), Bf, (T Bk (T C0 (T C1 (T Cb Cc)))), hE, B3, Bb⟩
  ·
   rw [decide_eq_false hl];refine icw_seq (icw_plain (iT (.int .u8 ((n * 2 / 128 ^ i % 128 : Nat) : Int)) ?_));refine ipl_nil (iqw_then (icw_plain (iT (.bool false) ?_)));refine ipl_nil (iqw_asg Bs (fun w42 hm41 => ?_));have B4 := b9;have B2 := B7;replace hE := hm41.ext hE (T Bv Bj);replace B4 := hm41.box B4;replace B2 := hm41.own B2;have C2 := hm41.size;have Ba : RK w8.heap.size (fun k => k = O1 ∨ w8.heap.size ≤ k) w42 w42 := RK.refl _ _ _;refine icw_block ?_;refine icw_seq (icw_seq (icw_plain (iT (.bool false) ?_)));refine iT (.bool true) ?_;refine ipl_nil (iqw_then (icw_t (by kernel_rfl) ?_));refine icw_plain (iT (.int .u8 ((n * 2 / 128 ^ i % 128 : Nat) : Int)) ?_);refine iU (.int .u8 ((n * 2 / 128 ^ i % 128 + 128 : Nat) : Int)) (ex_binV (a := .int .u8 ((n * 2 / 128 ^ i % 128 : Nat) : Int)) (b := .int .u8 128) rfl (by kernel_rfl) (by kernel_rfl) eqG_or (or_8 (b := 128) (by omega) (by omega) (or_128 (by omega)))) ?_;refine iT (.int .u8 ((n * 2 / 128 ^ i % 128 + 128 : Nat) : Int)) ?_;refine ipl_nil (iqw_then (icw_plain (iU (.slice a9 i c9) (xl (ld63 (B4.1))) ?_)));refine iT (.int .u8 ((n * 2 / 128 ^ i % 128 + 128 : Nat) : Int)) ?_;refine iS (sn_newS (us := #[.int .u8 ((n * 2 / 128 ^ i % 128 + 128 : Nat) : Int)]) (t := 5) (k := 1) (c := 1) (by kernel_rfl) ?_);intro Cn D2 Cj Ch hb hbx;have Bi := bq1 hbx;refine mv4 hb hE B4 B2 Ba fun hE B4 B2 Ba=>?_;have C3 := hb.size;have Cz := Bi.lt;have Bn := B2.base;obtain ⟨Bx, Bg, Cl, Bu, Bc, Br, Bp⟩ := own_app1k (P := Tryz.prog) (ty := 63) byteT (B2) (T Bk (T C2 C3)) (k := i) htk (O := Cn) (c := 1) (x := Wire.byt (n * 2 / 128 ^ i)) (d := [.int .u8 ((n * 2 / 128 ^ i % 128 + 128 : Nat) : Int)]) (F := []) rfl (cells1 (Bi.1)) (by simp [Value.oneCell']) (⟨by rw [Wire.byt_big hl], rfl⟩) (fun b hb => by cases hb) (by omega) (by omega);refine iS (sn_eff (v := sv Bx 0 (i + 1) Bg) (w' := Cl) (ex_append rfl (by kernel_rfl) (by kernel_rfl) Bu) ?_);replace B4 := BoxAt.grownR B4 Bp (own_not Bn (Nat.lt_of_lt_of_le By Bj));replace Ba := Ba.app Bp (B2) (fun k hk => .inl (.inr (Bn k hk)));replace hE := Br.ext _ hE (T Bv Bj);have Cd := Br.size;have Cu := Bc.base Bx rfl;have Cs := Bc.lt Bx rfl;rw [← htn] at Bc;refine iP (zE O1 0 (sv Bx 0 (i + 1) Bg) (st63 B4.1 B4.2) B4 ?_);intro Cp ho B4 hk;replace hE := ho.ext hE (Nat.le_of_eq C5);replace Ba := Ba.turn ho (.inl (.inl rfl));replace Bc := Bc.turn ho (own_not (Bc.base) (Nat.lt_of_lt_of_le By Bj)) (fun _ _ _ h => by rw [h.2]; exact fun b hb => by cases hb);have Ce := Nat.le_of_eq ho.size.symm;clear ho hk;refine ipl_nil (iqw_block ?_);exact iqw_next Ba ⟨(some ⟨Bx, 0, none⟩), Bg, (T Bk (T C2 (T C3 (T Cd Ce)))), hE, B4, Bc⟩
 ·
  clear Be C7 hE;intro D0 D5 C9 Cf h Bz;obtain ⟨a9, c9, Cv, hE, b9, B7⟩ := h;rw [List.take_length] at B7;refine iqw_block (iqw_then (icw_seq (icw_plain (iU (.slice a9 (((Wire.vb (n * 2)).length)) c9) (xl (ld63 (b9.1))) ?_))));refine iU (.string (⟨(Wire.vb (n * 2)).toArray⟩)) (ex_conv rfl (by kernel_rfl) (own_str B7 rfl)) ?_;refine iT (.string (⟨(Wire.vb (n * 2)).toArray⟩)) ?_;refine iT (iv 0) ?_;refine ipl_nil (iqw_then (icw_ret ?_));refine iqw_ret w.heap.size [.string (⟨(Wire.vb (n * 2)).toArray⟩), iv 0] rfl (marksC (T (T Bv Bj) C9) Bz (fun _ h => by cases h)) (by simp) (fun W9 hm9 => ?_);replace hE := hm9.ext hE (Nat.le_refl _);have Cw := hm9.size;refine ⟨⟨(by kernel_rfl), (by kernel_rfl), trivial⟩, ?_⟩;exact ⟨rfl, hE⟩
 · intro _ _ _ _ _ _ _ h _;exact h.elim
theorem PutInt_c {n : Int} (w : World) (h0 : 0 ≤ n) (hn : n ≤ 4611686018427387903) : Calls Tryz.prog 70 #[.int .i64 n] w fun e w' => e = .returned (.tuple #[.string (Wire.encI n), .int .i64 0]) ∧ Ext w w' := by
 obtain ⟨m, rfl⟩ := Int.eq_ofNat_of_zero_le h0
 have e : Wire.encI (m : Int) = ⟨(Wire.vb (m * 2)).toArray⟩ := by unfold Wire.encI; rw [show Wire.zz (m : Int) = m * 2 by unfold Wire.zz; rw [if_neg (by omega)]; omega]
 rw [e]; exact PutInt_n w (by omega)
end Go.Proofs.YtfmoabgjaclkpaaGreatDoor
