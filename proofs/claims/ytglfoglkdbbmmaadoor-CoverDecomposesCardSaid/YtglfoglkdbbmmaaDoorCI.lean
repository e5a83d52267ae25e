/- Contracts of package cover: lists; fold over indices. -/
import Derived.Test.YtglfoglkdbbmmaaDoorCH
import Derived.Test.YtglfoglkdbbmmaaDoorCC
namespace Go.Proofs.YtglfoglkdbbmmaaDoor
open Go.RowKit Go.Shelf

attribute [local go_sem] Oper.semAt_some

theorem walk_c {X : Nat → Prop} {Kb Yb Nb Wb l n k : Nat} {J Jx : List YL → World → Prop} {B0 : Nat} (hJ : AbidesFrom B0 J) (hXB : ∀ b, X b → b < B0)
    (hY : ∀ pre x W1 m, J pre W1 → PhiL n x W1 → YieldAt Fence.wide m Tryd.prog l (encL x) W1 fun e W' => (e = .returned (.bool true) ∧ J (pre ++ [x]) W' ∧ KeepC X W1 W') ∨ (e = .returned (.bool false) ∧ Jx (pre ++ [x]) W' ∧ KeepC X W1 W'))
    (hkn : k ≤ n) (hn : n ≤ 1000) : ∀ (m : Nat) (a : Option Addr) (c : Nat) (lst : List Nat) (next : Nat) (pre : List YL) (W : World), lst.length + m = k → B0 ≤ W.heap.size → (∀ b off, a = some ⟨b, off, none⟩ → ¬ X b) → ListAt W a c lst → Globe.asc n 0 lst → (∀ i ∈ lst, i < next) → next ≤ n → WB X Kb Yb Nb Wb l n k W → J pre W →
      Calls Tryd.prog 72 #[.slice a lst.length c, .int .i64 (next : Int), .pointer (some ⟨Kb, 0, none⟩), .pointer (some ⟨Yb, 0, none⟩), .pointer (some ⟨Nb, 0, none⟩), .pointer (some ⟨Wb, 0, none⟩)] W (WPost X J Jx n m lst next pre W)
  | 0, a, c, lst, next, pre, W, hlen, _, _, hl, ha, _, _, hb, hJ0 => (callsIn_wide (n := 3)).1 (walk0 hJ hY a c lst next 3 pre W hlen (by omega) hl ha hb hJ0)
  | m + 1, a, c, lst, next, pre, W, hlen, hBW, hax, hl, ha, hlt, hnn, hb, hJ0 => walkS hJ hXB (walk_c hJ hXB hY hkn hn m) a c lst next pre W hlen hkn hn hBW hax hl ha hlt hnn hb hJ0

set_option maxHeartbeats 1000000 in
theorem lists1_seq {X : Nat → Prop} {Kb Nb n k : Nat} (w : World) (hXB : ∀ b, X b → b < w.heap.size) (hkn : k ≤ n) (hn : n ≤ 1000) (hK : w.cell? ⟨Kb, 0, none⟩ = some (.int .i64 (k : Int))) (hN : w.cell? ⟨Nb, 0, none⟩ = some (.int .i64 (n : Int))) (xK : ¬ X Kb) (xN : ¬ X Nb) :
    SeqM Tryd.prog 71 #[.pointer (some ⟨Kb, 0, none⟩), .pointer (some ⟨Nb, 0, none⟩)] encL (PhiL n) (KeepC X) (fun xs => xs.map (fun x => x.2.2) = Globe.combs n k [] 0) (fun pre => pre.map (fun x => x.2.2) <+: Globe.combs n k [] 0) w := by
  intro l J Jx W hW hJ hJx hY hJ0 d
  refine callsIn_wide.2 ?_
  have hK1 := Ext.cell hW hK
  have hN1 := Ext.cell hW hN
  have hs := Ext.size hW
  have lK := World.block_lt_of_cell? W _ hK1
  have lN := World.block_lt_of_cell? W _ hN1
  have HY := Lib.hid hY; clear hY
  have HJ := Lib.hid hJ; clear hJ
  have HJ0 := Lib.hid hJ0; clear hJ0
  have HXB := Lib.hid (show ∀ b, X b → b < W.heap.size from fun b h => by have := hXB b h; omega)
  clear hXB hJx hK hN hW
  show Calls Tryd.prog 71 #[.func (.yield l) #[] #[], .pointer (some ⟨Kb, 0, none⟩), .pointer (some ⟨Nb, 0, none⟩)] W _
  go_enter Tryd.func71, Tryd.ntmps71
  go_wp2_with fail
  have hE2 : Ext W ((W.alloc (.cells #[.func (.yield l) #[] #[]] 88)).alloc (.cells #[.func (.func 72) #[] #[.pointer (some ⟨Kb, 0, none⟩), .pointer (some ⟨W.heap.size, 0, none⟩), .pointer (some ⟨Nb, 0, none⟩), .pointer (some ⟨W.heap.size + 1, 0, none⟩)]] 89)) := Ext.alloc (Ext.alloc (Ext.refl W) _) _
  refine (walk_c (Yb := W.heap.size) (Wb := W.heap.size + 1) HJ.out HXB.out HY.out hkn hn k none 0 [] 0 [] _ (by simp) hE2.size (fun b off e => by cases e) (.inl ⟨rfl, rfl, rfl⟩) trivial (fun i hi => by cases hi) (Nat.zero_le _)
    ⟨hE2.cell hK1, by simp [go_sem], hE2.cell hN1, by simp [go_sem], xK, fun h => by have := HXB.out _ h; omega, xN, fun h => by have := HXB.out _ h; omega⟩ (HJ.out _ _ _ none HJ0.out (Ext.grownNone hE2) (fun r e => by cases e))).mono ?_
  rintro e w5 h5
  obtain ⟨r, rfl, H5⟩ := two_ends h5
  clear h5
  go_wp2_with fail
  go_end0
  refine ⟨⟨_, rfl⟩, ?_⟩
  rcases H5.out with ⟨-, xs, q1, q2, -⟩ | ⟨-, q, q1, q2, -⟩
  · exact .inl ⟨xs, q1, by simpa using q2⟩
  · exact .inr ⟨q, q1, by simpa using q2⟩

theorem lists_c (n k : Int) (w : World) : Calls Tryd.prog 52 #[.int .i64 n, .int .i64 k] w fun e w' => e = .returned (.func (.func 71) #[] #[.pointer (some ⟨w.heap.size + 1, 0, none⟩), .pointer (some ⟨w.heap.size, 0, none⟩)]) ∧ (w.alloc (.cells #[.int .i64 n] 3)).alloc (.cells #[.int .i64 k] 3) = w' := by
  go_enter Tryd.func52, Tryd.ntmps52
  go_wp2
  go_ret
  exact ⟨rfl, rfl⟩

set_option maxHeartbeats 2000000 in
theorem Few1_v {w1 w2 : World} {a : Option Addr} {n : Nat} {ss : List (List Int × List Int)} {b o i Lb : Nat} (k c : Nat) {l : List Int} {s : List Int × List Int} (w : World) (hl : VA w1 b o l) (e1 : Ext w1 w) (h : StripsAt w2 a n ss) (e2 : Ext w2 w) (hok : Globe.stripsOk ss = true) (hL : w.cell? ⟨Lb, 0, none⟩ = some (.slice a n c)) (hs : ss[i]? = some s) :
    Calls Tryd.prog 54 #[.agg #[.slice (some ⟨b, o, none⟩) 24 k], .int .i64 (i : Int), .pointer (some ⟨Lb, 0, none⟩)] w (RetF w (Globe.lessL l s.1)) := by
  have H := Lib.hid (h.ext e2)
  have HL := Lib.hid (hl.ext e1)
  clear hl e1 e2
  have hi : i < n := by rw [← h.1]; exact (List.getElem?_eq_some_iff.1 hs).1
  have hn := h.2.1
  clear h
  obtain ⟨b3, off, s', rfl, hs', hst⟩ := H.out.at hi
  rw [hs] at hs'; cases hs'
  obtain ⟨q1, q2, q3⟩ := okS_at hok hs
  obtain ⟨B1, o1, c1, B2, o2, cc2, d1, -, g1, -⟩ := hst.v q1 q2
  have G1 := Lib.hid g1
  have ld1 := World.block_lt_of_cell? w _ d1
  have lL := World.block_lt_of_cell? w _ hL
  have i0 : (0 : Int) ≤ (i : Int) := by omega
  have i1 : (i : Int) < (n : Int) := by omega
  clear g1 hst q1 q2 q3 hok hs
  go_enter Tryd.func54, Tryd.ntmps54
  go_wp2_with fail
  refine wp_name (fun V => Ext w V ∧ V.cell? ⟨w.heap.size, 0, none⟩ = some (.slice (some ⟨b, o, none⟩) 24 k) ∧ BoxAt V (w.heap.size + 1) 0 (.slice none 0 0)) ⟨by (repeat' (first | (with_reducible assumption) | (with_reducible exact Ext.refl _) | (with_reducible refine Ext.alloc ?_ _) | (with_reducible refine Ext.drew ?_) | (with_reducible refine Ext.drewN ?_ _) | (with_reducible refine Ext.setCell ?_ ?_ _) | (with_reducible refine Ext.trans ?_ (by assumption)) | go_size)), by simp [go_sem], by simp [go_sem], by simp [go_sem]⟩ ?_
  rintro V ⟨hE, c3, c5, f5⟩
  have l3 := World.block_lt_of_cell? V _ c3
  have l5 := World.block_lt_of_cell? V _ c5
  have d1' := hE.cell d1
  have hL' := hE.cell hL
  have ld1' := World.block_lt_of_cell? V _ d1'
  have lL' := World.block_lt_of_cell? V _ hL'
  -- <<few1
  refine wg_begin [(some 6, [3], []), (some 7, [2], []), (some 8, [1], []), (some 9, [7, 8], [1, 2]), (some 10, [9], [3]), (some 11, [10], [4]), (some 12, [6, 11], [0, 5]), (none, [5, 12], [6, 6, 0, 1, 2, 3, 4, 5, 6])] (fun w' => w'.cell? ⟨w.heap.size, 0, none⟩ = some (.slice (some ⟨b, o, none⟩) 24 k) ∧ w'.cell? ⟨Lb, 0, none⟩ = some (.slice (some ⟨b3, off, none⟩) n c) ∧ w'.cell? ⟨b3, off + i * 2, none⟩ = some (.slice (some ⟨B1, o1, none⟩) 24 c1)) (by kernel_rfl) (by kernel_rfl) (by kernel_rfl) (by kernel_rfl) (by intro c d v a w h; cases d <;> first | exact h | (exact nomatch h.1) | (dsimp +zetaDelta only [Exit.then, Exit.inBlock] at h ⊢; exact h)) (⟨c3, hL', d1'⟩) (fun ops Q L hL hR hK hHeld => ?_); replace hL := Lib.hid hL; have hW1 := @evalW_tmp; have hW2 := @evalW_const; have hW3 := @evalW_func; have hW4 := @look_cons; have hW5 := @look_nil
  have r3 := wg_read hL.out 3 rfl
  have r2 := wg_read hL.out 2 rfl
  have r1 := wg_read hL.out 1 rfl
  have r5 := wg_read hL.out 5 rfl
  (refine wg_take 0 (v := ?_) hR rfl (by kernel_rfl) (by kernel_rfl) ?_ (by with_reducible assumption) ?_; rotate_left; (focus (intro w hSw; (try dsimp only at hSw); go_simp; (try with_reducible rfl))); (dsimp only [putW]))
  (refine wg_take 1 (v := ?_) hR rfl (by kernel_rfl) (by kernel_rfl) ?_ (by with_reducible assumption) ?_; rotate_left; (focus (intro w hSw; (try dsimp only at hSw); go_simp; (try with_reducible rfl))); (dsimp only [putW]))
  (refine wg_take 2 (v := ?_) hR rfl (by kernel_rfl) (by kernel_rfl) ?_ (by with_reducible assumption) ?_; rotate_left; (focus (intro w hSw; (try dsimp only at hSw); go_simp; (try with_reducible rfl))); (dsimp only [putW]))
  (refine wg_take 3 (v := ?_) hR rfl (by kernel_rfl) (by kernel_rfl) ?_ (by with_reducible assumption) ?_; rotate_left; (focus (intro w hSw; (try dsimp only at hSw); go_simp; (try with_reducible rfl))); (dsimp only [putW]))
  (refine wg_take 4 (v := ?_) hR rfl (by kernel_rfl) (by kernel_rfl) ?_ (by with_reducible assumption) ?_; rotate_left; (focus (intro w hSw; (try dsimp only at hSw); go_simp; (try with_reducible rfl))); (dsimp only [putW]))
  (refine wg_take 5 (v := ?_) hR rfl (by kernel_rfl) (by kernel_rfl) ?_ (by with_reducible assumption) ?_; rotate_left; (focus (intro w hSw; (try dsimp only at hSw); go_simp; (try with_reducible rfl))); (dsimp only [putW]))
  (refine wg_step 6 hR rfl (by kernel_rfl) (by kernel_rfl) ?_ (by kernel_rfl); refine wg_call (f := 42) (args := ?_) ?_ ?_; rotate_left; (focus (go_simp; first | done | (with_reducible rfl) | (refine ⟨?_, ?_⟩ <;> with_reducible rfl))); (go_at_call 42; refine (less_v k c1 _ HL.out (hE.trans (Ext.drew (Ext.refl V))) G1.out (hE.trans (Ext.drew (Ext.refl V)))).mono ?_; rintro e w5 ⟨B, kk, rfl, hB, hv, hb⟩; have HV := Lib.hid hv; clear hv; obtain ⟨c5', f5'⟩ := BoxAt.ext (Ext.trans (Ext.drew (Ext.refl V)) hb) ⟨c5, f5⟩); refine ⟨_, rfl, ⟨hb.cell hHeld.1, hb.cell hHeld.2.1, hb.cell hHeld.2.2⟩, fun hHeld => ?_⟩; (dsimp only [putW]))
  (refine wg_step 7 hR rfl (by kernel_rfl) (by kernel_rfl) ?_ (by kernel_rfl); refine wg_skp (w' := ?_) ?_ ?_ ?_; rotate_left; (focus (go_simp; first | done | (with_reducible rfl))); (focus (exact ⟨by simp [go_sem, hHeld.1], by simp [go_sem, hHeld.2.1], by simp [go_sem, hHeld.2.2]⟩)); intro hHeld; (dsimp only [putW]))
  refine wg_fin hR hK [(6, 6), (0, 5), (0, 4), (0, 3), (0, 2), (0, 1), (0, 0)] (by kernel_rfl) (by kernel_rfl) (by dsimp only [mg, gsOf, valAt]) ?_; clear hW1 hW2 hW3 hW4 hW5 hR hK hL
  clear r3
  clear r2
  clear r1
  clear r5
  -- >>
  go_wp2_with fail
  refine bodyPost_ret (v := .agg #[.slice (some ⟨B, 0, none⟩) 24 kk]) (by simp [results, Tryd.results54, go_sem, c5']) rfl ⟨B, kk, rfl, ?_, ?_, ?_⟩
  · have := hE.size; simp at hB; omega
  · refine VA.other HV.out (p := ⟨w.heap.size + 1, 0, none⟩) ?_ _
    have := hE.size; simp at hB
    show w.heap.size + 1 ≠ B; omega
  · exact Ext.setCell (hE.trans (Ext.trans (Ext.drew (Ext.refl V)) hb)) (p := ⟨w.heap.size + 1, 0, none⟩) (by show _ ≤ w.heap.size + 1; omega) _

set_option maxHeartbeats 2000000 in
theorem foldN_v {w1 w2 w3 : World} {a a0 : Option Addr} {n : Nat} {ss : List (List Int × List Int)} {lst : List Nat} {b o Lb : Nat} (c0 k c : Nat) {l : List Int} (w : World) (hI : IntsAt w3 a0 (intsN lst)) (e3 : Ext w3 w) (hlst : ∀ i ∈ lst, i < n) (hlen : lst.length ≤ 1000) (hl : VA w1 b o l) (e1 : Ext w1 w) (h : StripsAt w2 a n ss) (e2 : Ext w2 w) (hok : Globe.stripsOk ss = true) (hL : w.cell? ⟨Lb, 0, none⟩ = some (.slice a n c)) :
    Calls Tryd.prog 53 #[.slice a0 lst.length c0, .agg #[.slice (some ⟨b, o, none⟩) 24 k], .func (.func 54) #[] #[.pointer (some ⟨Lb, 0, none⟩)]] w (RetO w b (Globe.leftL l (lst.map (Globe.sureAt (ss.map fun s => s.1))))) := by
  have H := Lib.hid (h.ext e2)
  have HL := Lib.hid (hl.ext e1)
  have HI := Lib.hid (hI.ext e3)
  have hbl := HL.out.lt
  have lL := World.block_lt_of_cell? w _ hL
  clear h hl e1 e2 hI e3
  have Hlst := Lib.hid hlst; clear hlst
  have Hok := Lib.hid hok; clear hok
  go_enter Tryd.func53, Tryd.ntmps53
  go_wp2_with fail
  go_loopw [11] (fun p wr => ∃ i : Nat, i ≤ lst.length ∧ p = .int .i64 i ∧ Ext w wr ∧ BoxAt wr (w.heap.size + 1) 0 (.slice none 0 0) ∧ ∃ B o' k', BoxAt wr w.heap.size 0 (.slice (some ⟨B, o', none⟩) 24 k') ∧ VA wr B o' (Globe.leftL l ((lst.map (Globe.sureAt (ss.map fun s => s.1))).take i)) ∧ B ≠ w.heap.size ∧ B ≠ w.heap.size + 1 ∧ (B = b ∨ w.heap.size ≤ B)) (fun p _ => lst.length - (intOf p).toNat)
  case atStart => exact ⟨0, by omega, rfl, by (repeat' (first | (with_reducible assumption) | (with_reducible exact Ext.refl _) | (with_reducible refine Ext.alloc ?_ _) | (with_reducible refine Ext.drew ?_) | (with_reducible refine Ext.drewN ?_ _) | (with_reducible refine Ext.setCell ?_ ?_ _) | (with_reducible refine Ext.trans ?_ (by assumption)) | go_size)), ⟨by simp [go_sem], by simp [go_sem]⟩, b, o, k, ⟨by simp [go_sem], by simp [go_sem]⟩, HL.out.ext (by (repeat' (first | (with_reducible assumption) | (with_reducible exact Ext.refl _) | (with_reducible refine Ext.alloc ?_ _) | (with_reducible refine Ext.drew ?_) | (with_reducible refine Ext.drewN ?_ _) | (with_reducible refine Ext.setCell ?_ ?_ _) | (with_reducible refine Ext.trans ?_ (by assumption)) | go_size))), by omega, by omega, .inl rfl⟩
  case round =>
    obtain ⟨i, hi, rfl, hE, hR, B, o', k', hA, hv, hB1, hB2, hB3⟩ := hrel
    obtain ⟨cA, fA⟩ := hA
    obtain ⟨cR, fR⟩ := hR
    have lA := World.block_lt_of_cell? wr _ cA
    have lR := World.block_lt_of_cell? wr _ cR
    by_cases hlt : i < lst.length
    · obtain ⟨b3, off, rfl, hx⟩ : ∃ b3 off, a0 = some ⟨b3, off, none⟩ ∧ ∀ i, i < (intsN lst).length → w.cell? ⟨b3, off + i, none⟩ = some (.int .i64 (Globe.nth (intsN lst) i)) := by
        rcases HI.out with h | h
        · exfalso
          have : (intsN lst).length = 0 := by rw [h]; rfl
          rw [intsN_len] at this; omega
        · exact h
      obtain ⟨q, hq⟩ : ∃ q, lst[i]? = some q := ⟨_, List.getElem?_eq_getElem hlt⟩
      have hqn := Hlst.out q (List.mem_of_getElem? hq)
      have d1 := hE.cell (hx i (by rw [intsN_len]; exact hlt))
      have hnq : Globe.nth (intsN lst) i = (q : Int) := by simp [Globe.nth, intsN, hq]
      rw [hnq] at d1
      have hLr := hE.cell hL
      obtain ⟨s, hs⟩ : ∃ s, ss[q]? = some s := ⟨_, List.getElem?_eq_getElem (by rw [H.out.1]; exact hqn)⟩
      have hsn : Globe.leftL l ((lst.map (Globe.sureAt (ss.map fun s => s.1))).take (i + 1)) = Globe.lessL (Globe.leftL l ((lst.map (Globe.sureAt (ss.map fun s => s.1))).take i)) s.1 := by
        rw [take_snoc' (x := s.1) (by rw [List.getElem?_map, hq]; simp [Globe.sureAt, hs]), Globe.left_snoc]
      have Hsn := Lib.hid hsn
      have Hs := Lib.hid hs
      clear hsn hs hx hnq hq
      have ld1 := World.block_lt_of_cell? wr _ d1
      have i0 : (0 : Int) ≤ (i : Int) := by omega
      have i1 : (i : Int) < (lst.length : Int) := by omega
      go_wp2_with (go_at_call 54; refine (Few1_v _ c _ hv (by (repeat' (first | (with_reducible assumption) | (with_reducible exact Ext.refl _) | (with_reducible refine Ext.alloc ?_ _) | (with_reducible refine Ext.drew ?_) | (with_reducible refine Ext.drewN ?_ _) | (with_reducible refine Ext.setCell ?_ ?_ _) | (with_reducible refine Ext.trans ?_ (by assumption)) | go_size))) (H.out.ext hE) (by (repeat' (first | (with_reducible assumption) | (with_reducible exact Ext.refl _) | (with_reducible refine Ext.alloc ?_ _) | (with_reducible refine Ext.drew ?_) | (with_reducible refine Ext.drewN ?_ _) | (with_reducible refine Ext.setCell ?_ ?_ _) | (with_reducible refine Ext.trans ?_ (by assumption)) | go_size))) Hok.out hLr Hs.out).mono ?_; rintro e w1 ⟨B', k3, rfl, hB', hv', hb⟩; have hc := hb.cellE; have hf := hb.frozenE; have hz := hb.size; have ha := alloc_keeps w1; (try simp only [World.size_alloc] at hc hf hz); (try simp only [World.size_setCell] at hc hf hz); (try simp only [World.size_drew] at hc hf hz))
      go_roundw
      case rel => exact ⟨i + 1, by omega, by go_num, by (repeat' (first | (with_reducible assumption) | (with_reducible exact Ext.refl _) | (with_reducible refine Ext.alloc ?_ _) | (with_reducible refine Ext.drew ?_) | (with_reducible refine Ext.drewN ?_ _) | (with_reducible refine Ext.setCell ?_ ?_ _) | (with_reducible refine Ext.trans ?_ (by assumption)) | go_size)), BoxAt.other (BoxAt.ext (by (repeat' (first | (with_reducible assumption) | (with_reducible exact Ext.refl _) | (with_reducible refine Ext.alloc ?_ _) | (with_reducible refine Ext.drew ?_) | (with_reducible refine Ext.drewN ?_ _) | (with_reducible refine Ext.setCell ?_ ?_ _) | (with_reducible refine Ext.trans ?_ (by assumption)) | go_size))) ⟨cR, fR⟩) (by show w.heap.size ≠ w.heap.size + 1; omega) _, B', 0, k3, BoxAt.set (BoxAt.ext (by (repeat' (first | (with_reducible assumption) | (with_reducible exact Ext.refl _) | (with_reducible refine Ext.alloc ?_ _) | (with_reducible refine Ext.drew ?_) | (with_reducible refine Ext.drewN ?_ _) | (with_reducible refine Ext.setCell ?_ ?_ _) | (with_reducible refine Ext.trans ?_ (by assumption)) | go_size))) ⟨cA, fA⟩) _, by rw [Hsn.out]; exact VA.other (hv'.ext (by (repeat' (first | (with_reducible assumption) | (with_reducible exact Ext.refl _) | (with_reducible refine Ext.alloc ?_ _) | (with_reducible refine Ext.drew ?_) | (with_reducible refine Ext.drewN ?_ _) | (with_reducible refine Ext.setCell ?_ ?_ _) | (with_reducible refine Ext.trans ?_ (by assumption)) | go_size)))) (by show w.heap.size ≠ B'; (try simp at hB'); omega) _, by (try simp at hB'); omega, by (try simp at hB'); omega, .inr (by (try simp at hB'); omega)⟩
      case measure => simp [intOf]; omega
    · obtain rfl : i = lst.length := by omega
      go_wp2_with fail
      refine bodyPost_ret (v := .agg #[.slice (some ⟨B, o', none⟩) 24 k']) (by simp [results, Tryd.results53, go_sem, cA, cR]) rfl ⟨B, o', k', rfl, ?_, hB3, by (repeat' (first | (with_reducible assumption) | (with_reducible exact Ext.refl _) | (with_reducible refine Ext.alloc ?_ _) | (with_reducible refine Ext.drew ?_) | (with_reducible refine Ext.drewN ?_ _) | (with_reducible refine Ext.setCell ?_ ?_ _) | (with_reducible refine Ext.trans ?_ (by assumption)) | go_size))⟩
      rw [List.take_of_length_le (by rw [List.length_map]; exact Nat.le_refl _)] at hv
      exact VA.other hv (by show w.heap.size + 1 ≠ B; omega) _

end Go.Proofs.YtglfoglkdbbmmaaDoor
