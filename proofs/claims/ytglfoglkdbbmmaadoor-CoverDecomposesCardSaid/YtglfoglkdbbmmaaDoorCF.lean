/- Contract of package cover: Check. -/
import Derived.Test.YtglfoglkdbbmmaaDoorCE
import Derived.Test.YtglfoglkdbbmmaaDoorGJ
namespace Go.Proofs.YtglfoglkdbbmmaaDoor
open Go.RowKit

/-- Whether pieces are accepted. -/
def checkB (l : List Int) (ss : List (List Int × List Int)) (ps : List (List Int)) : Bool := decide (ps.length = ss.length) && (Globe.validL l && (Globe.stripsOk ss && Globe.checkL l (ss.map fun s => s.1) ps))
theorem check_step {rest s p : List Int} {Ss ps : List (List Int)} {i : Nat} (hs : Ss[i]? = some s) (hp : ps[i]? = some p) :
    Globe.checkL rest (Ss.drop i) (ps.drop i) = (Globe.containsB s p && Globe.containsB rest p && Globe.checkL (Globe.lessL rest p) (Ss.drop (i + 1)) (ps.drop (i + 1))) := by
  obtain ⟨h1, e1⟩ := List.getElem?_eq_some_iff.1 hs
  obtain ⟨h2, e2⟩ := List.getElem?_eq_some_iff.1 hp
  rw [List.drop_eq_getElem_cons h1, List.drop_eq_getElem_cons h2, e1, e2]
  rfl
theorem check_end {rest : List Int} {Ss ps : List (List Int)} {n : Nat} (hs : Ss.length = n) (hp : ps.length = n) : Globe.checkL rest (Ss.drop n) (ps.drop n) = decide ((Globe.cellsTo rest 24).length = 0) := by
  rw [← hs, List.drop_length, hs, ← hp, List.drop_length]; rfl

set_option maxHeartbeats 1000000 in
theorem Check_no {w1 w2 : World} {a a1 : Option Addr} {n n1 np : Nat} {ss : List (List Int × List Int)} {l : List Int} {v : Bool} (c k cp : Nat) (ap : Option Addr) (w : World) (hl : AA w1 a1 l n1 v) (e1 : Ext w1 w) (h : StripsAt w2 a n ss) (e2 : Ext w2 w) (hnp : np ≤ 140737488355328) (hno : (decide (np = n) && (v && Globe.stripsOk ss)) = false) :
    Calls Tryd.prog 23 #[.agg #[.slice a1 n1 k], .slice a n c, .slice ap np cp] w fun e w' => e = .returned (.bool false) ∧ Ext w w' := by
  have hn := h.2.1
  have H := Lib.hid (h.ext e2)
  replace hl := hl.ext e1
  clear h e1 e2
  by_cases hq : np = n
  · have hd : (np : Int) = (n : Int) := by omega
    rw [decide_eq_true hq, Bool.true_and] at hno
    subst hq
    clear hd
    cases v
    · go_enter Tryd.func23, Tryd.ntmps23
      go_wp2_with (go_at_call 38; refine (Valid_e k _ hl (by (repeat' (first | (with_reducible assumption) | (with_reducible exact Ext.refl _) | (with_reducible refine Ext.alloc ?_ _) | (with_reducible refine Ext.drew ?_) | (with_reducible refine Ext.drewN ?_ _) | (with_reducible refine Ext.setCell ?_ ?_ _) | (with_reducible refine Ext.trans ?_ (by assumption)) | go_size)))).mono ?_; rintro e w1 ⟨rfl, hb⟩; have hc := hb.cellE; have hf := hb.frozenE; have hz := hb.size; have ha := alloc_keeps w1; (try simp only [World.size_alloc] at hc hf hz); (try simp only [World.size_setCell] at hc hf hz); (try simp only [World.size_drew] at hc hf hz))
      go_ret
      exact ⟨rfl, by (repeat' (first | (with_reducible assumption) | (with_reducible exact Ext.refl _) | (with_reducible refine Ext.alloc ?_ _) | (with_reducible refine Ext.drew ?_) | (with_reducible refine Ext.drewN ?_ _) | (with_reducible refine Ext.setCell ?_ ?_ _) | (with_reducible refine Ext.trans ?_ (by assumption)) | go_size))⟩
    · have hs : Globe.stripsOk ss = false := by simpa using hno
      have Hs := Lib.hid hs; clear hs hno
      go_enter Tryd.func23, Tryd.ntmps23
      go_wp2_with fail
      refine (Valid_e k _ hl (by (repeat' (first | (with_reducible assumption) | (with_reducible exact Ext.refl _) | (with_reducible refine Ext.alloc ?_ _) | (with_reducible refine Ext.drew ?_) | (with_reducible refine Ext.drewN ?_ _) | (with_reducible refine Ext.setCell ?_ ?_ _) | (with_reducible refine Ext.trans ?_ (by assumption)) | go_size)))).mono ?_
      rintro e w1 ⟨rfl, hb⟩
      have hc := hb.cellE; have hf := hb.frozenE; have hz := hb.size; have ha := alloc_keeps w1; (try simp only [World.size_alloc] at hc hf hz); (try simp only [World.size_setCell] at hc hf hz); (try simp only [World.size_drew] at hc hf hz)
      go_wp2_with fail
      refine (ValidS_r c _ H.out (by (repeat' (first | (with_reducible assumption) | (with_reducible exact Ext.refl _) | (with_reducible refine Ext.alloc ?_ _) | (with_reducible refine Ext.drew ?_) | (with_reducible refine Ext.drewN ?_ _) | (with_reducible refine Ext.setCell ?_ ?_ _) | (with_reducible refine Ext.trans ?_ (by assumption)) | go_size))) Hs.out).mono ?_
      rintro e w2 ⟨rfl, hb⟩
      go_wp2_with fail
      go_ret
      exact ⟨rfl, by (repeat' (first | (with_reducible assumption) | (with_reducible exact Ext.refl _) | (with_reducible refine Ext.alloc ?_ _) | (with_reducible refine Ext.drew ?_) | (with_reducible refine Ext.drewN ?_ _) | (with_reducible refine Ext.setCell ?_ ?_ _) | (with_reducible refine Ext.trans ?_ (by assumption)) | go_size))⟩
  · have hd : ¬ (np : Int) = (n : Int) := by omega
    clear hno hq
    go_enter Tryd.func23, Tryd.ntmps23
    go_wp2_with fail
    go_ret
    exact ⟨rfl, by (repeat' (first | (with_reducible assumption) | (with_reducible exact Ext.refl _) | (with_reducible refine Ext.alloc ?_ _) | (with_reducible refine Ext.drew ?_) | (with_reducible refine Ext.drewN ?_ _) | (with_reducible refine Ext.setCell ?_ ?_ _) | (with_reducible refine Ext.trans ?_ (by assumption)) | go_size))⟩

set_option maxRecDepth 100000 in
set_option maxHeartbeats 8000000 in
theorem Check_v {w1 w2 w3 : World} {a ap : Option Addr} {n : Nat} {ss : List (List Int × List Int)} {ps : List (List Int)} {b o : Nat} (c k cp : Nat) {l : List Int} (w : World) (hl : VA w1 b o l) (e1 : Ext w1 w) (h : StripsAt w2 a n ss) (e2 : Ext w2 w) (hok : Globe.stripsOk ss = true) (hp : AreasAt w3 ap n ps) (e3 : Ext w3 w) (hT : Tab w) :
    Calls Tryd.prog 23 #[.agg #[.slice (some ⟨b, o, none⟩) 24 k], .slice a n c, .slice ap n cp] w fun e w' => e = .returned (.bool (Globe.checkL l (ss.map fun s => s.1) ps)) ∧ Ext w w' := by
  have H := Lib.hid (h.ext e2)
  have HL := Lib.hid (hl.ext e1)
  have HP := Lib.hid (hp.ext e3)
  have HT := Lib.hid hT
  have hbl := HL.out.lt
  have hn := h.2.1
  clear h hl e1 e2 hp e3 hT
  have Hok := Lib.hid hok; clear hok
  go_enter Tryd.func23, Tryd.ntmps23
  go_wp2_with fail
  refine (Valid_e k _ HL.out.aa (by (repeat' (first | (with_reducible assumption) | (with_reducible exact Ext.refl _) | (with_reducible refine Ext.alloc ?_ _) | (with_reducible refine Ext.drew ?_) | (with_reducible refine Ext.drewN ?_ _) | (with_reducible refine Ext.setCell ?_ ?_ _) | (with_reducible refine Ext.trans ?_ (by assumption)) | go_size)))).mono ?_
  rintro e w1 ⟨rfl, hb⟩
  have hc := hb.cellE; have hf := hb.frozenE; have hz := hb.size; have ha := alloc_keeps w1; (try simp only [World.size_alloc] at hc hf hz); (try simp only [World.size_setCell] at hc hf hz); (try simp only [World.size_drew] at hc hf hz)
  go_wp2_with fail
  refine (ValidS_r c _ H.out (by (repeat' (first | (with_reducible assumption) | (with_reducible exact Ext.refl _) | (with_reducible refine Ext.alloc ?_ _) | (with_reducible refine Ext.drew ?_) | (with_reducible refine Ext.drewN ?_ _) | (with_reducible refine Ext.setCell ?_ ?_ _) | (with_reducible refine Ext.trans ?_ (by assumption)) | go_size))) Hok.out).mono ?_
  rintro e w2 ⟨rfl, hb⟩
  have hc := hb.cellE; have hf := hb.frozenE; have hz := hb.size; have ha := alloc_keeps w2; (try simp only [World.size_alloc] at hc hf hz); (try simp only [World.size_setCell] at hc hf hz); (try simp only [World.size_drew] at hc hf hz)
  have hE2 : Ext w w2 := by (repeat' (first | (with_reducible assumption) | (with_reducible exact Ext.refl _) | (with_reducible refine Ext.alloc ?_ _) | (with_reducible refine Ext.drew ?_) | (with_reducible refine Ext.drewN ?_ _) | (with_reducible refine Ext.setCell ?_ ?_ _) | (with_reducible refine Ext.trans ?_ (by assumption)) | go_size))
  go_wp2_with fail
  obtain ⟨R, hR⟩ : ∃ R, R = w2.heap.size := ⟨_, rfl⟩
  have hwR : w.heap.size ≤ R := by have := hE2.size; omega
  refine wp_name (fun V => Ext w V ∧ BoxAt V R 0 (.slice (some ⟨b, o, none⟩) 24 k)) ⟨hE2.trans (Ext.alloc (Ext.refl _) _), by rw [hR]; simp [go_sem], by rw [hR]; simp [go_sem]⟩ ?_
  rw [← hR]
  clear hR hb hc hf hz ha hE2
  clear hb hc hf hz ha
  rintro V ⟨hE, hBR⟩
  go_loopw [28] (fun p wr => ∃ i : Nat, i ≤ n ∧ p = .int .i64 i ∧ Ext w wr ∧ ∃ Br r kr rest, BoxAt wr R 0 (.slice (some ⟨Br, r, none⟩) 24 kr) ∧ Hid (VA wr Br r rest) ∧ Br ≠ R ∧ Hid (Globe.checkL l (ss.map fun s => s.1) ps = Globe.checkL rest ((ss.map fun s => s.1).drop i) (ps.drop i))) (fun p _ => n - (intOf p).toNat)
  case atStart => exact ⟨0, by omega, rfl, hE, b, o, k, l, hBR, HL.out.ext hE, by omega, rfl⟩
  case round =>
    clear hE hBR V
    obtain ⟨i, hi, rfl, hE, Br, r, kr, rest, ⟨cR, fR⟩, Hr, hBr, Hc⟩ := hrel
    have lR := World.block_lt_of_cell? wr _ cR
    by_cases hlt : i < n
    · obtain ⟨b3, off, s, rfl, hs, hst⟩ := H.out.at hlt
      obtain ⟨b4, off4, p, a2, n2, c2, v2, rfl, hp, d2, g2⟩ := HP.out.at hlt
      obtain ⟨q1, q2, q3⟩ := okS_at Hok.out hs
      obtain ⟨B1, o1, c1, B2, o2, cc2, d1, -, g1, -⟩ := hst.v q1 q2
      replace d1 := hE.cell d1; replace d2 := hE.cell d2
      have G1 := Lib.hid (g1.ext hE); have G2 := Lib.hid (g2.ext hE); clear g1 g2 hst q1 q2 q3
      have i0 : (0 : Int) ≤ (i : Int) := by omega
      have i1 : (i : Int) < (n : Int) := by omega
      have hcs := check_step (rest := rest) (Ss := ss.map fun s => s.1) (s := s.1) (by rw [List.getElem?_map, hs]; rfl) hp
      rw [← Hc.out] at hcs
      have Hcs := Lib.hid hcs; clear hcs hs hp Hc
      have ld1 := World.block_lt_of_cell? wr _ d1
      have ld2 := World.block_lt_of_cell? wr _ d2
      obtain ⟨V, rfl⟩ : ∃ V, V = wr := ⟨_, rfl⟩
      cases hq1 : Globe.containsB s.1 p
      · have Hq1 := Lib.hid hq1; clear hq1
        go_wp2_with fail
        obtain ⟨P9, hP9⟩ : ∃ P9, P9 = V.heap.size := ⟨_, rfl⟩
        refine wp_name (fun V1 => Ext V V1 ∧ V1.cell? ⟨P9, 0, none⟩ = some (.slice a2 n2 c2)) ⟨Ext.alloc (Ext.refl _) _, by rw [hP9]; simp [go_sem]⟩ ?_
        rw [← hP9]
        clear hP9
        rintro V1 ⟨hE1, c9⟩
        have d1' := hE1.cell d1
        have cR' := hE1.cell cR
        -- <<chk1
        refine wg_begin [(some 33, [1], []), (some 34, [8], []), (some 35, [33, 34], [0, 1]), (some 36, [35], [2]), (some 37, [36], [3]), (some 38, [9], []), (some 39, [37, 38], [4, 5]), (some 40, [39], [6]), (some 41, [40], [7, 6]), (some 42, [7, 41], [8]), (some 43, [9, 41], [8]), (some 44, [42, 43, 41], [9, 10, 8, 8]), (some 45, [44, 41], [11, 8]), (some 46, [41, 45], [8, 12])] (fun w' => Ext V1 w' ∧ w'.cell? ⟨b3, off + i * 2, none⟩ = some (.slice (some ⟨B1, o1, none⟩) 24 c1) ∧ w'.cell? ⟨P9, 0, none⟩ = some (.slice a2 n2 c2) ∧ w'.cell? ⟨R, 0, none⟩ = some (.slice (some ⟨Br, r, none⟩) 24 kr)) (by kernel_rfl) (by kernel_rfl) (by kernel_rfl) (by kernel_rfl) (by intro c d v a w h; cases d <;> first | exact h | (exact nomatch h.1) | (dsimp +zetaDelta only [Exit.then, Exit.inBlock] at h ⊢; exact h)) (⟨Ext.drew (Ext.refl _), d1', c9, cR'⟩) (fun ops Q L hL hR hK hHeld => ?_); replace hL := Lib.hid hL; have hW1 := @evalW_tmp; have hW2 := @evalW_const; have hW3 := @evalW_func; have hW4 := @look_cons; have hW5 := @look_nil
        have r1 := wg_read hL.out 1 rfl
        have r8 := wg_read hL.out 8 rfl
        have r9 := wg_read hL.out 9 rfl
        (refine wg_take 0 (v := ?_) hR rfl (by kernel_rfl) (by kernel_rfl) ?_ (by with_reducible assumption) ?_; rotate_left; (focus (intro w hSw; (try dsimp only at hSw); go_simp; (try with_reducible rfl))); (dsimp only [putW]))
        (refine wg_take 1 (v := ?_) hR rfl (by kernel_rfl) (by kernel_rfl) ?_ (by with_reducible assumption) ?_; rotate_left; (focus (intro w hSw; (try dsimp only at hSw); go_simp; (try with_reducible rfl))); (dsimp only [putW]))
        (refine wg_take 2 (v := ?_) hR rfl (by kernel_rfl) (by kernel_rfl) ?_ (by with_reducible assumption) ?_; rotate_left; (focus (intro w hSw; (try dsimp only at hSw); go_simp; (try with_reducible rfl))); (dsimp only [putW]))
        (refine wg_take 3 (v := ?_) hR rfl (by kernel_rfl) (by kernel_rfl) ?_ (by with_reducible assumption) ?_; rotate_left; (focus (intro w hSw; (try dsimp only at hSw); go_simp; (try with_reducible rfl))); (dsimp only [putW]))
        (refine wg_take 4 (v := ?_) hR rfl (by kernel_rfl) (by kernel_rfl) ?_ (by with_reducible assumption) ?_; rotate_left; (focus (intro w hSw; (try dsimp only at hSw); go_simp; (try with_reducible rfl))); (dsimp only [putW]))
        (refine wg_take 5 (v := ?_) hR rfl (by kernel_rfl) (by kernel_rfl) ?_ (by with_reducible assumption) ?_; rotate_left; (focus (intro w hSw; (try dsimp only at hSw); go_simp; (try with_reducible rfl))); (dsimp only [putW]))
        (refine wg_step 6 hR rfl (by kernel_rfl) (by kernel_rfl) ?_ (by kernel_rfl); refine wg_call (f := 32) (args := ?_) ?_ ?_; rotate_left; (focus (go_simp; first | done | (with_reducible rfl) | (refine ⟨?_, ?_⟩ <;> with_reducible rfl))); (go_at_call 32; refine (Contains_c c1 c2 _ G1.out.aa (hE1.trans hHeld.1) G2.out (hE1.trans hHeld.1)).mono ?_; rintro e w1 ⟨rfl, hb⟩; rw [Hq1.out]); refine ⟨_, rfl, ⟨hHeld.1.trans hb, hb.cell hHeld.2.1, hb.cell hHeld.2.2.1, hb.cell hHeld.2.2.2⟩, fun hHeld => ?_⟩; (dsimp only [putW]))
        (refine wg_take 7 (v := ?_) hR rfl (by kernel_rfl) (by kernel_rfl) ?_ (by with_reducible assumption) ?_; rotate_left; (focus (intro w hSw; (try dsimp only at hSw); go_simp; (try with_reducible rfl))); (dsimp only [putW]))
        (refine wg_take 8 (v := ?_) hR rfl (by kernel_rfl) (by kernel_rfl) ?_ (by with_reducible assumption) ?_; rotate_left; (focus (intro w hSw; (try dsimp only at hSw); go_simp; (try with_reducible rfl))); (dsimp only [putW]))
        (refine wg_skip 9 hR rfl (by kernel_rfl) (by kernel_rfl) (by with_reducible assumption) ?_; (dsimp only [putW]))
        (refine wg_skip 10 hR rfl (by kernel_rfl) (by kernel_rfl) (by with_reducible assumption) ?_; (dsimp only [putW]))
        (refine wg_skip 11 hR rfl (by kernel_rfl) (by kernel_rfl) (by with_reducible assumption) ?_; (dsimp only [putW]))
        (refine wg_skip 12 hR rfl (by kernel_rfl) (by kernel_rfl) (by with_reducible assumption) ?_; (dsimp only [putW]))
        (refine wg_take 13 (v := ?_) hR rfl (by kernel_rfl) (by kernel_rfl) ?_ (by with_reducible assumption) ?_; rotate_left; (focus (intro w hSw; (try dsimp only at hSw); go_simp; (try with_reducible rfl))); (dsimp only [putW]))
        refine wg_fin hR hK [(33, 13), (0, 12), (0, 11), (0, 10), (0, 9), (0, 8), (0, 7), (0, 6), (0, 5), (0, 4), (0, 3), (0, 2), (0, 1), (0, 0)] (by kernel_rfl) (by kernel_rfl) (by dsimp only [mg, gsOf, valAt]) ?_; clear hW1 hW2 hW3 hW4 hW5 hR hK hL
        clear r1
        clear r8
        clear r9
        -- >>
        have hb := hHeld.1
        clear hHeld
        go_wp2_with fail
        go_ret
        exact ⟨ret_bool (by rw [Hcs.out, Hq1.out]; rfl), hE.trans (hE1.trans hb)⟩
      · have Hq1 := Lib.hid hq1; clear hq1
        cases hq2 : Globe.containsB rest p
        · have Hq2 := Lib.hid hq2; clear hq2
          go_wp2_with fail
          obtain ⟨P9, hP9⟩ : ∃ P9, P9 = V.heap.size := ⟨_, rfl⟩
          refine wp_name (fun V1 => Ext V V1 ∧ V1.cell? ⟨P9, 0, none⟩ = some (.slice a2 n2 c2)) ⟨Ext.alloc (Ext.refl _) _, by rw [hP9]; simp [go_sem]⟩ ?_
          rw [← hP9]
          clear hP9
          rintro V1 ⟨hE1, c9⟩
          have d1' := hE1.cell d1
          have cR' := hE1.cell cR
          -- <<chk2
          refine wg_begin [(some 33, [1], []), (some 34, [8], []), (some 35, [33, 34], [0, 1]), (some 36, [35], [2]), (some 37, [36], [3]), (some 38, [9], []), (some 39, [37, 38], [4, 5]), (some 40, [39], [6]), (some 41, [40], [7, 6]), (some 42, [7, 41], [8]), (some 43, [9, 41], [8]), (some 44, [42, 43, 41], [9, 10, 8, 8]), (some 45, [44, 41], [11, 8]), (some 46, [41, 45], [8, 12])] (fun w' => Ext V1 w' ∧ w'.cell? ⟨b3, off + i * 2, none⟩ = some (.slice (some ⟨B1, o1, none⟩) 24 c1) ∧ w'.cell? ⟨P9, 0, none⟩ = some (.slice a2 n2 c2) ∧ w'.cell? ⟨R, 0, none⟩ = some (.slice (some ⟨Br, r, none⟩) 24 kr)) (by kernel_rfl) (by kernel_rfl) (by kernel_rfl) (by kernel_rfl) (by intro c d v a w h; cases d <;> first | exact h | (exact nomatch h.1) | (dsimp +zetaDelta only [Exit.then, Exit.inBlock] at h ⊢; exact h)) (⟨Ext.drew (Ext.refl _), d1', c9, cR'⟩) (fun ops Q L hL hR hK hHeld => ?_); replace hL := Lib.hid hL; have hW1 := @evalW_tmp; have hW2 := @evalW_const; have hW3 := @evalW_func; have hW4 := @look_cons; have hW5 := @look_nil
          have r1 := wg_read hL.out 1 rfl
          have r8 := wg_read hL.out 8 rfl
          have r9 := wg_read hL.out 9 rfl
          have r7 := wg_read hL.out 7 rfl
          (refine wg_take 0 (v := ?_) hR rfl (by kernel_rfl) (by kernel_rfl) ?_ (by with_reducible assumption) ?_; rotate_left; (focus (intro w hSw; (try dsimp only at hSw); go_simp; (try with_reducible rfl))); (dsimp only [putW]))
          (refine wg_take 1 (v := ?_) hR rfl (by kernel_rfl) (by kernel_rfl) ?_ (by with_reducible assumption) ?_; rotate_left; (focus (intro w hSw; (try dsimp only at hSw); go_simp; (try with_reducible rfl))); (dsimp only [putW]))
          (refine wg_take 2 (v := ?_) hR rfl (by kernel_rfl) (by kernel_rfl) ?_ (by with_reducible assumption) ?_; rotate_left; (focus (intro w hSw; (try dsimp only at hSw); go_simp; (try with_reducible rfl))); (dsimp only [putW]))
          (refine wg_take 3 (v := ?_) hR rfl (by kernel_rfl) (by kernel_rfl) ?_ (by with_reducible assumption) ?_; rotate_left; (focus (intro w hSw; (try dsimp only at hSw); go_simp; (try with_reducible rfl))); (dsimp only [putW]))
          (refine wg_take 4 (v := ?_) hR rfl (by kernel_rfl) (by kernel_rfl) ?_ (by with_reducible assumption) ?_; rotate_left; (focus (intro w hSw; (try dsimp only at hSw); go_simp; (try with_reducible rfl))); (dsimp only [putW]))
          (refine wg_take 5 (v := ?_) hR rfl (by kernel_rfl) (by kernel_rfl) ?_ (by with_reducible assumption) ?_; rotate_left; (focus (intro w hSw; (try dsimp only at hSw); go_simp; (try with_reducible rfl))); (dsimp only [putW]))
          (refine wg_step 6 hR rfl (by kernel_rfl) (by kernel_rfl) ?_ (by kernel_rfl); refine wg_call (f := 32) (args := ?_) ?_ ?_; rotate_left; (focus (go_simp; first | done | (with_reducible rfl) | (refine ⟨?_, ?_⟩ <;> with_reducible rfl))); (go_at_call 32; refine (Contains_c c1 c2 _ G1.out.aa (hE1.trans hHeld.1) G2.out (hE1.trans hHeld.1)).mono ?_; rintro e w1 ⟨rfl, hb⟩; rw [Hq1.out]); refine ⟨_, rfl, ⟨hHeld.1.trans hb, hb.cell hHeld.2.1, hb.cell hHeld.2.2.1, hb.cell hHeld.2.2.2⟩, fun hHeld => ?_⟩; (dsimp only [putW]))
          (refine wg_take 7 (v := ?_) hR rfl (by kernel_rfl) (by kernel_rfl) ?_ (by with_reducible assumption) ?_; rotate_left; (focus (intro w hSw; (try dsimp only at hSw); go_simp; (try with_reducible rfl))); (dsimp only [putW]))
          (refine wg_take 8 (v := ?_) hR rfl (by kernel_rfl) (by kernel_rfl) ?_ (by with_reducible assumption) ?_; rotate_left; (focus (intro w hSw; (try dsimp only at hSw); go_simp; (try with_reducible rfl))); (dsimp only [putW]))
          (refine wg_take 9 (v := ?_) hR rfl (by kernel_rfl) (by kernel_rfl) ?_ (by with_reducible assumption) ?_; rotate_left; (focus (intro w hSw; (try dsimp only at hSw); go_simp; (try with_reducible rfl))); (dsimp only [putW]))
          (refine wg_take 10 (v := ?_) hR rfl (by kernel_rfl) (by kernel_rfl) ?_ (by with_reducible assumption) ?_; rotate_left; (focus (intro w hSw; (try dsimp only at hSw); go_simp; (try with_reducible rfl))); (dsimp only [putW]))
          (refine wg_step 11 hR rfl (by kernel_rfl) (by kernel_rfl) ?_ (by kernel_rfl); refine wg_call (f := 32) (args := ?_) ?_ ?_; rotate_left; (focus (go_simp; first | done | (with_reducible rfl) | (refine ⟨?_, ?_⟩ <;> with_reducible rfl))); (go_at_call 32; refine (Contains_c kr c2 _ Hr.out.aa (hE1.trans hHeld.1) G2.out (hE1.trans hHeld.1)).mono ?_; rintro e w1 ⟨rfl, hb⟩; rw [Hq2.out]); refine ⟨_, rfl, ⟨hHeld.1.trans hb, hb.cell hHeld.2.1, hb.cell hHeld.2.2.1, hb.cell hHeld.2.2.2⟩, fun hHeld => ?_⟩; (dsimp only [putW]))
          (refine wg_take 12 (v := ?_) hR rfl (by kernel_rfl) (by kernel_rfl) ?_ (by with_reducible assumption) ?_; rotate_left; (focus (intro w hSw; (try dsimp only at hSw); go_simp; (try with_reducible rfl))); (dsimp only [putW]))
          (refine wg_take 13 (v := ?_) hR rfl (by kernel_rfl) (by kernel_rfl) ?_ (by with_reducible assumption) ?_; rotate_left; (focus (intro w hSw; (try dsimp only at hSw); go_simp; (try with_reducible rfl))); (dsimp only [putW]))
          refine wg_fin hR hK [(33, 13), (0, 12), (0, 11), (0, 10), (0, 9), (0, 8), (0, 7), (0, 6), (0, 5), (0, 4), (0, 3), (0, 2), (0, 1), (0, 0)] (by kernel_rfl) (by kernel_rfl) (by dsimp only [mg, gsOf, valAt]) ?_; clear hW1 hW2 hW3 hW4 hW5 hR hK hL
          clear r1
          clear r8
          clear r9
          clear r7
          -- >>
          have hb := hHeld.1
          clear hHeld
          go_wp2_with fail
          go_ret
          exact ⟨ret_bool (by rw [Hcs.out, Hq1.out, Hq2.out]; rfl), hE.trans (hE1.trans hb)⟩
        · have hvp := (Globe.contains_v hq2).2
          obtain rfl : v2 = true := G2.out.2.2.2.symm.trans hvp
          obtain ⟨B2', o2', rfl, rfl, g2'⟩ := G2.out.va
          have G3 := Lib.hid g2'; clear g2' hvp
          have Hq2 := Lib.hid hq2; clear hq2
          go_wp2_with fail
          obtain ⟨P9, hP9⟩ : ∃ P9, P9 = V.heap.size := ⟨_, rfl⟩
          refine wp_name (fun V1 => Ext V V1 ∧ V1.cell? ⟨P9, 0, none⟩ = some (.slice (some ⟨B2', o2', none⟩) 24 c2)) ⟨Ext.alloc (Ext.refl _) _, by rw [hP9]; simp [go_sem]⟩ ?_
          rw [← hP9]
          clear hP9
          rintro V1 ⟨hE1, c9⟩
          have d1' := hE1.cell d1
          have cR' := hE1.cell cR
          -- <<chk3
          refine wg_begin [(some 33, [1], []), (some 34, [8], []), (some 35, [33, 34], [0, 1]), (some 36, [35], [2]), (some 37, [36], [3]), (some 38, [9], []), (some 39, [37, 38], [4, 5]), (some 40, [39], [6]), (some 41, [40], [7, 6]), (some 42, [7, 41], [8]), (some 43, [9, 41], [8]), (some 44, [42, 43, 41], [9, 10, 8, 8]), (some 45, [44, 41], [11, 8]), (some 46, [41, 45], [8, 12])] (fun w' => Ext V1 w' ∧ w'.cell? ⟨b3, off + i * 2, none⟩ = some (.slice (some ⟨B1, o1, none⟩) 24 c1) ∧ w'.cell? ⟨P9, 0, none⟩ = some (.slice (some ⟨B2', o2', none⟩) 24 c2) ∧ w'.cell? ⟨R, 0, none⟩ = some (.slice (some ⟨Br, r, none⟩) 24 kr)) (by kernel_rfl) (by kernel_rfl) (by kernel_rfl) (by kernel_rfl) (by intro c d v a w h; cases d <;> first | exact h | (exact nomatch h.1) | (dsimp +zetaDelta only [Exit.then, Exit.inBlock] at h ⊢; exact h)) (⟨Ext.drew (Ext.refl _), d1', c9, cR'⟩) (fun ops Q L hL hR hK hHeld => ?_); replace hL := Lib.hid hL; have hW1 := @evalW_tmp; have hW2 := @evalW_const; have hW3 := @evalW_func; have hW4 := @look_cons; have hW5 := @look_nil
          have r1 := wg_read hL.out 1 rfl
          have r8 := wg_read hL.out 8 rfl
          have r9 := wg_read hL.out 9 rfl
          have r7 := wg_read hL.out 7 rfl
          (refine wg_take 0 (v := ?_) hR rfl (by kernel_rfl) (by kernel_rfl) ?_ (by with_reducible assumption) ?_; rotate_left; (focus (intro w hSw; (try dsimp only at hSw); go_simp; (try with_reducible rfl))); (dsimp only [putW]))
          (refine wg_take 1 (v := ?_) hR rfl (by kernel_rfl) (by kernel_rfl) ?_ (by with_reducible assumption) ?_; rotate_left; (focus (intro w hSw; (try dsimp only at hSw); go_simp; (try with_reducible rfl))); (dsimp only [putW]))
          (refine wg_take 2 (v := ?_) hR rfl (by kernel_rfl) (by kernel_rfl) ?_ (by with_reducible assumption) ?_; rotate_left; (focus (intro w hSw; (try dsimp only at hSw); go_simp; (try with_reducible rfl))); (dsimp only [putW]))
          (refine wg_take 3 (v := ?_) hR rfl (by kernel_rfl) (by kernel_rfl) ?_ (by with_reducible assumption) ?_; rotate_left; (focus (intro w hSw; (try dsimp only at hSw); go_simp; (try with_reducible rfl))); (dsimp only [putW]))
          (refine wg_take 4 (v := ?_) hR rfl (by kernel_rfl) (by kernel_rfl) ?_ (by with_reducible assumption) ?_; rotate_left; (focus (intro w hSw; (try dsimp only at hSw); go_simp; (try with_reducible rfl))); (dsimp only [putW]))
          (refine wg_take 5 (v := ?_) hR rfl (by kernel_rfl) (by kernel_rfl) ?_ (by with_reducible assumption) ?_; rotate_left; (focus (intro w hSw; (try dsimp only at hSw); go_simp; (try with_reducible rfl))); (dsimp only [putW]))
          (refine wg_step 6 hR rfl (by kernel_rfl) (by kernel_rfl) ?_ (by kernel_rfl); refine wg_call (f := 32) (args := ?_) ?_ ?_; rotate_left; (focus (go_simp; first | done | (with_reducible rfl) | (refine ⟨?_, ?_⟩ <;> with_reducible rfl))); (go_at_call 32; refine (Contains_c c1 c2 _ G1.out.aa (hE1.trans hHeld.1) G3.out.aa (hE1.trans hHeld.1)).mono ?_; rintro e w1 ⟨rfl, hb⟩; rw [Hq1.out]); refine ⟨_, rfl, ⟨hHeld.1.trans hb, hb.cell hHeld.2.1, hb.cell hHeld.2.2.1, hb.cell hHeld.2.2.2⟩, fun hHeld => ?_⟩; (dsimp only [putW]))
          (refine wg_take 7 (v := ?_) hR rfl (by kernel_rfl) (by kernel_rfl) ?_ (by with_reducible assumption) ?_; rotate_left; (focus (intro w hSw; (try dsimp only at hSw); go_simp; (try with_reducible rfl))); (dsimp only [putW]))
          (refine wg_take 8 (v := ?_) hR rfl (by kernel_rfl) (by kernel_rfl) ?_ (by with_reducible assumption) ?_; rotate_left; (focus (intro w hSw; (try dsimp only at hSw); go_simp; (try with_reducible rfl))); (dsimp only [putW]))
          (refine wg_take 9 (v := ?_) hR rfl (by kernel_rfl) (by kernel_rfl) ?_ (by with_reducible assumption) ?_; rotate_left; (focus (intro w hSw; (try dsimp only at hSw); go_simp; (try with_reducible rfl))); (dsimp only [putW]))
          (refine wg_take 10 (v := ?_) hR rfl (by kernel_rfl) (by kernel_rfl) ?_ (by with_reducible assumption) ?_; rotate_left; (focus (intro w hSw; (try dsimp only at hSw); go_simp; (try with_reducible rfl))); (dsimp only [putW]))
          (refine wg_step 11 hR rfl (by kernel_rfl) (by kernel_rfl) ?_ (by kernel_rfl); refine wg_call (f := 32) (args := ?_) ?_ ?_; rotate_left; (focus (go_simp; first | done | (with_reducible rfl) | (refine ⟨?_, ?_⟩ <;> with_reducible rfl))); (go_at_call 32; refine (Contains_c kr c2 _ Hr.out.aa (hE1.trans hHeld.1) G3.out.aa (hE1.trans hHeld.1)).mono ?_; rintro e w1 ⟨rfl, hb⟩; rw [Hq2.out]); refine ⟨_, rfl, ⟨hHeld.1.trans hb, hb.cell hHeld.2.1, hb.cell hHeld.2.2.1, hb.cell hHeld.2.2.2⟩, fun hHeld => ?_⟩; (dsimp only [putW]))
          (refine wg_take 12 (v := ?_) hR rfl (by kernel_rfl) (by kernel_rfl) ?_ (by with_reducible assumption) ?_; rotate_left; (focus (intro w hSw; (try dsimp only at hSw); go_simp; (try with_reducible rfl))); (dsimp only [putW]))
          (refine wg_take 13 (v := ?_) hR rfl (by kernel_rfl) (by kernel_rfl) ?_ (by with_reducible assumption) ?_; rotate_left; (focus (intro w hSw; (try dsimp only at hSw); go_simp; (try with_reducible rfl))); (dsimp only [putW]))
          refine wg_fin hR hK [(33, 13), (0, 12), (0, 11), (0, 10), (0, 9), (0, 8), (0, 7), (0, 6), (0, 5), (0, 4), (0, 3), (0, 2), (0, 1), (0, 0)] (by kernel_rfl) (by kernel_rfl) (by dsimp only [mg, gsOf, valAt]) ?_; clear hW1 hW2 hW3 hW4 hW5 hR hK hL
          clear r1
          clear r8
          clear r9
          clear r7
          -- >>
          refine exit_at (fun V2 => Ext V V2 ∧ V2.cell? ⟨P9, 0, none⟩ = some (.slice (some ⟨B2', o2', none⟩) 24 c2)) ⟨hE1.trans hHeld.1, hHeld.2.2.1⟩ ?_
          clear hHeld hE1 c9 d1' cR'
          rintro V2 ⟨hE2, c9⟩
          obtain ⟨cR2, fR2⟩ := BoxAt.ext hE2 ⟨cR, fR⟩
          have lR2 := World.block_lt_of_cell? V2 _ cR2
          have l9 := World.block_lt_of_cell? V2 _ c9
          go_wp2_with fail
          refine (less_v kr c2 _ (Hr.out.ext hE2) (Ext.refl _) (G3.out.ext hE2) (Ext.refl _)).mono ?_
          rintro e w5 ⟨B5, k5, rfl, hB5, hv5, hb⟩
          have hc := hb.cellE; have hf := hb.frozenE; have hz := hb.size; have ha := alloc_keeps w5; (try simp only [World.size_alloc] at hc hf hz); (try simp only [World.size_setCell] at hc hf hz); (try simp only [World.size_drew] at hc hf hz)
          have HV5 := Lib.hid hv5; clear hv5
          go_wp2_with fail
          go_roundw
          case rel =>
            refine ⟨i + 1, by omega, by go_num, Ext.setCell (hE.trans (hE2.trans hb)) (p := ⟨R, 0, none⟩) hwR _, B5, 0, k5, _, BoxAt.set (BoxAt.ext hb ⟨cR2, fR2⟩) _, VA.other HV5.out (p := ⟨R, 0, none⟩) (by show R ≠ B5; omega) _, by omega, ?_⟩
            show _ = _
            rw [Hcs.out, Hq1.out, Hq2.out]; rfl
          case measure => simp [intOf]; omega
    · obtain rfl : i = n := by omega
      have hce := check_end (rest := rest) (Ss := ss.map fun s => s.1) (ps := ps) (n := i) (by rw [List.length_map]; exact H.out.1) HP.out.1
      rw [← Hc.out] at hce
      have Hce := Lib.hid hce; clear hce Hc
      go_wp2_with fail
      refine (Count_v kr _ Hr.out (Ext.refl _) (HT.out.ext hE)).mono ?_
      rintro e w5 ⟨rfl, hb⟩
      go_wp2_with fail
      go_ret
      exact ⟨ret_bool (by rw [Hce.out, Bool.eq_iff_iff]; simp), hE.trans hb⟩

theorem Check_c {w1 w2 w3 : World} {a a1 ap : Option Addr} {n n1 np : Nat} {ss : List (List Int × List Int)} {ps : List (List Int)} {l : List Int} {v : Bool} (c k cp : Nat) (w : World) (hl : AA w1 a1 l n1 v) (e1 : Ext w1 w) (h : StripsAt w2 a n ss) (e2 : Ext w2 w) (hp : AreasAt w3 ap np ps) (e3 : Ext w3 w) (hT : Tab w) :
    Calls Tryd.prog 23 #[.agg #[.slice a1 n1 k], .slice a n c, .slice ap np cp] w fun e w' => e = .returned (.bool (checkB l ss ps)) ∧ Ext w w' := by
  have hv := hl.2.2.2
  have hlen := h.1
  have hlp := hp.1
  unfold checkB
  rw [hv, hlen, hlp]
  cases hq : (decide (np = n) && (v && Globe.stripsOk ss))
  · rw [← Bool.and_assoc v, ← Bool.and_assoc, hq, Bool.false_and]
    exact Check_no c k cp ap w hl e1 h e2 hp.2.1 hq
  · simp only [Bool.and_eq_true, decide_eq_true_eq] at hq
    obtain ⟨rfl, rfl, hok⟩ := hq
    obtain ⟨b, o, rfl, rfl, r⟩ := hl.va
    rw [hok, decide_eq_true rfl, Bool.true_and, Bool.true_and, Bool.true_and]
    exact Check_v c k cp w r e1 h e2 hok hp e3 hT
theorem Check_r {w1 w2 w3 : World} {a a1 ap : Option Addr} {n n1 np : Nat} {ss : List (List Int × List Int)} {ps : List (List Int)} {l : List Int} {v r : Bool} (c k cp : Nat) (w : World) (hl : AA w1 a1 l n1 v) (e1 : Ext w1 w) (h : StripsAt w2 a n ss) (e2 : Ext w2 w) (hp : AreasAt w3 ap np ps) (e3 : Ext w3 w) (hT : Tab w) (hr : checkB l ss ps = r) :
    Calls Tryd.prog 23 #[.agg #[.slice a1 n1 k], .slice a n c, .slice ap np cp] w fun e w' => e = .returned (.bool r) ∧ Ext w w' := hr ▸ Check_c c k cp w hl e1 h e2 hp e3 hT

end Go.Proofs.YtglfoglkdbbmmaaDoor
