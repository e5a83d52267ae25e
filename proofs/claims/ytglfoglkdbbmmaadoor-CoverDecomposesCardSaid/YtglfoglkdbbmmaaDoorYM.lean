/- The walk of the law CoverDecomposes. -/
import Derived.Test.YtglfoglkdbbmmaaDoorCN
namespace Go.Proofs.YtglfoglkdbbmmaaDoor
open Go.RowKit Go.Shelf

def DLoop (V : World) (Br ro kr : Nat) (L0 : List Int) (ps : List (List Int)) (n t : Nat) (pc pi : Value) (wr : World) : Prop :=
  ∃ i cc B o k : Nat, i ≤ t ∧ pi = .int .i64 (i : Int) ∧ pc = .int .i64 (cc : Int) ∧ Hid (cc = n + Globe.sumC (ps.take i)) ∧ cc ≤ 1152 * (i + 1) ∧ Ext V wr ∧ BoxAt wr (V.heap.size + 1) 0 (.slice (some ⟨B, o, none⟩) 24 k) ∧ wr.cell? ⟨V.heap.size, 0, none⟩ = some (.slice (some ⟨Br, ro, none⟩) 24 kr) ∧ VA wr B o (Globe.uniL L0 (ps.take i)) ∧ B ≠ V.heap.size + 1

set_option maxRecDepth 1000000 in
set_option maxHeartbeats 16000000 in
theorem CoverDecomposes_walk (w : World) (v0 : Value) (o0 : Quads w v0) (v1 : Value) (o1 : Quads w v1) (hT : Tab w) :
    Calls Tryd.prog 6 #[v0, v1] w fun e w' => e = .returned (.bool true) ∧ Ext w w' := by
  obtain ⟨a0, n0, c0, q0, rfl, hnc0, hcm0, hz0, Q0⟩ := o0
  have HQ0 := Lib.hid Q0; clear Q0 hz0
  obtain ⟨a1, n1, c1, q1, rfl, hnc1, hcm1, hz1, Q1⟩ := o1
  have HQ1 := Lib.hid Q1; clear Q1 hz1
  have HT := Lib.hid hT; clear hT
  go_enter Tryd.func6, Tryd.ntmps6
  go_wp2_with fail
  refine calls_name (fun V => Ext w V) (by (repeat' (first | (with_reducible assumption) | (with_reducible exact Ext.refl _) | (with_reducible refine Ext.alloc ?_ _) | (with_reducible refine Ext.drew ?_) | (with_reducible refine Ext.drewN ?_ _) | (with_reducible refine Ext.setCell ?_ ?_ _) | (with_reducible refine Ext.trans ?_ (by assumption)) | go_size))) ?_
  intro V hE
  refine (sane_c _ (HT.out.ext hE)).mono ?_
  rintro e w1 ⟨rfl, hb⟩
  have hc := hb.cellE; have hf := hb.frozenE; have hz := hb.size; have ha := alloc_keeps w1; (try simp only [World.size_alloc] at hc hf hz); (try simp only [World.size_setCell] at hc hf hz); (try simp only [World.size_drew] at hc hf hz)
  go_wp2_with fail
  refine calls_name (fun V => Ext w V) (hE.trans (by first | exact hb | exact Ext.alloc hb _ | exact Ext.alloc (Ext.alloc hb _) _)) ?_
  clear hE  hb hc hf hz ha
  intro V hE
  refine (Area_c c0 _ HQ0.out hE (by omega)).mono ?_
  rintro e w1 ⟨Ba, ka, rfl, hB, hv, hb⟩
  have hc := hb.cellE; have hf := hb.frozenE; have hz := hb.size; have ha := alloc_keeps w1; (try simp only [World.size_alloc] at hc hf hz); (try simp only [World.size_setCell] at hc hf hz); (try simp only [World.size_drew] at hc hf hz)
  go_wp2_with fail
  obtain ⟨LA, hLA⟩ : ∃ L, L = areaL q0 n0 := ⟨_, rfl⟩
  rw [← hLA] at hv
  clear hLA
  obtain ⟨Oa, hO⟩ : ∃ O, O = w1.heap.size := ⟨_, rfl⟩
  rw [← hO]
  refine calls_name (fun V => Ext w V ∧ VA V Ba 0 (LA) ∧ V.cell? ⟨Oa, 0, none⟩ = some (.slice (some ⟨Ba, 0, none⟩) 24 ka)) ⟨hE.trans (by first | exact hb | exact Ext.alloc hb _ | exact Ext.alloc (Ext.alloc hb _) _), hv.ext (by first | exact Ext.refl _ | exact Ext.alloc (Ext.refl _) _ | exact Ext.alloc (Ext.alloc (Ext.refl _) _) _), by rw [hO]; simp [go_sem]⟩ ?_
  clear hE  hb hc hf hz ha hO
  rintro V ⟨hE, vA, cA⟩
  have lvA := vA.lt
  have lcA : Oa < V.heap.size := World.block_lt_of_cell? V _ cA
  refine (Strips_s _ HQ1.out hE hnc1 hcm1).mono ?_
  rintro e w1 ⟨ss, t, la, lc, rfl, hS, hok, ht9, hb⟩
  have hc := hb.cellE; have hf := hb.frozenE; have hz := hb.size; have ha := alloc_keeps w1; (try simp only [World.size_alloc] at hc hf hz); (try simp only [World.size_setCell] at hc hf hz); (try simp only [World.size_drew] at hc hf hz)
  go_wp2_with fail
  have Hok := Lib.hid hok; clear hok
  have t0 : (0 : Int) ≤ (t : Int) := by omega
  have t9 : (t : Int) ≤ 9 := by omega
  refine calls_name (fun V => Ext w V ∧ VA V Ba 0 (LA) ∧ V.cell? ⟨Oa, 0, none⟩ = some (.slice (some ⟨Ba, 0, none⟩) 24 ka) ∧ StripsAt V la t ss) ⟨hE.trans (by first | exact hb | exact Ext.alloc hb _ | exact Ext.alloc (Ext.alloc hb _) _), vA.ext (by first | exact hb | exact Ext.alloc hb _ | exact Ext.alloc (Ext.alloc hb _) _), Ext.cell (by first | exact hb | exact Ext.alloc hb _ | exact Ext.alloc (Ext.alloc hb _) _) cA, hS.ext (by first | exact Ext.refl _ | exact Ext.alloc (Ext.refl _) _ | exact Ext.alloc (Ext.alloc (Ext.refl _) _) _)⟩ ?_
  clear hE vA cA lvA lcA hb hc hf hz ha
  rintro V ⟨hE, vA, cA, sS⟩
  have lvA := vA.lt
  have lcA : Oa < V.heap.size := World.block_lt_of_cell? V _ cA
  refine (Decompose_s lc ka _ vA (Ext.refl _) sS (Ext.refl _) Hok.out).mono ?_
  rintro e w1 ⟨pa, pc, Br, ro, kr, rfl, hpc, hP, hv, hb⟩
  replace hE := hE.trans hb
  replace vA := vA.ext hb
  replace cA := hb.cell cA
  replace sS := sS.ext hb
  clear hb lvA lcA
  obtain ⟨V, rfl⟩ : ∃ V, V = w1 := ⟨_, rfl⟩
  have lvA := vA.lt
  have lcA : Oa < V.heap.size := World.block_lt_of_cell? V _ cA
  have lvR := hv.lt
  go_wp2_with fail
  have hvl := hv.2
  have hP0 := hP
  refine (Count_v kr _ hv (by (repeat' (first | (with_reducible assumption) | (with_reducible exact Ext.refl _) | (with_reducible refine Ext.alloc ?_ _) | (with_reducible refine Ext.drew ?_) | (with_reducible refine Ext.drewN ?_ _) | (with_reducible refine Ext.setCell ?_ ?_ _) | (with_reducible refine Ext.trans ?_ (by assumption)) | go_size))) (HT.out.ext (by (repeat' (first | (with_reducible assumption) | (with_reducible exact Ext.refl _) | (with_reducible refine Ext.alloc ?_ _) | (with_reducible refine Ext.drew ?_) | (with_reducible refine Ext.drewN ?_ _) | (with_reducible refine Ext.setCell ?_ ?_ _) | (with_reducible refine Ext.trans ?_ (by assumption)) | go_size))))).mono ?_
  rintro e w1 ⟨rfl, hb⟩
  have hc := hb.cellE; have hf := hb.frozenE; have hz := hb.size; have ha := alloc_keeps w1; (try simp only [World.size_alloc] at hc hf hz); (try simp only [World.size_setCell] at hc hf hz); (try simp only [World.size_drew] at hc hf hz)
  obtain ⟨n0', hn0⟩ : ∃ n, n = (Globe.cellsTo (Globe.leftL LA (ss.map fun s => s.1)) 24).length := ⟨_, rfl⟩
  rw [← hn0]
  have hn1 : n0' ≤ 1152 := by rw [hn0]; exact Globe.cellsTo_len _ 24
  have Hn0 := Lib.hid hn0; clear hn0
  have HP := Lib.hid hP; clear hP hP0
  go_wp2_with fail
  go_loopw [11, 12] (fun pc pi wr => DLoop V Br ro kr (Globe.leftL LA (ss.map fun s => s.1)) (Globe.piecesL LA (ss.map fun s => s.1)) n0' t pc pi wr) (fun _ pi _ => t - (intOf pi).toNat)
  case atStart =>
    refine ⟨0, n0', Br, ro, kr, by omega, rfl, rfl, ?_, by omega, by (repeat' (first | (with_reducible assumption) | (with_reducible exact Ext.refl _) | (with_reducible refine Ext.alloc ?_ _) | (with_reducible refine Ext.drew ?_) | (with_reducible refine Ext.drewN ?_ _) | (with_reducible refine Ext.setCell ?_ ?_ _) | (with_reducible refine Ext.trans ?_ (by assumption)) | go_size)), ⟨by simp [go_sem, hc, ha], by simp [go_sem, hf, ha]⟩, by simp [go_sem, hc, ha], hv.ext (by (repeat' (first | (with_reducible assumption) | (with_reducible exact Ext.refl _) | (with_reducible refine Ext.alloc ?_ _) | (with_reducible refine Ext.drew ?_) | (with_reducible refine Ext.drewN ?_ _) | (with_reducible refine Ext.setCell ?_ ?_ _) | (with_reducible refine Ext.trans ?_ (by assumption)) | go_size))), by omega⟩
    show _ = _
    simp [Globe.sumC]
  case round =>
    obtain ⟨i, cc, B, o, k, hi, rfl, rfl, Hcc, hcc9, hVr, ⟨cR, fR⟩, cS, vU, hBR⟩ := hrel
    clear hb hc hf hz ha
    by_cases hlt : i < t
    · obtain ⟨pb, po, P, a1', n1', c1', v1', rfl, hp, d1, g1⟩ := HP.out.at hlt
      have hPv : Globe.validL P = true := Globe.pieces_valid _ vA.2 P (List.mem_of_getElem? hp)
      obtain rfl : v1' = true := g1.2.2.2.symm.trans hPv
      obtain ⟨B1, o1, rfl, rfl, r1⟩ := g1.va
      obtain ⟨sb, so, s, rfl, hs, hst⟩ := sS.at hlt
      obtain ⟨q1, q2, q3⟩ := okS_at Hok.out hs
      obtain ⟨S1, s1, e1, S2, s2, e2, d2, -, g2, -⟩ := hst.v q1 q2
      have hct := Globe.piece_in _ vA.2 (sures_ok Hok.out) hp (show (ss.map fun s => s.1)[i]? = some s.1 by rw [List.getElem?_map, hs]; rfl)
      have hun : Globe.uniL (Globe.leftL LA (ss.map fun s => s.1)) ((Globe.piecesL LA (ss.map fun s => s.1)).take (i + 1)) = Globe.unionL (Globe.uniL (Globe.leftL LA (ss.map fun s => s.1)) ((Globe.piecesL LA (ss.map fun s => s.1)).take i)) P := by rw [take_snoc' hp, Globe.uni_snoc]
      have hsm : Globe.sumC ((Globe.piecesL LA (ss.map fun s => s.1)).take (i + 1)) = Globe.sumC ((Globe.piecesL LA (ss.map fun s => s.1)).take i) + (Globe.cellsTo P 24).length := by rw [take_snoc' hp, Globe.sum_snoc]
      obtain ⟨m, hm⟩ : ∃ m, (Globe.cellsTo P 24).length = m := ⟨_, rfl⟩
      have hm9 : m ≤ 1152 := by rw [← hm]; exact Globe.cellsTo_len _ 24
      rw [hm] at hsm
      have k1 : IntKind.i64.wrap ((cc : Int) + (m : Int)) = (cc : Int) + (m : Int) := by rw [IntKind.wrap_i64]; omega
      have K1 := Lib.hid k1; clear k1
      have Hct := Lib.hid hct; have Hun := Lib.hid hun; have Hsm := Lib.hid hsm; have Hm := Lib.hid hm; clear hct hun hsm hm hs hst q1 q2 q3 hp hPv g1
      have i0 : (0 : Int) ≤ (i : Int) := by omega
      have i1 : (i : Int) < (t : Int) := by omega
      have lR := World.block_lt_of_cell? wr _ cR
      have lS := World.block_lt_of_cell? wr _ cS
      have ld1 := World.block_lt_of_cell? V _ d1
      have ld2 := World.block_lt_of_cell? V _ d2
      have lvU := vU.lt
      have lr1 := r1.lt
      have hVs := hVr.size
      go_wp2_with fail
      have HM := Lib.hid (show ∀ w', Ext wr w' → Ext wr w' ∧ w'.cell? ⟨V.heap.size + 1, 0, none⟩ = some (.slice (some ⟨B, o, none⟩) 24 k) ∧ w'.cell? ⟨pb, po + i, none⟩ = some (.slice (some ⟨B1, o1, none⟩) 24 c1') from fun w' h => ⟨h, h.cell cR, (hVr.trans h).cell d1⟩)
      refine wg_begin [(some 47, [10], []), (some 48, [7], []), (some 49, [12], []), (some 50, [48, 49], [1, 2]), (some 51, [50], [3]), (some 52, [47, 51], [0, 4]), (some 46, [52], [5]), (some 53, [46], [6]), (some 54, [46], [6]), (some 13, [], []), (none, [13, 53], [9, 7, 5, 0, 1, 2, 3, 4, 5, 6, 7, 9]), (some 14, [54], [8, 10, 0, 1, 2, 3, 4, 5, 6, 7, 8, 9, 10])] (fun w' => Ext wr w' ∧ w'.cell? ⟨V.heap.size + 1, 0, none⟩ = some (.slice (some ⟨B, o, none⟩) 24 k) ∧ w'.cell? ⟨pb, po + i, none⟩ = some (.slice (some ⟨B1, o1, none⟩) 24 c1')) (by kernel_rfl) (by kernel_rfl) (by kernel_rfl) (by kernel_rfl) (by intro c d v a w h; cases d <;> first | exact h | (exact nomatch h.1) | (dsimp +zetaDelta only [Exit.then, Exit.inBlock] at h ⊢; exact h)) ((HM.out _ (Ext.drew (Ext.refl _)))) (fun ops Q L hL hR hK hHeld => ?_); replace hL := Lib.hid hL; have hW1 := @evalW_tmp; have hW2 := @evalW_const; have hW3 := @evalW_func; have hW4 := @look_cons; have hW5 := @look_nil
      have r10 := wg_read hL.out 10 rfl
      have r7 := wg_read hL.out 7 rfl
      have r12 := wg_read hL.out 12 rfl
      (refine wg_take 0 (v := ?_) hR rfl (by kernel_rfl) (by kernel_rfl) ?_ (by with_reducible assumption) ?_; rotate_left; (focus (intro w hSw; (try dsimp only at hSw); go_simp; (try with_reducible rfl))); (dsimp only [putW]))
      (refine wg_take 1 (v := ?_) hR rfl (by kernel_rfl) (by kernel_rfl) ?_ (by with_reducible assumption) ?_; rotate_left; (focus (intro w hSw; (try dsimp only at hSw); go_simp; (try with_reducible rfl))); (dsimp only [putW]))
      (refine wg_take 2 (v := ?_) hR rfl (by kernel_rfl) (by kernel_rfl) ?_ (by with_reducible assumption) ?_; rotate_left; (focus (intro w hSw; (try dsimp only at hSw); go_simp; (try with_reducible rfl))); (dsimp only [putW]))
      (refine wg_take 3 (v := ?_) hR rfl (by kernel_rfl) (by kernel_rfl) ?_ (by with_reducible assumption) ?_; rotate_left; (focus (intro w hSw; (try dsimp only at hSw); go_simp; (try with_reducible rfl))); (dsimp only [putW]))
      (refine wg_take 4 (v := ?_) hR rfl (by kernel_rfl) (by kernel_rfl) ?_ (by with_reducible assumption) ?_; rotate_left; (focus (intro w hSw; (try dsimp only at hSw); go_simp; (try with_reducible rfl))); (dsimp only [putW]))
      refine wg_two 5 9 hR rfl rfl (by kernel_rfl) (by kernel_rfl) (by kernel_rfl) (by kernel_rfl) ?_ ?_
      · (refine wg_call (f := 31) (args := ?_) ?_ ?_; rotate_left; (focus (go_simp; first | done | (with_reducible rfl) | (refine ⟨?_, ?_⟩ <;> with_reducible rfl))); (go_at_call 31; refine (Union_v k c1' _ vU hHeld.1 r1 (hVr.trans hHeld.1)).mono ?_; rintro e w1 ⟨B', k', rfl, hB, hr, hv', hb⟩; have hc := hb.cellE; have hf := hb.frozenE; have hz := hb.size; have ha := alloc_keeps w1; (try simp only [World.size_alloc] at hc hf hz); (try simp only [World.size_setCell] at hc hf hz); (try simp only [World.size_drew] at hc hf hz)); refine ⟨_, rfl, HM.out _ (hHeld.1.trans hb), fun hHeld => ?_⟩; (dsimp only [putW]))
        (refine wg_take 6 (v := ?_) hR rfl (by kernel_rfl) (by kernel_rfl) ?_ (by with_reducible assumption) ?_; rotate_left; (focus (intro w hSw; (try dsimp only at hSw); go_simp; (try with_reducible rfl))); (dsimp only [putW]))
        (refine wg_take 7 (v := ?_) hR rfl (by kernel_rfl) (by kernel_rfl) ?_ (by with_reducible assumption) ?_; rotate_left; (focus (intro w hSw; (try dsimp only at hSw); go_simp; (try with_reducible rfl))); (dsimp only [putW]))
        (refine wg_take 8 (v := ?_) hR rfl (by kernel_rfl) (by kernel_rfl) ?_ (by with_reducible assumption) ?_; rotate_left; (focus (intro w hSw; (try dsimp only at hSw); go_simp; (try with_reducible rfl))); (dsimp only [putW]))
        (refine wg_step 9 hR rfl (by kernel_rfl) (by kernel_rfl) ?_ (by kernel_rfl); refine wg_eff (v := ?_) (w' := ?_) ?_ ?_ ?_; rotate_left; rotate_left; (focus (go_simp; first | done | (with_reducible rfl) | (refine ⟨?_, ?_⟩ <;> with_reducible rfl))); (focus (exact HM.out _ (by (repeat' (first | (with_reducible assumption) | (with_reducible exact Ext.refl _) | (with_reducible refine Ext.alloc ?_ _) | (with_reducible refine Ext.drew ?_) | (with_reducible refine Ext.drewN ?_ _) | (with_reducible refine Ext.setCell ?_ ?_ _) | (with_reducible refine Ext.trans ?_ (by assumption)) | go_size))))); intro hHeld; (dsimp only [putW]))
        (refine wg_step 10 hR rfl (by kernel_rfl) (by kernel_rfl) ?_ (by kernel_rfl); refine wg_skp (w' := ?_) ?_ ?_ ?_; rotate_left; (focus (go_simp; first | done | (with_reducible rfl))); (focus (exact HM.out _ (by (repeat' (first | (with_reducible assumption) | (with_reducible exact Ext.refl _) | (with_reducible refine Ext.alloc ?_ _) | (with_reducible refine Ext.drew ?_) | (with_reducible refine Ext.drewN ?_ _) | (with_reducible refine Ext.setCell ?_ ?_ _) | (with_reducible refine Ext.trans ?_ (by assumption)) | go_size))))); intro hHeld; (dsimp only [putW]))
        (refine wg_take 11 (v := ?_) hR rfl (by kernel_rfl) (by kernel_rfl) ?_ (by with_reducible assumption) ?_; rotate_left; (focus (intro w hSw; (try dsimp only at hSw); go_simp; (try with_reducible rfl))); (dsimp only [putW]))
        refine wg_fin hR hK [(13, 1), (0, 0), (31, 4), (0, 10), (0, 9), (0, 8), (0, 7), (0, 6), (0, 5), (0, 3), (0, 2)] (by kernel_rfl) (by kernel_rfl) (by dsimp only [mg, gsOf, valAt]) ?_; clear hW1 hW2 hW3 hW4 hW5 hR hK hL
        clear r10
        clear r7
        clear r12
        obtain ⟨O, hO⟩ : ∃ O, O = w1.heap.size := ⟨_, rfl⟩
        rw [← hO]
        have hOw : wr.heap.size ≤ O := by rw [hO]; exact hz
        have hBn : B' ≠ V.heap.size + 1 := by simp at hB; omega
        refine exit_at (fun Y => Ext wr Y ∧ Y.cell? ⟨O, 0, none⟩ = some (.slice (some ⟨B', 0, none⟩) 24 k') ∧ VA Y B' 0 (Globe.unionL (Globe.uniL (Globe.leftL LA (ss.map fun s => s.1)) ((Globe.piecesL LA (ss.map fun s => s.1)).take i)) P)) ⟨hHeld.1, by rw [hO]; simp [go_sem], hv'.ext (Ext.alloc (Ext.refl _) _)⟩ ?_
        clear hO
        clear hHeld HM
        rintro Y ⟨hY, cO, vN⟩
        have hVY := hVr.trans hY
        have hYs := hY.size
        have cRY := hY.cell cR
        have fRY := hY.free cR fR
        have cSY := hY.cell cS
        have lO := World.block_lt_of_cell? Y _ cO
        have lN := vN.lt
        clear hc hf hz ha hb hB hr hv'
        go_wp2_with fail
        have HM := Lib.hid (show ∀ w', Ext Y w' → Ext Y w' ∧ w'.cell? ⟨sb, so + i * 2, none⟩ = some (.slice (some ⟨S1, s1, none⟩) 24 e1) ∧ w'.cell? ⟨pb, po + i, none⟩ = some (.slice (some ⟨B1, o1, none⟩) 24 c1') from fun w' h => ⟨h, (hVY.trans h).cell d2, (hVY.trans h).cell d1⟩)
        refine wg_begin [(some 55, [14], []), (some 56, [55], [0]), (some 57, [56], [1]), (some 58, [6, 57], [2]), (some 59, [12, 57], [2]), (some 60, [58, 59, 57], [3, 4, 2]), (some 61, [60, 57], [5, 2]), (some 62, [61, 57], [6, 2]), (some 63, [7, 57], [2]), (some 64, [12, 57], [2]), (some 65, [63, 64, 57], [8, 9, 2]), (some 66, [65, 57], [10, 2]), (some 67, [62, 66, 57], [7, 11, 2, 2]), (some 68, [67, 57], [12, 2]), (some 69, [57, 68], [2, 13])] (fun w' => Ext Y w' ∧ w'.cell? ⟨sb, so + i * 2, none⟩ = some (.slice (some ⟨S1, s1, none⟩) 24 e1) ∧ w'.cell? ⟨pb, po + i, none⟩ = some (.slice (some ⟨B1, o1, none⟩) 24 c1')) (by kernel_rfl) (by kernel_rfl) (by kernel_rfl) (by kernel_rfl) (by intro c d v a w h; cases d <;> first | exact h | (exact nomatch h.1) | (dsimp +zetaDelta only [Exit.then, Exit.inBlock] at h ⊢; exact h)) ((HM.out _ (Ext.drew (Ext.refl _)))) (fun ops Q L hL hR hK hHeld => ?_); replace hL := Lib.hid hL; have hW1 := @evalW_tmp; have hW2 := @evalW_const; have hW3 := @evalW_func; have hW4 := @look_cons; have hW5 := @look_nil
        have r14 := wg_read hL.out 14 rfl
        have r6 := wg_read hL.out 6 rfl
        have r12 := wg_read hL.out 12 rfl
        have r7 := wg_read hL.out 7 rfl
        (refine wg_take 0 (v := ?_) hR rfl (by kernel_rfl) (by kernel_rfl) ?_ (by with_reducible assumption) ?_; rotate_left; (focus (intro w hSw; (try dsimp only at hSw); go_simp; (try with_reducible rfl))); (dsimp only [putW]))
        (refine wg_take 1 (v := ?_) hR rfl (by kernel_rfl) (by kernel_rfl) ?_ (by with_reducible assumption) ?_; rotate_left; (focus (intro w hSw; (try dsimp only at hSw); go_simp; (try with_reducible rfl))); (dsimp only [putW]))
        (refine wg_take 2 (v := ?_) hR rfl (by kernel_rfl) (by kernel_rfl) ?_ (by with_reducible assumption) ?_; rotate_left; (focus (intro w hSw; (try dsimp only at hSw); go_simp; (try with_reducible rfl))); (dsimp only [putW]))
        (refine wg_take 3 (v := ?_) hR rfl (by kernel_rfl) (by kernel_rfl) ?_ (by with_reducible assumption) ?_; rotate_left; (focus (intro w hSw; (try dsimp only at hSw); go_simp; (try with_reducible rfl))); (dsimp only [putW]))
        (refine wg_take 4 (v := ?_) hR rfl (by kernel_rfl) (by kernel_rfl) ?_ (by with_reducible assumption) ?_; rotate_left; (focus (intro w hSw; (try dsimp only at hSw); go_simp; (try with_reducible rfl))); (dsimp only [putW]))
        (refine wg_take 5 (v := ?_) hR rfl (by kernel_rfl) (by kernel_rfl) ?_ (by with_reducible assumption) ?_; rotate_left; (focus (intro w hSw; (try dsimp only at hSw); go_simp; (try with_reducible rfl))); (dsimp only [putW]))
        (refine wg_take 6 (v := ?_) hR rfl (by kernel_rfl) (by kernel_rfl) ?_ (by with_reducible assumption) ?_; rotate_left; (focus (intro w hSw; (try dsimp only at hSw); go_simp; (try with_reducible rfl))); (dsimp only [putW]))
        (refine wg_take 7 (v := ?_) hR rfl (by kernel_rfl) (by kernel_rfl) ?_ (by with_reducible assumption) ?_; rotate_left; (focus (intro w hSw; (try dsimp only at hSw); go_simp; (try with_reducible rfl))); (dsimp only [putW]))
        (refine wg_take 8 (v := ?_) hR rfl (by kernel_rfl) (by kernel_rfl) ?_ (by with_reducible assumption) ?_; rotate_left; (focus (intro w hSw; (try dsimp only at hSw); go_simp; (try with_reducible rfl))); (dsimp only [putW]))
        (refine wg_take 9 (v := ?_) hR rfl (by kernel_rfl) (by kernel_rfl) ?_ (by with_reducible assumption) ?_; rotate_left; (focus (intro w hSw; (try dsimp only at hSw); go_simp; (try with_reducible rfl))); (dsimp only [putW]))
        (refine wg_take 10 (v := ?_) hR rfl (by kernel_rfl) (by kernel_rfl) ?_ (by with_reducible assumption) ?_; rotate_left; (focus (intro w hSw; (try dsimp only at hSw); go_simp; (try with_reducible rfl))); (dsimp only [putW]))
        (refine wg_take 11 (v := ?_) hR rfl (by kernel_rfl) (by kernel_rfl) ?_ (by with_reducible assumption) ?_; rotate_left; (focus (intro w hSw; (try dsimp only at hSw); go_simp; (try with_reducible rfl))); (dsimp only [putW]))
        (refine wg_step 12 hR rfl (by kernel_rfl) (by kernel_rfl) ?_ (by kernel_rfl); refine wg_call (f := 32) (args := ?_) ?_ ?_; rotate_left; (focus (go_simp; first | done | (with_reducible rfl) | (refine ⟨?_, ?_⟩ <;> with_reducible rfl))); (go_at_call 32; refine (Contains_r e1 c1' _ g2 (hVY.trans hHeld.1) r1 (hVY.trans hHeld.1) Hct.out).mono ?_; rintro e w2 ⟨rfl, hb⟩); refine ⟨_, rfl, HM.out _ (hHeld.1.trans hb), fun hHeld => ?_⟩; (dsimp only [putW]))
        (refine wg_take 13 (v := ?_) hR rfl (by kernel_rfl) (by kernel_rfl) ?_ (by with_reducible assumption) ?_; rotate_left; (focus (intro w hSw; (try dsimp only at hSw); go_simp; (try with_reducible rfl))); (dsimp only [putW]))
        (refine wg_take 14 (v := ?_) hR rfl (by kernel_rfl) (by kernel_rfl) ?_ (by with_reducible assumption) ?_; rotate_left; (focus (intro w hSw; (try dsimp only at hSw); go_simp; (try with_reducible rfl))); (dsimp only [putW]))
        refine wg_fin hR hK [(55, 14), (0, 13), (0, 12), (0, 11), (0, 10), (0, 9), (0, 8), (0, 7), (0, 6), (0, 5), (0, 4), (0, 3), (0, 2), (0, 1), (0, 0)] (by kernel_rfl) (by kernel_rfl) (by dsimp only [mg, gsOf, valAt]) ?_; clear hW1 hW2 hW3 hW4 hW5 hR hK hL
        clear r14
        clear r6
        clear r12
        clear r7
        have hY2 := hHeld.1
        clear hHeld HM hb
        refine exit_at (fun Z => Ext Y Z) hY2 ?_
        clear hY2
        intro Z hZ
        have hVZ := hVY.trans hZ
        replace cO := hZ.cell cO
        replace vN := vN.ext hZ
        have cRZ := hZ.cell cRY
        have fRZ := hZ.free cRY fRY
        have cSZ := hZ.cell cSY
        have hZs := hZ.size
        have d1Z := hVZ.cell d1
        clear hY hZ hVY cRY fRY cSY
        go_wp2_with fail
        refine (Count_r c1' _ r1 (by (repeat' (first | (with_reducible assumption) | (with_reducible exact Ext.refl _) | (with_reducible refine Ext.alloc ?_ _) | (with_reducible refine Ext.drew ?_) | (with_reducible refine Ext.drewN ?_ _) | (with_reducible refine Ext.setCell ?_ ?_ _) | (with_reducible refine Ext.trans ?_ (by assumption)) | go_size))) (HT.out.ext (hE.trans (by (repeat' (first | (with_reducible assumption) | (with_reducible exact Ext.refl _) | (with_reducible refine Ext.alloc ?_ _) | (with_reducible refine Ext.drew ?_) | (with_reducible refine Ext.drewN ?_ _) | (with_reducible refine Ext.setCell ?_ ?_ _) | (with_reducible refine Ext.trans ?_ (by assumption)) | go_size))))) Hm.out).mono ?_
        rintro e w3 ⟨rfl, hb⟩
        have k0 := K1.out
        go_wp2_with fail
        go_roundw
        case rel =>
          refine ⟨i + 1, cc + m, B', 0, k', by omega, by go_num, by go_num, ?_, by omega, by (repeat' (first | (with_reducible assumption) | (with_reducible exact Ext.refl _) | (with_reducible refine Ext.alloc ?_ _) | (with_reducible refine Ext.drew ?_) | (with_reducible refine Ext.drewN ?_ _) | (with_reducible refine Ext.setCell ?_ ?_ _) | (with_reducible refine Ext.trans ?_ (by assumption)) | go_size)), BoxAt.ext (by (repeat' (first | (with_reducible assumption) | (with_reducible exact Ext.refl _) | (with_reducible refine Ext.alloc ?_ _) | (with_reducible refine Ext.drew ?_) | (with_reducible refine Ext.drewN ?_ _) | (with_reducible refine Ext.setCell ?_ ?_ _) | (with_reducible refine Ext.trans ?_ (by assumption)) | go_size))) ⟨by simp [go_sem, cRZ], by simp [go_sem, fRZ]⟩, Ext.cell (by (repeat' (first | (with_reducible assumption) | (with_reducible exact Ext.refl _) | (with_reducible refine Ext.alloc ?_ _) | (with_reducible refine Ext.drew ?_) | (with_reducible refine Ext.drewN ?_ _) | (with_reducible refine Ext.setCell ?_ ?_ _) | (with_reducible refine Ext.trans ?_ (by assumption)) | go_size))) (show (Z.setCell _ _).cell? _ = _ by simp [go_sem, cSZ]), VA.ext (VA.other (p := ⟨V.heap.size + 1, 0, none⟩) (show VA Z B' 0 (Globe.uniL _ (List.take (i + 1) _)) by rw [Hun.out]; exact vN) (by show V.heap.size + 1 ≠ B'; omega) _) (by (repeat' (first | (with_reducible assumption) | (with_reducible exact Ext.refl _) | (with_reducible refine Ext.alloc ?_ _) | (with_reducible refine Ext.drew ?_) | (with_reducible refine Ext.drewN ?_ _) | (with_reducible refine Ext.setCell ?_ ?_ _) | (with_reducible refine Ext.trans ?_ (by assumption)) | go_size))), hBn⟩
          have e1 := Hcc.out
          have e2 := Hsm.out
          show _ = _
          omega
        case measure => simp [intOf]; omega
      · (refine wg_eff (v := ?_) (w' := ?_) ?_ ?_ ?_; rotate_left; rotate_left; (focus (go_simp; first | done | (with_reducible rfl) | (refine ⟨?_, ?_⟩ <;> with_reducible rfl))); (focus (exact HM.out _ (by (repeat' (first | (with_reducible assumption) | (with_reducible exact Ext.refl _) | (with_reducible refine Ext.alloc ?_ _) | (with_reducible refine Ext.drew ?_) | (with_reducible refine Ext.drewN ?_ _) | (with_reducible refine Ext.setCell ?_ ?_ _) | (with_reducible refine Ext.trans ?_ (by assumption)) | go_size))))); intro hHeld; (dsimp only [putW]))
        (refine wg_step 5 hR rfl (by kernel_rfl) (by kernel_rfl) ?_ (by kernel_rfl); refine wg_call (f := 31) (args := ?_) ?_ ?_; rotate_left; (focus (go_simp; first | done | (with_reducible rfl) | (refine ⟨?_, ?_⟩ <;> with_reducible rfl))); (go_at_call 31; refine (Union_v k c1' _ vU hHeld.1 r1 (hVr.trans hHeld.1)).mono ?_; rintro e w1 ⟨B', k', rfl, hB, hr, hv', hb⟩; have hc := hb.cellE; have hf := hb.frozenE; have hz := hb.size; have ha := alloc_keeps w1; (try simp only [World.size_alloc] at hc hf hz); (try simp only [World.size_setCell] at hc hf hz); (try simp only [World.size_drew] at hc hf hz)); refine ⟨_, rfl, HM.out _ (hHeld.1.trans hb), fun hHeld => ?_⟩; (dsimp only [putW]))
        (refine wg_take 6 (v := ?_) hR rfl (by kernel_rfl) (by kernel_rfl) ?_ (by with_reducible assumption) ?_; rotate_left; (focus (intro w hSw; (try dsimp only at hSw); go_simp; (try with_reducible rfl))); (dsimp only [putW]))
        (refine wg_take 7 (v := ?_) hR rfl (by kernel_rfl) (by kernel_rfl) ?_ (by with_reducible assumption) ?_; rotate_left; (focus (intro w hSw; (try dsimp only at hSw); go_simp; (try with_reducible rfl))); (dsimp only [putW]))
        (refine wg_take 8 (v := ?_) hR rfl (by kernel_rfl) (by kernel_rfl) ?_ (by with_reducible assumption) ?_; rotate_left; (focus (intro w hSw; (try dsimp only at hSw); go_simp; (try with_reducible rfl))); (dsimp only [putW]))
        (refine wg_step 10 hR rfl (by kernel_rfl) (by kernel_rfl) ?_ (by kernel_rfl); refine wg_skp (w' := ?_) ?_ ?_ ?_; rotate_left; (focus (go_simp; first | done | (with_reducible rfl))); (focus (exact HM.out _ (by (repeat' (first | (with_reducible assumption) | (with_reducible exact Ext.refl _) | (with_reducible refine Ext.alloc ?_ _) | (with_reducible refine Ext.drew ?_) | (with_reducible refine Ext.drewN ?_ _) | (with_reducible refine Ext.setCell ?_ ?_ _) | (with_reducible refine Ext.trans ?_ (by assumption)) | go_size))))); intro hHeld; (dsimp only [putW]))
        (refine wg_take 11 (v := ?_) hR rfl (by kernel_rfl) (by kernel_rfl) ?_ (by with_reducible assumption) ?_; rotate_left; (focus (intro w hSw; (try dsimp only at hSw); go_simp; (try with_reducible rfl))); (dsimp only [putW]))
        refine wg_fin hR hK [(13, 5), (0, 0), (31, 3), (0, 10), (0, 9), (0, 8), (0, 7), (0, 6), (0, 4), (0, 2), (0, 1)] (by kernel_rfl) (by kernel_rfl) (by dsimp only [mg, gsOf, valAt]) ?_; clear hW1 hW2 hW3 hW4 hW5 hR hK hL
        clear r10
        clear r7
        clear r12
        obtain ⟨O, hO⟩ : ∃ O, O = wr.heap.size := ⟨_, rfl⟩
        rw [← hO]
        have hOw : wr.heap.size ≤ O := by omega
        have hBn : B' ≠ V.heap.size + 1 := by simp at hB; omega
        refine exit_at (fun Y => Ext wr Y ∧ Y.cell? ⟨O, 0, none⟩ = some (.slice (some ⟨B', 0, none⟩) 24 k') ∧ VA Y B' 0 (Globe.unionL (Globe.uniL (Globe.leftL LA (ss.map fun s => s.1)) ((Globe.piecesL LA (ss.map fun s => s.1)).take i)) P)) ⟨by rw [hO]; exact hHeld.1, by rw [hO]; simp [go_sem, hc], VA.other hv' (by show O ≠ B'; simp at hB; omega) _⟩ ?_
        clear hO
        clear hHeld HM
        rintro Y ⟨hY, cO, vN⟩
        have hVY := hVr.trans hY
        have hYs := hY.size
        have cRY := hY.cell cR
        have fRY := hY.free cR fR
        have cSY := hY.cell cS
        have lO := World.block_lt_of_cell? Y _ cO
        have lN := vN.lt
        clear hc hf hz ha hb hB hr hv'
        go_wp2_with fail
        have HM := Lib.hid (show ∀ w', Ext Y w' → Ext Y w' ∧ w'.cell? ⟨sb, so + i * 2, none⟩ = some (.slice (some ⟨S1, s1, none⟩) 24 e1) ∧ w'.cell? ⟨pb, po + i, none⟩ = some (.slice (some ⟨B1, o1, none⟩) 24 c1') from fun w' h => ⟨h, (hVY.trans h).cell d2, (hVY.trans h).cell d1⟩)
        refine wg_begin [(some 55, [14], []), (some 56, [55], [0]), (some 57, [56], [1]), (some 58, [6, 57], [2]), (some 59, [12, 57], [2]), (some 60, [58, 59, 57], [3, 4, 2]), (some 61, [60, 57], [5, 2]), (some 62, [61, 57], [6, 2]), (some 63, [7, 57], [2]), (some 64, [12, 57], [2]), (some 65, [63, 64, 57], [8, 9, 2]), (some 66, [65, 57], [10, 2]), (some 67, [62, 66, 57], [7, 11, 2, 2]), (some 68, [67, 57], [12, 2]), (some 69, [57, 68], [2, 13])] (fun w' => Ext Y w' ∧ w'.cell? ⟨sb, so + i * 2, none⟩ = some (.slice (some ⟨S1, s1, none⟩) 24 e1) ∧ w'.cell? ⟨pb, po + i, none⟩ = some (.slice (some ⟨B1, o1, none⟩) 24 c1')) (by kernel_rfl) (by kernel_rfl) (by kernel_rfl) (by kernel_rfl) (by intro c d v a w h; cases d <;> first | exact h | (exact nomatch h.1) | (dsimp +zetaDelta only [Exit.then, Exit.inBlock] at h ⊢; exact h)) ((HM.out _ (Ext.drew (Ext.refl _)))) (fun ops Q L hL hR hK hHeld => ?_); replace hL := Lib.hid hL; have hW1 := @evalW_tmp; have hW2 := @evalW_const; have hW3 := @evalW_func; have hW4 := @look_cons; have hW5 := @look_nil
        have r14 := wg_read hL.out 14 rfl
        have r6 := wg_read hL.out 6 rfl
        have r12 := wg_read hL.out 12 rfl
        have r7 := wg_read hL.out 7 rfl
        (refine wg_take 0 (v := ?_) hR rfl (by kernel_rfl) (by kernel_rfl) ?_ (by with_reducible assumption) ?_; rotate_left; (focus (intro w hSw; (try dsimp only at hSw); go_simp; (try with_reducible rfl))); (dsimp only [putW]))
        (refine wg_take 1 (v := ?_) hR rfl (by kernel_rfl) (by kernel_rfl) ?_ (by with_reducible assumption) ?_; rotate_left; (focus (intro w hSw; (try dsimp only at hSw); go_simp; (try with_reducible rfl))); (dsimp only [putW]))
        (refine wg_take 2 (v := ?_) hR rfl (by kernel_rfl) (by kernel_rfl) ?_ (by with_reducible assumption) ?_; rotate_left; (focus (intro w hSw; (try dsimp only at hSw); go_simp; (try with_reducible rfl))); (dsimp only [putW]))
        (refine wg_take 3 (v := ?_) hR rfl (by kernel_rfl) (by kernel_rfl) ?_ (by with_reducible assumption) ?_; rotate_left; (focus (intro w hSw; (try dsimp only at hSw); go_simp; (try with_reducible rfl))); (dsimp only [putW]))
        (refine wg_take 4 (v := ?_) hR rfl (by kernel_rfl) (by kernel_rfl) ?_ (by with_reducible assumption) ?_; rotate_left; (focus (intro w hSw; (try dsimp only at hSw); go_simp; (try with_reducible rfl))); (dsimp only [putW]))
        (refine wg_take 5 (v := ?_) hR rfl (by kernel_rfl) (by kernel_rfl) ?_ (by with_reducible assumption) ?_; rotate_left; (focus (intro w hSw; (try dsimp only at hSw); go_simp; (try with_reducible rfl))); (dsimp only [putW]))
        (refine wg_take 6 (v := ?_) hR rfl (by kernel_rfl) (by kernel_rfl) ?_ (by with_reducible assumption) ?_; rotate_left; (focus (intro w hSw; (try dsimp only at hSw); go_simp; (try with_reducible rfl))); (dsimp only [putW]))
        (refine wg_take 7 (v := ?_) hR rfl (by kernel_rfl) (by kernel_rfl) ?_ (by with_reducible assumption) ?_; rotate_left; (focus (intro w hSw; (try dsimp only at hSw); go_simp; (try with_reducible rfl))); (dsimp only [putW]))
        (refine wg_take 8 (v := ?_) hR rfl (by kernel_rfl) (by kernel_rfl) ?_ (by with_reducible assumption) ?_; rotate_left; (focus (intro w hSw; (try dsimp only at hSw); go_simp; (try with_reducible rfl))); (dsimp only [putW]))
        (refine wg_take 9 (v := ?_) hR rfl (by kernel_rfl) (by kernel_rfl) ?_ (by with_reducible assumption) ?_; rotate_left; (focus (intro w hSw; (try dsimp only at hSw); go_simp; (try with_reducible rfl))); (dsimp only [putW]))
        (refine wg_take 10 (v := ?_) hR rfl (by kernel_rfl) (by kernel_rfl) ?_ (by with_reducible assumption) ?_; rotate_left; (focus (intro w hSw; (try dsimp only at hSw); go_simp; (try with_reducible rfl))); (dsimp only [putW]))
        (refine wg_take 11 (v := ?_) hR rfl (by kernel_rfl) (by kernel_rfl) ?_ (by with_reducible assumption) ?_; rotate_left; (focus (intro w hSw; (try dsimp only at hSw); go_simp; (try with_reducible rfl))); (dsimp only [putW]))
        (refine wg_step 12 hR rfl (by kernel_rfl) (by kernel_rfl) ?_ (by kernel_rfl); refine wg_call (f := 32) (args := ?_) ?_ ?_; rotate_left; (focus (go_simp; first | done | (with_reducible rfl) | (refine ⟨?_, ?_⟩ <;> with_reducible rfl))); (go_at_call 32; refine (Contains_r e1 c1' _ g2 (hVY.trans hHeld.1) r1 (hVY.trans hHeld.1) Hct.out).mono ?_; rintro e w2 ⟨rfl, hb⟩); refine ⟨_, rfl, HM.out _ (hHeld.1.trans hb), fun hHeld => ?_⟩; (dsimp only [putW]))
        (refine wg_take 13 (v := ?_) hR rfl (by kernel_rfl) (by kernel_rfl) ?_ (by with_reducible assumption) ?_; rotate_left; (focus (intro w hSw; (try dsimp only at hSw); go_simp; (try with_reducible rfl))); (dsimp only [putW]))
        (refine wg_take 14 (v := ?_) hR rfl (by kernel_rfl) (by kernel_rfl) ?_ (by with_reducible assumption) ?_; rotate_left; (focus (intro w hSw; (try dsimp only at hSw); go_simp; (try with_reducible rfl))); (dsimp only [putW]))
        refine wg_fin hR hK [(55, 14), (0, 13), (0, 12), (0, 11), (0, 10), (0, 9), (0, 8), (0, 7), (0, 6), (0, 5), (0, 4), (0, 3), (0, 2), (0, 1), (0, 0)] (by kernel_rfl) (by kernel_rfl) (by dsimp only [mg, gsOf, valAt]) ?_; clear hW1 hW2 hW3 hW4 hW5 hR hK hL
        clear r14
        clear r6
        clear r12
        clear r7
        have hY2 := hHeld.1
        clear hHeld HM hb
        refine exit_at (fun Z => Ext Y Z) hY2 ?_
        clear hY2
        intro Z hZ
        have hVZ := hVY.trans hZ
        replace cO := hZ.cell cO
        replace vN := vN.ext hZ
        have cRZ := hZ.cell cRY
        have fRZ := hZ.free cRY fRY
        have cSZ := hZ.cell cSY
        have hZs := hZ.size
        have d1Z := hVZ.cell d1
        clear hY hZ hVY cRY fRY cSY
        go_wp2_with fail
        refine (Count_r c1' _ r1 (by (repeat' (first | (with_reducible assumption) | (with_reducible exact Ext.refl _) | (with_reducible refine Ext.alloc ?_ _) | (with_reducible refine Ext.drew ?_) | (with_reducible refine Ext.drewN ?_ _) | (with_reducible refine Ext.setCell ?_ ?_ _) | (with_reducible refine Ext.trans ?_ (by assumption)) | go_size))) (HT.out.ext (hE.trans (by (repeat' (first | (with_reducible assumption) | (with_reducible exact Ext.refl _) | (with_reducible refine Ext.alloc ?_ _) | (with_reducible refine Ext.drew ?_) | (with_reducible refine Ext.drewN ?_ _) | (with_reducible refine Ext.setCell ?_ ?_ _) | (with_reducible refine Ext.trans ?_ (by assumption)) | go_size))))) Hm.out).mono ?_
        rintro e w3 ⟨rfl, hb⟩
        have k0 := K1.out
        go_wp2_with fail
        go_roundw
        case rel =>
          refine ⟨i + 1, cc + m, B', 0, k', by omega, by go_num, by go_num, ?_, by omega, by (repeat' (first | (with_reducible assumption) | (with_reducible exact Ext.refl _) | (with_reducible refine Ext.alloc ?_ _) | (with_reducible refine Ext.drew ?_) | (with_reducible refine Ext.drewN ?_ _) | (with_reducible refine Ext.setCell ?_ ?_ _) | (with_reducible refine Ext.trans ?_ (by assumption)) | go_size)), BoxAt.ext (by (repeat' (first | (with_reducible assumption) | (with_reducible exact Ext.refl _) | (with_reducible refine Ext.alloc ?_ _) | (with_reducible refine Ext.drew ?_) | (with_reducible refine Ext.drewN ?_ _) | (with_reducible refine Ext.setCell ?_ ?_ _) | (with_reducible refine Ext.trans ?_ (by assumption)) | go_size))) ⟨by simp [go_sem, cRZ], by simp [go_sem, fRZ]⟩, Ext.cell (by (repeat' (first | (with_reducible assumption) | (with_reducible exact Ext.refl _) | (with_reducible refine Ext.alloc ?_ _) | (with_reducible refine Ext.drew ?_) | (with_reducible refine Ext.drewN ?_ _) | (with_reducible refine Ext.setCell ?_ ?_ _) | (with_reducible refine Ext.trans ?_ (by assumption)) | go_size))) (show (Z.setCell _ _).cell? _ = _ by simp [go_sem, cSZ]), VA.ext (VA.other (p := ⟨V.heap.size + 1, 0, none⟩) (show VA Z B' 0 (Globe.uniL _ (List.take (i + 1) _)) by rw [Hun.out]; exact vN) (by show V.heap.size + 1 ≠ B'; omega) _) (by (repeat' (first | (with_reducible assumption) | (with_reducible exact Ext.refl _) | (with_reducible refine Ext.alloc ?_ _) | (with_reducible refine Ext.drew ?_) | (with_reducible refine Ext.drewN ?_ _) | (with_reducible refine Ext.setCell ?_ ?_ _) | (with_reducible refine Ext.trans ?_ (by assumption)) | go_size))), hBn⟩
          have e1 := Hcc.out
          have e2 := Hsm.out
          show _ = _
          omega
        case measure => simp [intOf]; omega
    · obtain rfl : t = i := by omega
      have hps : (Globe.piecesL LA (ss.map fun s => s.1)).take t = Globe.piecesL LA (ss.map fun s => s.1) := List.take_of_length_le (by rw [Globe.pieces_len, List.length_map, sS.1]; exact Nat.le_refl _)
      have hcc := Hcc.out
      rw [hps] at vU hcc
      rw [Globe.uni_pieces vA.2] at vU
      have hsp := Globe.sum_pieces (ss.map fun s => s.1) LA
      have hcA : (Globe.cellsTo LA 24).length = cc := by have := Hn0.out; omega
      have hlr := Hn0.out
      have hck : checkB LA ss (Globe.piecesL LA (ss.map fun s => s.1)) = decide (n0' = 0) := by
        unfold checkB
        rw [Globe.pieces_len, List.length_map, decide_eq_true rfl, vA.2, Hok.out, Globe.check_own _ vA.2 (sures_ok Hok.out), ← hlr]
        rfl
      have HcA := Lib.hid hcA; have Hck := Lib.hid hck; have Hlr := Lib.hid hlr.symm; clear hcA hck hlr hsp hcc hps Hcc Hn0
      have lR := World.block_lt_of_cell? wr _ cR
      have lS := World.block_lt_of_cell? wr _ cS
      have hVs := hVr.size
      have cAr := hVr.cell cA
      have HM := Lib.hid (show ∀ w', Ext wr w' → Ext wr w' ∧ w'.cell? ⟨V.heap.size + 1, 0, none⟩ = some (.slice (some ⟨B, o, none⟩) 24 k) ∧ w'.cell? ⟨V.heap.size, 0, none⟩ = some (.slice (some ⟨Br, ro, none⟩) 24 kr) ∧ w'.cell? ⟨Oa, 0, none⟩ = some (.slice (some ⟨Ba, 0, none⟩) 24 ka) from fun w' h => ⟨h, h.cell cR, h.cell cS, h.cell cAr⟩)
      by_cases hn00 : n0' = 0
      · have Hck2 := Lib.hid (show checkB LA ss (Globe.piecesL LA (ss.map fun s => s.1)) = true by rw [Hck.out]; simp [hn00])
        subst hn00
        go_wp2_with fail
        refine wg_begin [(some 78, [10], []), (some 79, [5], []), (some 80, [78, 79], [0, 1]), (some 81, [80], [2, 2]), (some 82, [11, 81], [3]), (some 83, [5, 81], [3]), (some 84, [83, 81], [5, 3, 3]), (some 85, [82, 84, 81], [4, 6, 3]), (some 86, [81, 85], [3, 7]), (some 87, [86], [8, 6]), (some 88, [5, 87], [9]), (some 89, [6, 87], [9]), (some 90, [7, 87], [9]), (some 91, [88, 89, 90, 87], [10, 11, 12, 9, 9]), (some 92, [8, 87], [9]), (some 93, [92, 87], [14, 13, 9]), (some 94, [93, 87], [15, 9]), (some 95, [91, 94, 87], [13, 16, 9]), (some 96, [87, 95], [9, 17]), (some 4, [96], [18, 15, 0, 1, 2, 3, 4, 5, 6, 7, 8, 9, 10, 11, 12, 13, 14, 15, 16, 17, 18])] (fun w' => Ext wr w' ∧ w'.cell? ⟨V.heap.size + 1, 0, none⟩ = some (.slice (some ⟨B, o, none⟩) 24 k) ∧ w'.cell? ⟨V.heap.size, 0, none⟩ = some (.slice (some ⟨Br, ro, none⟩) 24 kr) ∧ w'.cell? ⟨Oa, 0, none⟩ = some (.slice (some ⟨Ba, 0, none⟩) 24 ka)) (by kernel_rfl) (by kernel_rfl) (by kernel_rfl) (by kernel_rfl) (by intro c d v a w h; cases d <;> first | exact h | (exact nomatch h.1) | (dsimp +zetaDelta only [Exit.then, Exit.inBlock] at h ⊢; exact h)) ((HM.out _ (Ext.drew (Ext.refl _)))) (fun ops Q L hL hR hK hHeld => ?_); replace hL := Lib.hid hL; have hW1 := @evalW_tmp; have hW2 := @evalW_const; have hW3 := @evalW_func; have hW4 := @look_cons; have hW5 := @look_nil
        have r10 := wg_read hL.out 10 rfl
        have r5 := wg_read hL.out 5 rfl
        have r11 := wg_read hL.out 11 rfl
        have r6 := wg_read hL.out 6 rfl
        have r7 := wg_read hL.out 7 rfl
        have r8 := wg_read hL.out 8 rfl
        (refine wg_take 0 (v := ?_) hR rfl (by kernel_rfl) (by kernel_rfl) ?_ (by with_reducible assumption) ?_; rotate_left; (focus (intro w hSw; (try dsimp only at hSw); go_simp; (try with_reducible rfl))); (dsimp only [putW]))
        (refine wg_take 1 (v := ?_) hR rfl (by kernel_rfl) (by kernel_rfl) ?_ (by with_reducible assumption) ?_; rotate_left; (focus (intro w hSw; (try dsimp only at hSw); go_simp; (try with_reducible rfl))); (dsimp only [putW]))
        (refine wg_step 2 hR rfl (by kernel_rfl) (by kernel_rfl) ?_ (by kernel_rfl); refine wg_call (f := 21) (args := ?_) ?_ ?_; rotate_left; (focus (go_simp; first | done | (with_reducible rfl) | (refine ⟨?_, ?_⟩ <;> with_reducible rfl))); (go_at_call 21; refine (rSame_r k ka _ vU hHeld.1 vA (hVr.trans hHeld.1) (decide_eq_true rfl)).mono ?_; rintro e w2 ⟨rfl, hb⟩); refine ⟨_, rfl, HM.out _ (hHeld.1.trans hb), fun hHeld => ?_⟩; (dsimp only [putW]))
        (refine wg_take 3 (v := ?_) hR rfl (by kernel_rfl) (by kernel_rfl) ?_ (by with_reducible assumption) ?_; rotate_left; (focus (intro w hSw; (try dsimp only at hSw); go_simp; (try with_reducible rfl))); (dsimp only [putW]))
        (refine wg_take 4 (v := ?_) hR rfl (by kernel_rfl) (by kernel_rfl) ?_ (by with_reducible assumption) ?_; rotate_left; (focus (intro w hSw; (try dsimp only at hSw); go_simp; (try with_reducible rfl))); (dsimp only [putW]))
        (refine wg_take 5 (v := ?_) hR rfl (by kernel_rfl) (by kernel_rfl) ?_ (by with_reducible assumption) ?_; rotate_left; (focus (intro w hSw; (try dsimp only at hSw); go_simp; (try with_reducible rfl))); (dsimp only [putW]))
        (refine wg_step 6 hR rfl (by kernel_rfl) (by kernel_rfl) ?_ (by kernel_rfl); refine wg_call (f := 29) (args := ?_) ?_ ?_; rotate_left; (focus (go_simp; first | done | (with_reducible rfl) | (refine ⟨?_, ?_⟩ <;> with_reducible rfl))); (go_at_call 29; refine (Count_r ka _ vA (hVr.trans hHeld.1) (HT.out.ext (hE.trans (hVr.trans hHeld.1))) HcA.out).mono ?_; rintro e w3 ⟨rfl, hb⟩); refine ⟨_, rfl, HM.out _ (hHeld.1.trans hb), fun hHeld => ?_⟩; (dsimp only [putW]))
        (refine wg_take 7 (v := ?_) hR rfl (by kernel_rfl) (by kernel_rfl) ?_ (by with_reducible assumption) ?_; rotate_left; (focus (intro w hSw; (try dsimp only at hSw); go_simp; (try with_reducible rfl))); (dsimp only [putW]))
        (refine wg_take 8 (v := ?_) hR rfl (by kernel_rfl) (by kernel_rfl) ?_ (by with_reducible assumption) ?_; rotate_left; (focus (intro w hSw; (try dsimp only at hSw); go_simp; (try with_reducible rfl))); (dsimp only [putW]))
        (refine wg_take 9 (v := ?_) hR rfl (by kernel_rfl) (by kernel_rfl) ?_ (by with_reducible assumption) ?_; rotate_left; (focus (intro w hSw; (try dsimp only at hSw); go_simp; (try with_reducible rfl))); (dsimp only [putW]))
        (refine wg_take 10 (v := ?_) hR rfl (by kernel_rfl) (by kernel_rfl) ?_ (by with_reducible assumption) ?_; rotate_left; (focus (intro w hSw; (try dsimp only at hSw); go_simp; (try with_reducible rfl))); (dsimp only [putW]))
        (refine wg_take 11 (v := ?_) hR rfl (by kernel_rfl) (by kernel_rfl) ?_ (by with_reducible assumption) ?_; rotate_left; (focus (intro w hSw; (try dsimp only at hSw); go_simp; (try with_reducible rfl))); (dsimp only [putW]))
        (refine wg_take 12 (v := ?_) hR rfl (by kernel_rfl) (by kernel_rfl) ?_ (by with_reducible assumption) ?_; rotate_left; (focus (intro w hSw; (try dsimp only at hSw); go_simp; (try with_reducible rfl))); (dsimp only [putW]))
        (refine wg_take 14 (v := ?_) hR rfl (by kernel_rfl) (by kernel_rfl) ?_ (by with_reducible assumption) ?_; rotate_left; (focus (intro w hSw; (try dsimp only at hSw); go_simp; (try with_reducible rfl))); (dsimp only [putW]))
        (refine wg_step 13 hR rfl (by kernel_rfl) (by kernel_rfl) ?_ (by kernel_rfl); refine wg_call (f := 23) (args := ?_) ?_ ?_; rotate_left; (focus (go_simp; first | done | (with_reducible rfl) | (refine ⟨?_, ?_⟩ <;> with_reducible rfl))); (go_at_call 23; refine (Check_r lc ka pc _ vA.aa (hVr.trans hHeld.1) sS (hVr.trans hHeld.1) HP.out (hVr.trans hHeld.1) (HT.out.ext (hE.trans (hVr.trans hHeld.1))) Hck2.out).mono ?_; rintro e w5 ⟨rfl, hb⟩); refine ⟨_, rfl, HM.out _ (hHeld.1.trans hb), fun hHeld => ?_⟩; (dsimp only [putW]))
        (refine wg_step 15 hR rfl (by kernel_rfl) (by kernel_rfl) ?_ (by kernel_rfl); refine wg_call (f := 29) (args := ?_) ?_ ?_; rotate_left; (focus (go_simp; first | done | (with_reducible rfl) | (refine ⟨?_, ?_⟩ <;> with_reducible rfl))); (go_at_call 29; refine (Count_r kr _ hv (hVr.trans hHeld.1) (HT.out.ext (hE.trans (hVr.trans hHeld.1))) Hlr.out).mono ?_; rintro e w4 ⟨rfl, hb⟩); refine ⟨_, rfl, HM.out _ (hHeld.1.trans hb), fun hHeld => ?_⟩; (dsimp only [putW]))
        (refine wg_take 16 (v := ?_) hR rfl (by kernel_rfl) (by kernel_rfl) ?_ (by with_reducible assumption) ?_; rotate_left; (focus (intro w hSw; (try dsimp only at hSw); go_simp; (try with_reducible rfl))); (dsimp only [putW]))
        (refine wg_take 17 (v := ?_) hR rfl (by kernel_rfl) (by kernel_rfl) ?_ (by with_reducible assumption) ?_; rotate_left; (focus (intro w hSw; (try dsimp only at hSw); go_simp; (try with_reducible rfl))); (dsimp only [putW]))
        (refine wg_take 18 (v := ?_) hR rfl (by kernel_rfl) (by kernel_rfl) ?_ (by with_reducible assumption) ?_; rotate_left; (focus (intro w hSw; (try dsimp only at hSw); go_simp; (try with_reducible rfl))); (dsimp only [putW]))
        (refine wg_take 19 (v := ?_) hR rfl (by kernel_rfl) (by kernel_rfl) ?_ (by with_reducible assumption) ?_; rotate_left; (focus (intro w hSw; (try dsimp only at hSw); go_simp; (try with_reducible rfl))); (dsimp only [putW]))
        refine wg_fin hR hK [(4, 0), (73, 19), (0, 18), (0, 17), (0, 16), (0, 15), (0, 14), (0, 13), (0, 12), (0, 11), (0, 10), (0, 9), (0, 8), (0, 7), (0, 5), (0, 6), (0, 4), (0, 3), (0, 2), (0, 1)] (by kernel_rfl) (by kernel_rfl) (by dsimp only [mg, gsOf, valAt]) ?_; clear hW1 hW2 hW3 hW4 hW5 hR hK hL
        clear r10
        clear r5
        clear r11
        clear r6
        clear r7
        clear r8
        have hZ := hHeld.1
        clear hHeld HM hb
        refine exit_at (fun Z => Ext wr Z) hZ ?_
        clear hZ
        intro Z hZ
        go_wp2_with fail
        go_ret
        exact ⟨rfl, hE.trans (hVr.trans hZ)⟩
      · have Hck2 := Lib.hid (show checkB LA ss (Globe.piecesL LA (ss.map fun s => s.1)) = false by rw [Hck.out]; simp [hn00])
        have hni : ¬ (n0' : Int) = 0 := by omega
        go_wp2_with fail
        refine wg_begin [(some 78, [10], []), (some 79, [5], []), (some 80, [78, 79], [0, 1]), (some 81, [80], [2, 2]), (some 82, [11, 81], [3]), (some 83, [5, 81], [3]), (some 84, [83, 81], [5, 3, 3]), (some 85, [82, 84, 81], [4, 6, 3]), (some 86, [81, 85], [3, 7]), (some 87, [86], [8, 6]), (some 88, [5, 87], [9]), (some 89, [6, 87], [9]), (some 90, [7, 87], [9]), (some 91, [88, 89, 90, 87], [10, 11, 12, 9, 9]), (some 92, [8, 87], [9]), (some 93, [92, 87], [14, 13, 9]), (some 94, [93, 87], [15, 9]), (some 95, [91, 94, 87], [13, 16, 9]), (some 96, [87, 95], [9, 17]), (some 4, [96], [18, 15, 0, 1, 2, 3, 4, 5, 6, 7, 8, 9, 10, 11, 12, 13, 14, 15, 16, 17, 18])] (fun w' => Ext wr w' ∧ w'.cell? ⟨V.heap.size + 1, 0, none⟩ = some (.slice (some ⟨B, o, none⟩) 24 k) ∧ w'.cell? ⟨V.heap.size, 0, none⟩ = some (.slice (some ⟨Br, ro, none⟩) 24 kr) ∧ w'.cell? ⟨Oa, 0, none⟩ = some (.slice (some ⟨Ba, 0, none⟩) 24 ka)) (by kernel_rfl) (by kernel_rfl) (by kernel_rfl) (by kernel_rfl) (by intro c d v a w h; cases d <;> first | exact h | (exact nomatch h.1) | (dsimp +zetaDelta only [Exit.then, Exit.inBlock] at h ⊢; exact h)) ((HM.out _ (Ext.drew (Ext.refl _)))) (fun ops Q L hL hR hK hHeld => ?_); replace hL := Lib.hid hL; have hW1 := @evalW_tmp; have hW2 := @evalW_const; have hW3 := @evalW_func; have hW4 := @look_cons; have hW5 := @look_nil
        have r10 := wg_read hL.out 10 rfl
        have r5 := wg_read hL.out 5 rfl
        have r11 := wg_read hL.out 11 rfl
        have r6 := wg_read hL.out 6 rfl
        have r7 := wg_read hL.out 7 rfl
        have r8 := wg_read hL.out 8 rfl
        (refine wg_take 0 (v := ?_) hR rfl (by kernel_rfl) (by kernel_rfl) ?_ (by with_reducible assumption) ?_; rotate_left; (focus (intro w hSw; (try dsimp only at hSw); go_simp; (try with_reducible rfl))); (dsimp only [putW]))
        (refine wg_take 1 (v := ?_) hR rfl (by kernel_rfl) (by kernel_rfl) ?_ (by with_reducible assumption) ?_; rotate_left; (focus (intro w hSw; (try dsimp only at hSw); go_simp; (try with_reducible rfl))); (dsimp only [putW]))
        (refine wg_step 2 hR rfl (by kernel_rfl) (by kernel_rfl) ?_ (by kernel_rfl); refine wg_call (f := 21) (args := ?_) ?_ ?_; rotate_left; (focus (go_simp; first | done | (with_reducible rfl) | (refine ⟨?_, ?_⟩ <;> with_reducible rfl))); (go_at_call 21; refine (rSame_r k ka _ vU hHeld.1 vA (hVr.trans hHeld.1) (decide_eq_true rfl)).mono ?_; rintro e w2 ⟨rfl, hb⟩); refine ⟨_, rfl, HM.out _ (hHeld.1.trans hb), fun hHeld => ?_⟩; (dsimp only [putW]))
        (refine wg_take 3 (v := ?_) hR rfl (by kernel_rfl) (by kernel_rfl) ?_ (by with_reducible assumption) ?_; rotate_left; (focus (intro w hSw; (try dsimp only at hSw); go_simp; (try with_reducible rfl))); (dsimp only [putW]))
        (refine wg_take 4 (v := ?_) hR rfl (by kernel_rfl) (by kernel_rfl) ?_ (by with_reducible assumption) ?_; rotate_left; (focus (intro w hSw; (try dsimp only at hSw); go_simp; (try with_reducible rfl))); (dsimp only [putW]))
        (refine wg_take 5 (v := ?_) hR rfl (by kernel_rfl) (by kernel_rfl) ?_ (by with_reducible assumption) ?_; rotate_left; (focus (intro w hSw; (try dsimp only at hSw); go_simp; (try with_reducible rfl))); (dsimp only [putW]))
        (refine wg_step 6 hR rfl (by kernel_rfl) (by kernel_rfl) ?_ (by kernel_rfl); refine wg_call (f := 29) (args := ?_) ?_ ?_; rotate_left; (focus (go_simp; first | done | (with_reducible rfl) | (refine ⟨?_, ?_⟩ <;> with_reducible rfl))); (go_at_call 29; refine (Count_r ka _ vA (hVr.trans hHeld.1) (HT.out.ext (hE.trans (hVr.trans hHeld.1))) HcA.out).mono ?_; rintro e w3 ⟨rfl, hb⟩); refine ⟨_, rfl, HM.out _ (hHeld.1.trans hb), fun hHeld => ?_⟩; (dsimp only [putW]))
        (refine wg_take 7 (v := ?_) hR rfl (by kernel_rfl) (by kernel_rfl) ?_ (by with_reducible assumption) ?_; rotate_left; (focus (intro w hSw; (try dsimp only at hSw); go_simp; (try with_reducible rfl))); (dsimp only [putW]))
        (refine wg_take 8 (v := ?_) hR rfl (by kernel_rfl) (by kernel_rfl) ?_ (by with_reducible assumption) ?_; rotate_left; (focus (intro w hSw; (try dsimp only at hSw); go_simp; (try with_reducible rfl))); (dsimp only [putW]))
        (refine wg_take 9 (v := ?_) hR rfl (by kernel_rfl) (by kernel_rfl) ?_ (by with_reducible assumption) ?_; rotate_left; (focus (intro w hSw; (try dsimp only at hSw); go_simp; (try with_reducible rfl))); (dsimp only [putW]))
        (refine wg_take 10 (v := ?_) hR rfl (by kernel_rfl) (by kernel_rfl) ?_ (by with_reducible assumption) ?_; rotate_left; (focus (intro w hSw; (try dsimp only at hSw); go_simp; (try with_reducible rfl))); (dsimp only [putW]))
        (refine wg_take 11 (v := ?_) hR rfl (by kernel_rfl) (by kernel_rfl) ?_ (by with_reducible assumption) ?_; rotate_left; (focus (intro w hSw; (try dsimp only at hSw); go_simp; (try with_reducible rfl))); (dsimp only [putW]))
        (refine wg_take 12 (v := ?_) hR rfl (by kernel_rfl) (by kernel_rfl) ?_ (by with_reducible assumption) ?_; rotate_left; (focus (intro w hSw; (try dsimp only at hSw); go_simp; (try with_reducible rfl))); (dsimp only [putW]))
        (refine wg_take 14 (v := ?_) hR rfl (by kernel_rfl) (by kernel_rfl) ?_ (by with_reducible assumption) ?_; rotate_left; (focus (intro w hSw; (try dsimp only at hSw); go_simp; (try with_reducible rfl))); (dsimp only [putW]))
        (refine wg_step 13 hR rfl (by kernel_rfl) (by kernel_rfl) ?_ (by kernel_rfl); refine wg_call (f := 23) (args := ?_) ?_ ?_; rotate_left; (focus (go_simp; first | done | (with_reducible rfl) | (refine ⟨?_, ?_⟩ <;> with_reducible rfl))); (go_at_call 23; refine (Check_r lc ka pc _ vA.aa (hVr.trans hHeld.1) sS (hVr.trans hHeld.1) HP.out (hVr.trans hHeld.1) (HT.out.ext (hE.trans (hVr.trans hHeld.1))) Hck2.out).mono ?_; rintro e w5 ⟨rfl, hb⟩); refine ⟨_, rfl, HM.out _ (hHeld.1.trans hb), fun hHeld => ?_⟩; (dsimp only [putW]))
        (refine wg_step 15 hR rfl (by kernel_rfl) (by kernel_rfl) ?_ (by kernel_rfl); refine wg_call (f := 29) (args := ?_) ?_ ?_; rotate_left; (focus (go_simp; first | done | (with_reducible rfl) | (refine ⟨?_, ?_⟩ <;> with_reducible rfl))); (go_at_call 29; refine (Count_r kr _ hv (hVr.trans hHeld.1) (HT.out.ext (hE.trans (hVr.trans hHeld.1))) Hlr.out).mono ?_; rintro e w4 ⟨rfl, hb⟩); refine ⟨_, rfl, HM.out _ (hHeld.1.trans hb), fun hHeld => ?_⟩; (dsimp only [putW]))
        (refine wg_take 16 (v := ?_) hR rfl (by kernel_rfl) (by kernel_rfl) ?_ (by with_reducible assumption) ?_; rotate_left; (focus (intro w hSw; (try dsimp only at hSw); go_simp; (try with_reducible rfl))); (dsimp only [putW]))
        (refine wg_take 17 (v := ?_) hR rfl (by kernel_rfl) (by kernel_rfl) ?_ (by with_reducible assumption) ?_; rotate_left; (focus (intro w hSw; (try dsimp only at hSw); go_simp; (try with_reducible rfl))); (dsimp only [putW]))
        (refine wg_take 18 (v := ?_) hR rfl (by kernel_rfl) (by kernel_rfl) ?_ (by with_reducible assumption) ?_; rotate_left; (focus (intro w hSw; (try dsimp only at hSw); go_simp; (try with_reducible rfl))); (dsimp only [putW]))
        (refine wg_take 19 (v := ?_) hR rfl (by kernel_rfl) (by kernel_rfl) ?_ (by with_reducible assumption) ?_; rotate_left; (focus (intro w hSw; (try dsimp only at hSw); go_simp; (try with_reducible rfl))); (dsimp only [putW]))
        refine wg_fin hR hK [(4, 0), (73, 19), (0, 18), (0, 17), (0, 16), (0, 15), (0, 14), (0, 13), (0, 12), (0, 11), (0, 10), (0, 9), (0, 8), (0, 7), (0, 5), (0, 6), (0, 4), (0, 3), (0, 2), (0, 1)] (by kernel_rfl) (by kernel_rfl) (by dsimp only [mg, gsOf, valAt]) ?_; clear hW1 hW2 hW3 hW4 hW5 hR hK hL
        clear r10
        clear r5
        clear r11
        clear r6
        clear r7
        clear r8
        rw [show ((n0' : Int) == 0) = false from beq_eq_false_iff_ne.2 hni]
        have hZ := hHeld.1
        clear hHeld HM hb
        refine exit_at (fun Z => Ext wr Z) hZ ?_
        clear hZ
        intro Z hZ
        go_wp2_with fail
        go_ret
        exact ⟨rfl, hE.trans (hVr.trans hZ)⟩

end Go.Proofs.YtglfoglkdbbmmaaDoor
