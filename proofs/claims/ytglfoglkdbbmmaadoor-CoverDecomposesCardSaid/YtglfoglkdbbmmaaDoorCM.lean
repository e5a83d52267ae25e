/- Contracts of chapter 16's laws and reference: row, SameAreas, Ints. -/
import Derived.Test.YtglfoglkdbbmmaaDoorCL
import Derived.Test.YtglfoglkdbbmmaaDoorCJ
import Derived.Test.YtglfoglkdbbmmaaDoorCF
namespace Go.Proofs.YtglfoglkdbbmmaaDoor
open Go.RowKit

def rowL (r : Nat) : List Int := Globe.zeroL.set 0 (r : Int)
theorem rowL_valid {r : Nat} (h : r < 281474976710656) : Globe.validL (rowL r) = true := Globe.valid_set Globe.valid_zero (by omega) (by omega)

set_option maxHeartbeats 1000000 in
theorem row_c (r : Nat) (w : World) (h : r < 281474976710656) : Calls Tryd.prog 35 #[.int .i64 (r : Int)] w (RetF w (rowL r)) := by
  have hmk := make24
  go_enter Tryd.func35, Tryd.ntmps35
  go_wp2_with fail
  have hr := RowsAt.new (w.alloc (.cells #[.slice (some ⟨w.heap.size + 1, 0, none⟩) 24 24] 25)) (rowL r) 3 rfl
  have hv := ((RowsAt.va hr (rowL_valid h)).ext (Ext.alloc (Ext.refl _) (.cells #[.slice (some ⟨w.heap.size + 1, 0, none⟩) 24 24] 25)))
  rw [World.size_alloc] at hv
  refine bodyPost_ret (v := .agg #[.slice (some ⟨w.heap.size + 1, 0, none⟩) 24 24]) (by simp [results, Tryd.results35, go_sem]) rfl ⟨w.heap.size + 1, 24, rfl, by omega, hv, by (repeat' (first | (with_reducible assumption) | (with_reducible exact Ext.refl _) | (with_reducible refine Ext.alloc ?_ _) | (with_reducible refine Ext.drew ?_) | (with_reducible refine Ext.drewN ?_ _) | (with_reducible refine Ext.setCell ?_ ?_ _) | (with_reducible refine Ext.trans ?_ (by assumption)) | go_size))⟩

set_option maxHeartbeats 1000000 in
theorem rSameAreas_t {w1 w2 : World} {a1 a2 : Option Addr} {n : Nat} {ls : List (List Int)} (c1 c2 : Nat) (w : World) (h1 : AreasAt w1 a1 n ls) (e1 : Ext w1 w) (h2 : AreasAt w2 a2 n ls) (e2 : Ext w2 w) :
    Calls Tryd.prog 22 #[.slice a1 n c1, .slice a2 n c2] w fun e w' => e = .returned (.bool true) ∧ Ext w w' := by
  have H1 := Lib.hid (h1.ext e1); have H2 := Lib.hid (h2.ext e2)
  have hn := h1.2.1
  clear h1 h2 e1 e2
  go_enter Tryd.func22, Tryd.ntmps22
  go_wp2_with fail
  go_loopw [5] (fun p wr => ∃ i : Nat, i ≤ n ∧ p = .int .i64 i ∧ Ext w wr) (fun p _ => n - (intOf p).toNat)
  case atStart => exact ⟨0, by omega, rfl, Ext.refl _⟩
  case round =>
    obtain ⟨i, hi, rfl, hE⟩ := hrel
    by_cases hlt : i < n
    · obtain ⟨b1, o1, l1, x1, n1, k1, v1, rfl, hl1, d1, g1⟩ := H1.out.at hlt
      obtain ⟨b2, o2, l2, x2, n2, k2, v2, rfl, hl2, d2, g2⟩ := H2.out.at hlt
      rw [hl1] at hl2; cases hl2
      have q1 := hE.cell d1; have q2 := hE.cell d2
      have i0 : (0 : Int) ≤ (i : Int) := by omega
      have i1 : (i : Int) < (n : Int) := by omega
      clear hl1 d1 d2
      obtain ⟨V, rfl⟩ : ∃ V, V = wr := ⟨_, rfl⟩
      go_wp2_with fail
      -- <<same
      refine wg_begin [(some 17, [0], []), (some 18, [5], []), (some 19, [17, 18], [0, 1]), (some 20, [19], [2]), (some 21, [1], []), (some 22, [5], []), (some 23, [21, 22], [4, 5]), (some 24, [23], [6]), (some 25, [20, 24], [3, 7]), (some 26, [25], [8])] (fun w' => Ext V w' ∧ w'.cell? ⟨b1, o1 + i, none⟩ = some (.slice x1 n1 k1) ∧ w'.cell? ⟨b2, o2 + i, none⟩ = some (.slice x2 n2 k2)) (by kernel_rfl) (by kernel_rfl) (by kernel_rfl) (by kernel_rfl) (by intro c d v a w h; cases d <;> first | exact h | (exact nomatch h.1) | (dsimp +zetaDelta only [Exit.then, Exit.inBlock] at h ⊢; exact h)) (⟨Ext.drew (Ext.refl _), q1, q2⟩) (fun ops Q L hL hR hK hHeld => ?_); replace hL := Lib.hid hL; have hW1 := @evalW_tmp; have hW2 := @evalW_const; have hW3 := @evalW_func; have hW4 := @look_cons; have hW5 := @look_nil
      have r0 := wg_read hL.out 0 rfl
      have r5 := wg_read hL.out 5 rfl
      have r1 := wg_read hL.out 1 rfl
      (refine wg_take 0 (v := ?_) hR rfl (by kernel_rfl) (by kernel_rfl) ?_ (by with_reducible assumption) ?_; rotate_left; (focus (intro w hSw; (try dsimp only at hSw); go_simp; (try with_reducible rfl))); (dsimp only [putW]))
      (refine wg_take 1 (v := ?_) hR rfl (by kernel_rfl) (by kernel_rfl) ?_ (by with_reducible assumption) ?_; rotate_left; (focus (intro w hSw; (try dsimp only at hSw); go_simp; (try with_reducible rfl))); (dsimp only [putW]))
      (refine wg_take 2 (v := ?_) hR rfl (by kernel_rfl) (by kernel_rfl) ?_ (by with_reducible assumption) ?_; rotate_left; (focus (intro w hSw; (try dsimp only at hSw); go_simp; (try with_reducible rfl))); (dsimp only [putW]))
      (refine wg_take 3 (v := ?_) hR rfl (by kernel_rfl) (by kernel_rfl) ?_ (by with_reducible assumption) ?_; rotate_left; (focus (intro w hSw; (try dsimp only at hSw); go_simp; (try with_reducible rfl))); (dsimp only [putW]))
      (refine wg_take 4 (v := ?_) hR rfl (by kernel_rfl) (by kernel_rfl) ?_ (by with_reducible assumption) ?_; rotate_left; (focus (intro w hSw; (try dsimp only at hSw); go_simp; (try with_reducible rfl))); (dsimp only [putW]))
      (refine wg_take 5 (v := ?_) hR rfl (by kernel_rfl) (by kernel_rfl) ?_ (by with_reducible assumption) ?_; rotate_left; (focus (intro w hSw; (try dsimp only at hSw); go_simp; (try with_reducible rfl))); (dsimp only [putW]))
      (refine wg_take 6 (v := ?_) hR rfl (by kernel_rfl) (by kernel_rfl) ?_ (by with_reducible assumption) ?_; rotate_left; (focus (intro w hSw; (try dsimp only at hSw); go_simp; (try with_reducible rfl))); (dsimp only [putW]))
      (refine wg_take 7 (v := ?_) hR rfl (by kernel_rfl) (by kernel_rfl) ?_ (by with_reducible assumption) ?_; rotate_left; (focus (intro w hSw; (try dsimp only at hSw); go_simp; (try with_reducible rfl))); (dsimp only [putW]))
      (refine wg_step 8 hR rfl (by kernel_rfl) (by kernel_rfl) ?_ (by kernel_rfl); refine wg_call (f := 21) (args := ?_) ?_ ?_; rotate_left; (focus (go_simp; first | done | (with_reducible rfl) | (refine ⟨?_, ?_⟩ <;> with_reducible rfl))); (go_at_call 21; refine (rSame_c k1 k2 _ g1 (hE.trans hHeld.1) g2 (hE.trans hHeld.1)).mono ?_; rintro e w1 ⟨rfl, hb⟩; rw [decide_eq_true rfl]); refine ⟨_, rfl, ⟨hHeld.1.trans hb, hb.cell hHeld.2.1, hb.cell hHeld.2.2⟩, fun hHeld => ?_⟩; (dsimp only [putW]))
      (refine wg_take 9 (v := ?_) hR rfl (by kernel_rfl) (by kernel_rfl) ?_ (by with_reducible assumption) ?_; rotate_left; (focus (intro w hSw; (try dsimp only at hSw); go_simp; (try with_reducible rfl))); (dsimp only [putW]))
      refine wg_fin hR hK [(17, 9), (0, 8), (0, 7), (0, 6), (0, 5), (0, 4), (0, 3), (0, 2), (0, 1), (0, 0)] (by kernel_rfl) (by kernel_rfl) (by dsimp only [mg, gsOf, valAt]) ?_; clear hW1 hW2 hW3 hW4 hW5 hR hK hL
      clear r0
      clear r5
      clear r1
      -- >>
      have hb := hHeld.1
      clear hHeld
      go_wp2_with fail
      go_roundw
      case rel => exact ⟨i + 1, by omega, by go_num, hE.trans hb⟩
      case measure => simp [intOf]; omega
    · obtain rfl : i = n := by omega
      go_wp2_with fail
      go_ret
      exact ⟨rfl, hE⟩

set_option maxHeartbeats 1000000 in
theorem rInts_t {w1 w2 : World} {a1 a2 : Option Addr} {n : Nat} {l : List Int} (c1 c2 : Nat) (w : World) (h1 : IntsAt w1 a1 l) (e1 : Ext w1 w) (h2 : IntsAt w2 a2 l) (e2 : Ext w2 w) (hl : l.length = n) (hn : n ≤ 140737488355328) :
    Calls Tryd.prog 27 #[.slice a1 n c1, .slice a2 n c2] w fun e w' => e = .returned (.bool true) ∧ Ext w w' := by
  have H1 := Lib.hid (h1.ext e1); have H2 := Lib.hid (h2.ext e2)
  have Hl := Lib.hid hl
  clear h1 h2 e1 e2 hl
  go_enter Tryd.func27, Tryd.ntmps27
  go_wp2_with fail
  go_loopw [5] (fun p wr => ∃ i : Nat, i ≤ n ∧ p = .int .i64 i ∧ Ext w wr) (fun p _ => n - (intOf p).toNat)
  case atStart => exact ⟨0, by omega, rfl, Ext.refl _⟩
  case round =>
    obtain ⟨i, hi, rfl, hE⟩ := hrel
    by_cases hlt : i < n
    · obtain ⟨b1, o1, rfl, q1⟩ : ∃ b off, a1 = some ⟨b, off, none⟩ ∧ ∀ i, i < l.length → w.cell? ⟨b, off + i, none⟩ = some (.int .i64 (Globe.nth l i)) := H1.out.resolve_left (by intro e; have := Hl.out; rw [e] at this; simp at this; omega)
      obtain ⟨b2, o2, rfl, q2⟩ : ∃ b off, a2 = some ⟨b, off, none⟩ ∧ ∀ i, i < l.length → w.cell? ⟨b, off + i, none⟩ = some (.int .i64 (Globe.nth l i)) := H2.out.resolve_left (by intro e; have := Hl.out; rw [e] at this; simp at this; omega)
      have d1 := hE.cell (q1 i (by rw [Hl.out]; exact hlt))
      have d2 := hE.cell (q2 i (by rw [Hl.out]; exact hlt))
      clear q1 q2
      generalize Globe.nth l i = z at *
      have i0 : (0 : Int) ≤ (i : Int) := by omega
      have i1 : (i : Int) < (n : Int) := by omega
      go_wp2_with fail
      go_quiet (fail)
      go_wp2_with fail
      go_roundw
      case rel => exact ⟨i + 1, by omega, by go_num, Ext.drewN hE _⟩
      case measure => simp [intOf]; omega
    · obtain rfl : i = n := by omega
      go_wp2_with fail
      go_ret
      exact ⟨rfl, hE⟩

end Go.Proofs.YtglfoglkdbbmmaaDoor
