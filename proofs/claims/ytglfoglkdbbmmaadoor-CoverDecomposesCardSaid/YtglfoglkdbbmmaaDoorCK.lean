/- Contracts of the reference of package cover: pick, Area. -/
import Derived.Test.YtglfoglkdbbmmaaDoorRH
import Derived.Test.YtglfoglkdbbmmaaDoorWG
import Derived.Test.YtglfoglkdbbmmaaDoorWO
import Derived.Test.YtglfoglkdbbmmaaDoorME
import Derived.Test.YtglfoglkdbbmmaaDoorCE
namespace Go.Proofs.YtglfoglkdbbmmaaDoor
open Go.RowKit
open Globe (outTo outTo_snoc outTo_nil outTo_spec)

theorem rpick16_c (c n : Int) (w : World) (hc : IsI c) (h0 : 0 < n) (h1 : n ≤ 100000000) : Calls Tryd.prog 37 #[.int .i64 c, .int .i64 n] w fun e w' => e = .returned (.int .i64 (pickF c n)) ∧ w = w' := by
  obtain ⟨h2, h3⟩ := hc
  by_cases h : c < 0
  · go_enter Tryd.func37, Tryd.ntmps37
    go_wp2
    go_ret
    exact ⟨ret_int (by rw [pickF_neg h, ← Int.neg_tmod, Int.tmod_eq_emod_of_nonneg (by omega)]), rfl⟩
  · have h' : 0 ≤ c := by omega
    go_enter Tryd.func37, Tryd.ntmps37
    go_wp2
    go_ret
    exact ⟨ret_int (by rw [pickF_pos h']), rfl⟩

theorem pick_c (c n : Int) (w : World) (hc : IsI c) (h0 : 0 < n) (h1 : n ≤ 100000000) : Calls Tryd.prog 14 #[.int .i64 c, .int .i64 n] w fun e w' => e = .returned (.int .i64 (pickF c n)) ∧ w = w' := by
  obtain ⟨h2, h3⟩ := hc
  by_cases h : c < 0
  · go_enter Tryd.func14, Tryd.ntmps14
    go_wp2
    go_ret
    exact ⟨ret_int (by rw [pickF_neg h, ← Int.neg_tmod, Int.tmod_eq_emod_of_nonneg (by omega)]), rfl⟩
  · have h' : 0 ≤ c := by omega
    go_enter Tryd.func14, Tryd.ntmps14
    go_wp2
    go_ret
    exact ⟨ret_int (by rw [pickF_pos h']), rfl⟩

/-- The slice at a (n elements) reads as rows of four ints. -/
def QAt (w : World) (a : Option Addr) (n : Nat) (q : Nat → Nat → Int) : Prop :=
  n = 0 ∨ ∃ b off, a = some ⟨b, off, none⟩ ∧ ∀ i, i < n → ∀ j, j < 4 → w.cell? ⟨b, off + i * 4 + j, none⟩ = some (.int .i64 (q i j)) ∧ IsI (q i j)
theorem QAt.ext {w w' : World} {a : Option Addr} {n : Nat} {q : Nat → Nat → Int} (h : QAt w a n q) (hE : Ext w w') : QAt w' a n q :=
  h.imp id fun ⟨b, off, ha, hc⟩ => ⟨b, off, ha, fun i hi j hj => ⟨hE.cell (hc i hi j hj).1, (hc i hi j hj).2⟩⟩


/-- The cells of the areas that integers determine. -/
def arC (q : Nat → Nat → Int) (i k : Nat) : Nat := (46 + (pickF (q i 0) 8).toNat + k) % 48
def arR (q : Nat → Nat → Int) (i y : Nat) : Nat := (pickF (q i 1) 6).toNat + y
def arK (q : Nat → Nat → Int) (i y k : Nat) : List (Nat × Nat) := (List.range k).map fun k => (arC q i k, arR q i y)
def arY (q : Nat → Nat → Int) (i y : Nat) : List (Nat × Nat) := (List.range y).flatMap fun y => arK q i y ((pickF (q i 2) 6).toNat + 1)
def arP (q : Nat → Nat → Int) (i : Nat) : List (Nat × Nat) := (List.range i).flatMap fun i => arY q i ((pickF (q i 3) 4).toNat + 1)
theorem arK_succ (q : Nat → Nat → Int) (i y k : Nat) : arK q i y (k + 1) = arK q i y k ++ [(arC q i k, arR q i y)] := by simp [arK, List.range_succ]
theorem arY_succ (q : Nat → Nat → Int) (i y : Nat) : arY q i (y + 1) = arY q i y ++ arK q i y ((pickF (q i 2) 6).toNat + 1) := by simp [arY, List.range_succ]
theorem arP_succ (q : Nat → Nat → Int) (i : Nat) : arP q (i + 1) = arP q i ++ arY q i ((pickF (q i 3) 4).toNat + 1) := by simp [arP, List.range_succ]
theorem arK_in {q : Nat → Nat → Int} {i y k : Nat} (hy : y < 5) : ∀ p ∈ arK q i y k, p.1 < 48 ∧ p.2 < 24 := by
  intro p hp
  simp only [arK, List.mem_map, List.mem_range] at hp
  obtain ⟨z, _, rfl⟩ := hp
  have := @pickF_bd (q i 1) 6 (by omega)
  exact ⟨Nat.mod_lt _ (by decide), by show arR q i y < 24; unfold arR; omega⟩
theorem arY_in {q : Nat → Nat → Int} {i y : Nat} (hy : y ≤ 5) : ∀ p ∈ arY q i y, p.1 < 48 ∧ p.2 < 24 := by
  intro p hp
  simp only [arY, List.mem_flatMap, List.mem_range] at hp
  obtain ⟨z, hz, hp⟩ := hp
  exact arK_in (by omega) p hp
theorem arP_in {q : Nat → Nat → Int} {i : Nat} : ∀ p ∈ arP q i, p.1 < 48 ∧ p.2 < 24 := by
  intro p hp
  simp only [arP, List.mem_flatMap, List.mem_range] at hp
  obtain ⟨z, hz, hp⟩ := hp
  have := @pickF_bd (q z 3) 4 (by omega)
  exact arY_in (by omega) p hp
/-- The area that n rows of integers determine. -/
def areaL (q : Nat → Nat → Int) (n : Nat) : List Int := outTo (arP q (min n 3))
theorem area_valid (q : Nat → Nat → Int) (n : Nat) : Globe.validL (areaL q n) = true := (outTo_spec _ _ rfl arP_in).1
/-- In the midst of Area: the area's own block B, its box O; the cells that it has so far. -/
def MkA (w : World) (O B : Nat) (pts : List (Nat × Nat)) (wr : World) : Prop :=
  RowsAt wr B (outTo pts) ∧ wr.cell? ⟨O, 0, none⟩ = some (.slice (some ⟨B, 0, none⟩) 24 24) ∧ BoxAt wr w.heap.size 0 (.slice none 0 0) ∧ Ext w wr

set_option maxRecDepth 100000 in
set_option maxHeartbeats 8000000 in
theorem Area_c {w0 : World} {a : Option Addr} {n : Nat} (c : Nat) {q : Nat → Nat → Int} (w : World) (h : QAt w0 a n q) (hE0 : Ext w0 w) (hn : n ≤ 9223372036854775807) :
    Calls Tryd.prog 11 #[.slice a n c] w (RetF w (areaL q n)) := by
  have H := Lib.hid (h.ext hE0); clear h hE0
  go_enter Tryd.func11, Tryd.ntmps11
  go_wp2_with (go_at_call 36; refine (rEmpty_c _).mono ?_; rintro e w2 ⟨B, rfl, hB, hr, hb2⟩)
  obtain ⟨O, hO⟩ : ∃ O, O = w2.heap.size := ⟨_, rfl⟩
  have hBO : B < O := by have := hr.lt; omega
  have hwB : w.heap.size < B := by simp at hB; omega
  refine wp_name (fun V => MkA w O B [] V) ⟨?_, ?_, ?_, ?_⟩ ?_
  · exact hr.ext (by (repeat' (first | (with_reducible assumption) | (with_reducible exact Ext.refl _) | (with_reducible refine Ext.alloc ?_ _) | (with_reducible refine Ext.drew ?_) | (with_reducible refine Ext.drewN ?_ _) | (with_reducible refine Ext.setCell ?_ ?_ _) | (with_reducible refine Ext.trans ?_ (by assumption)) | go_size)))
  · rw [hO]; simp [go_sem]
  · (repeat' (first | (with_reducible assumption) | (exact ⟨by simp [go_sem], by simp [go_sem]⟩) | (with_reducible refine BoxAt.ext (Ext.alloc (Ext.refl _) _) ?_) | (with_reducible refine BoxAt.ext (by with_reducible assumption) ?_)))
  · (repeat' (first | (with_reducible assumption) | (with_reducible exact Ext.refl _) | (with_reducible refine Ext.alloc ?_ _) | (with_reducible refine Ext.drew ?_) | (with_reducible refine Ext.drewN ?_ _) | (with_reducible refine Ext.setCell ?_ ?_ _) | (with_reducible refine Ext.trans ?_ (by assumption)) | go_size))
  intro V hF
  rw [← hO]
  clear hO hr hb2 hB
  go_loopw [4] (fun p wr => ∃ i : Nat, i ≤ n ∧ i ≤ 3 ∧ p = .int .i64 i ∧ MkA w O B (arP q i) wr) (fun p _ => 3 - (intOf p).toNat)
  case atStart => exact ⟨0, by omega, by omega, rfl, hF⟩
  case round =>
    clear hF
    obtain ⟨i, hi, hi3, rfl, hF⟩ := hrel
    by_cases hlt : i < n ∧ i < 3
    · obtain ⟨hl1, hl2⟩ := hlt
      obtain ⟨b, off, rfl, hq⟩ : ∃ b off, a = some ⟨b, off, none⟩ ∧ ∀ i, i < n → ∀ j, j < 4 → w.cell? ⟨b, off + i * 4 + j, none⟩ = some (.int .i64 (q i j)) ∧ IsI (q i j) := H.out.resolve_left (by omega)
      have pq0 : w.cell? ⟨b, off + i * 4, none⟩ = some (.int .i64 (q i 0)) := (hq i hl1 0 (by omega)).1
      have pq1 := (hq i hl1 1 (by omega)).1
      have pq2 := (hq i hl1 2 (by omega)).1
      have pq3 := (hq i hl1 3 (by omega)).1
      have I0 := Lib.hid (hq i hl1 0 (by omega)).2
      have I1 := Lib.hid (hq i hl1 1 (by omega)).2
      have I2 := Lib.hid (hq i hl1 2 (by omega)).2
      have I3 := Lib.hid (hq i hl1 3 (by omega)).2
      clear hq
      have hbl : b < w.heap.size := World.block_lt_of_cell? w _ pq0
      have i0 : (0 : Int) ≤ (i : Int) := by omega
      have i1 : (i : Int) < (n : Int) := by omega
      have i2 : (i : Int) < 3 := by omega
      obtain ⟨h0, h1⟩ := @pickF_bd (q i 3) 4 (by omega)
      obtain ⟨g0, g1⟩ := @pickF_bd (q i 2) 6 (by omega)
      obtain ⟨y0, y1⟩ := @pickF_bd (q i 1) 6 (by omega)
      obtain ⟨x0, x1⟩ := @pickF_bd (q i 0) 8 (by omega)
      obtain ⟨wo, rfl⟩ : ∃ wo : World, wo = wr := ⟨_, rfl⟩
      go_wp2_with fail
      go_loopw [5] (fun p wr => ∃ y : Nat, (y : Int) ≤ pickF (q i 3) 4 + 1 ∧ p = .int .i64 y ∧ MkA w O B (arP q i ++ arY q i y) wr) (fun p _ => 5 - (intOf p).toNat)
      case atStart => exact ⟨0, by omega, rfl, by simpa [arY] using hF⟩
      case round =>
        clear hF
        obtain ⟨y, hy, rfl, hF⟩ := hrel
        have hE := hF.2.2.2
        have q2 := hE.cell pq2
        have q3 := hE.cell pq3
        by_cases hly : (y : Int) ≤ pickF (q i 3) 4
        · go_wp2_with (go_at_call 37; refine (rpick16_c _ _ _ I3.out (by omega) (by omega)).mono ?_; rintro e w' ⟨rfl, rfl⟩)
          obtain ⟨wo2, rfl⟩ : ∃ wo2 : World, wo2 = wr := ⟨_, rfl⟩
          clear q2 q3
          go_loopw [6] (fun p wr => ∃ k : Nat, (k : Int) ≤ pickF (q i 2) 6 + 1 ∧ p = .int .i64 k ∧ MkA w O B (arP q i ++ arY q i y ++ arK q i y k) wr) (fun p _ => 7 - (intOf p).toNat)
          case atStart => exact ⟨0, by omega, rfl, by simpa [arK] using hF⟩
          case round =>
            clear hF hE
            obtain ⟨k, hk, rfl, hF⟩ := hrel
            have hE := hF.2.2.2
            have q0 := hE.cell pq0
            have q1 := hE.cell pq1
            have q2 := hE.cell pq2
            by_cases hlk : (k : Int) ≤ pickF (q i 2) 6
            · go_wp2_with (go_at_call 37; refine (rpick16_c _ _ _ (by first | exact I0.out | exact I2.out) (by omega) (by omega)).mono ?_; rintro e w' ⟨rfl, rfl⟩)
              obtain ⟨C, hC⟩ : ∃ C, C = arC q i k := ⟨_, rfl⟩
              obtain ⟨Y, hY⟩ : ∃ Y, Y = arR q i y := ⟨_, rfl⟩
              have hC2 : (46 + pickF (q i 0) 8 + (k : Int)) % 48 = (C : Int) := by rw [hC]; unfold arC; omega
              have hY2 : IntKind.i64.wrap (pickF (q i 1) 6 + (y : Int)) = (Y : Int) := by rw [hY]; unfold arR; rw [IntKind.wrap_i64]; omega
              have hC48 : C < 48 := by rw [hC]; exact Nat.mod_lt _ (by decide)
              have hY24 : Y < 24 := by rw [hY]; unfold arR; omega
              rw [hC2]
              have KY := Lib.hid hY2
              have HC := Lib.hid hC
              have HY := Lib.hid hY
              clear hC2 hY2 hC hY
              obtain ⟨hr, cO, b2, hE2⟩ := hF
              have hvl : Globe.validL (outTo (arP q i ++ arY q i y ++ arK q i y k)) = true := (outTo_spec _ _ rfl (fun p hp => by
                rcases List.mem_append.1 hp with hp | hp
                · rcases List.mem_append.1 hp with hp | hp
                  · exact arP_in p hp
                  · exact arY_in (by omega) p hp
                · exact arK_in (by omega) p hp)).1
              generalize hL : outTo (arP q i ++ arY q i y ++ arK q i y k) = L at *
              have hR := Globe.rowN_lt hvl Y
              have d3 : wr.cell? ⟨B, Y, none⟩ = some (.int .i64 (Globe.rowN L Y : Nat)) := by rw [← Globe.rowN_cast hvl]; exact hr.cell hY24
              have d4 := hr.free hY24
              have hbB : b ≠ B := by omega
              have hOB : O ≠ B := by omega
              obtain ⟨s0, s1, s2⟩ := p2_shl (n := C) (by omega)
              have s3 : bits .or .i64 (Globe.rowN L Y : Nat) (p2 C : Nat) = ((Globe.rowN L Y ||| p2 C : Nat) : Int) := or_i64 _ _ (by omega) (by omega)
              have z0 : (0 : Int) ≤ (Y : Int) := by omega
              have z1 : (Y : Int) < 24 := by omega
              have HPut := Lib.hid (show L.set Y ((Globe.rowN L Y ||| p2 C : Nat) : Int) = outTo (arP q i ++ arY q i y ++ arK q i y (k + 1)) from by
                rw [arK_succ, ← List.append_assoc, outTo_snoc, hL, ← HC.out, ← HY.out]; rfl)
              have HLq := Lib.hid hL; clear hL hvl s1 s2 hR
              have Hr := Lib.hid hr; clear hr
              have HE2 := Lib.hid hE2; clear hE2
              generalize Globe.rowN L Y ||| p2 C = RO at *
              generalize Globe.rowN L Y = R0 at *
              clear pq0 pq1 pq2 pq3 q0 q2 hE
              -- <<area
              refine wg_begin [(some 49, [3], []), (some 50, [49], [0]), (some 51, [0], []), (some 52, [4], []), (some 53, [51, 52], [2, 3]), (some 54, [53], [4]), (some 55, [54], [5]), (some 56, [55], [6]), (some 57, [5], []), (some 58, [56, 57], [7, 8]), (some 59, [3], []), (some 60, [59], [10]), (some 61, [0], []), (some 62, [4], []), (some 63, [61, 62], [12, 13]), (some 64, [63], [14]), (some 65, [64], [15]), (some 66, [65], [16, 7]), (some 67, [5], []), (some 68, [66, 67], [17, 18]), (some 69, [60, 68], [11, 19]), (some 70, [69], [20]), (some 71, [7], []), (some 72, [71], [22]), (some 73, [70, 72], [21, 23]), (some 74, [50, 58], [1, 9, 0, 1, 2, 3, 4, 5, 6, 7, 8, 9, 10, 11, 12, 13, 14, 15, 16, 17, 18, 19, 20, 21, 22, 23, 24]), (none, [74, 73], [25, 24, 17, 0, 1, 2, 3, 4, 5, 6, 7, 8, 9, 10, 11, 12, 13, 14, 15, 16, 17, 18, 19, 20, 21, 22, 23, 24])] (fun w' => w'.cell? ⟨O, 0, none⟩ = some (.slice (some ⟨B, 0, none⟩) 24 24) ∧ w'.cell? ⟨b, off + i * 4 + 1, none⟩ = some (.int .i64 (q i 1))) (by kernel_rfl) (by kernel_rfl) (by kernel_rfl) (by kernel_rfl) (by intro c d v a w h; cases d <;> first | exact h | (exact nomatch h.1) | (dsimp +zetaDelta only [Exit.then, Exit.inBlock] at h ⊢; exact h)) (⟨cO, q1⟩) (fun ops Q L hL hR hK hHeld => ?_); replace hL := Lib.hid hL; have hW1 := @evalW_tmp; have hW2 := @evalW_const; have hW3 := @evalW_func; have hW4 := @look_cons; have hW5 := @look_nil
              have r3 := wg_read hL.out 3 rfl
              have r0 := wg_read hL.out 0 rfl
              have r4 := wg_read hL.out 4 rfl
              have r5 := wg_read hL.out 5 rfl
              have r7 := wg_read hL.out 7 rfl
              (refine wg_take 0 (v := ?_) hR rfl (by kernel_rfl) (by kernel_rfl) ?_ (by with_reducible assumption) ?_; rotate_left; (focus (intro w hSw; (try dsimp only at hSw); go_simp; (try with_reducible rfl))); (dsimp only [putW]))
              (refine wg_take 1 (v := ?_) hR rfl (by kernel_rfl) (by kernel_rfl) ?_ (by with_reducible assumption) ?_; rotate_left; (focus (intro w hSw; (try dsimp only at hSw); go_simp; (try with_reducible rfl))); (dsimp only [putW]))
              (refine wg_take 2 (v := ?_) hR rfl (by kernel_rfl) (by kernel_rfl) ?_ (by with_reducible assumption) ?_; rotate_left; (focus (intro w hSw; (try dsimp only at hSw); go_simp; (try with_reducible rfl))); (dsimp only [putW]))
              (refine wg_take 3 (v := ?_) hR rfl (by kernel_rfl) (by kernel_rfl) ?_ (by with_reducible assumption) ?_; rotate_left; (focus (intro w hSw; (try dsimp only at hSw); go_simp; (try with_reducible rfl))); (dsimp only [putW]))
              (refine wg_take 4 (v := ?_) hR rfl (by kernel_rfl) (by kernel_rfl) ?_ (by with_reducible assumption) ?_; rotate_left; (focus (intro w hSw; (try dsimp only at hSw); go_simp; (try with_reducible rfl))); (dsimp only [putW]))
              (refine wg_take 5 (v := ?_) hR rfl (by kernel_rfl) (by kernel_rfl) ?_ (by with_reducible assumption) ?_; rotate_left; (focus (intro w hSw; (try dsimp only at hSw); go_simp; (try with_reducible rfl))); (dsimp only [putW]))
              (refine wg_take 6 (v := ?_) hR rfl (by kernel_rfl) (by kernel_rfl) ?_ (by with_reducible assumption) ?_; rotate_left; (focus (intro w hSw; (try dsimp only at hSw); go_simp; (try with_reducible rfl))); (dsimp only [putW]))
              (refine wg_take 8 (v := ?_) hR rfl (by kernel_rfl) (by kernel_rfl) ?_ (by with_reducible assumption) ?_; rotate_left; (focus (intro w hSw; (try dsimp only at hSw); go_simp; (try with_reducible rfl))); (dsimp only [putW]))
              (refine wg_take 10 (v := ?_) hR rfl (by kernel_rfl) (by kernel_rfl) ?_ (by with_reducible assumption) ?_; rotate_left; (focus (intro w hSw; (try dsimp only at hSw); go_simp; (try with_reducible rfl))); (dsimp only [putW]))
              (refine wg_take 11 (v := ?_) hR rfl (by kernel_rfl) (by kernel_rfl) ?_ (by with_reducible assumption) ?_; rotate_left; (focus (intro w hSw; (try dsimp only at hSw); go_simp; (try with_reducible rfl))); (dsimp only [putW]))
              (refine wg_take 12 (v := ?_) hR rfl (by kernel_rfl) (by kernel_rfl) ?_ (by with_reducible assumption) ?_; rotate_left; (focus (intro w hSw; (try dsimp only at hSw); go_simp; (try with_reducible rfl))); (dsimp only [putW]))
              (refine wg_take 13 (v := ?_) hR rfl (by kernel_rfl) (by kernel_rfl) ?_ (by with_reducible assumption) ?_; rotate_left; (focus (intro w hSw; (try dsimp only at hSw); go_simp; (try with_reducible rfl))); (dsimp only [putW]))
              (refine wg_take 14 (v := ?_) hR rfl (by kernel_rfl) (by kernel_rfl) ?_ (by with_reducible assumption) ?_; rotate_left; (focus (intro w hSw; (try dsimp only at hSw); go_simp; (try with_reducible rfl))); (dsimp only [putW]))
              (refine wg_take 15 (v := ?_) hR rfl (by kernel_rfl) (by kernel_rfl) ?_ (by with_reducible assumption) ?_; rotate_left; (focus (intro w hSw; (try dsimp only at hSw); go_simp; (try with_reducible rfl))); (dsimp only [putW]))
              (refine wg_take 16 (v := ?_) hR rfl (by kernel_rfl) (by kernel_rfl) ?_ (by with_reducible assumption) ?_; rotate_left; (focus (intro w hSw; (try dsimp only at hSw); go_simp; (try with_reducible rfl))); (dsimp only [putW]))
              (refine wg_take 18 (v := ?_) hR rfl (by kernel_rfl) (by kernel_rfl) ?_ (by with_reducible assumption) ?_; rotate_left; (focus (intro w hSw; (try dsimp only at hSw); go_simp; (try with_reducible rfl))); (dsimp only [putW]))
              (refine wg_take 22 (v := ?_) hR rfl (by kernel_rfl) (by kernel_rfl) ?_ (by with_reducible assumption) ?_; rotate_left; (focus (intro w hSw; (try dsimp only at hSw); go_simp; (try with_reducible rfl))); (dsimp only [putW]))
              (refine wg_take 23 (v := ?_) hR rfl (by kernel_rfl) (by kernel_rfl) ?_ (by with_reducible assumption) ?_; rotate_left; (focus (intro w hSw; (try dsimp only at hSw); go_simp; (try with_reducible rfl))); (dsimp only [putW]))
              (refine wg_step 7 hR rfl (by kernel_rfl) (by kernel_rfl) ?_ (by kernel_rfl); refine wg_call (f := 37) (args := ?_) ?_ ?_; rotate_left; (focus (go_simp; first | done | (with_reducible rfl) | (refine ⟨?_, ?_⟩ <;> with_reducible rfl))); (go_at_call 37; refine (rpick16_c _ _ _ I1.out (by omega) (by omega)).mono ?_; rintro e w' ⟨rfl, rfl⟩); refine ⟨_, rfl, hHeld, fun hHeld => ?_⟩; (dsimp only [putW]))
              (refine wg_take 9 (v := ?_) hR rfl (by kernel_rfl) (by kernel_rfl) ?_ (by with_reducible assumption) ?_; rotate_left; (focus (intro w hSw; (try dsimp only at hSw); have k0 := KY.out; go_simp; (try with_reducible rfl))); (dsimp only [putW]))
              (refine wg_step 17 hR rfl (by kernel_rfl) (by kernel_rfl) ?_ (by kernel_rfl); refine wg_call (f := 37) (args := ?_) ?_ ?_; rotate_left; (focus (go_simp; first | done | (with_reducible rfl) | (refine ⟨?_, ?_⟩ <;> with_reducible rfl))); (go_at_call 37; refine (rpick16_c _ _ _ I1.out (by omega) (by omega)).mono ?_; rintro e w' ⟨rfl, rfl⟩); refine ⟨_, rfl, hHeld, fun hHeld => ?_⟩; (dsimp only [putW]))
              (refine wg_take 19 (v := ?_) hR rfl (by kernel_rfl) (by kernel_rfl) ?_ (by with_reducible assumption) ?_; rotate_left; (focus (intro w hSw; (try dsimp only at hSw); have k0 := KY.out; go_simp; (try with_reducible rfl))); (dsimp only [putW]))
              (refine wg_take 20 (v := ?_) hR rfl (by kernel_rfl) (by kernel_rfl) ?_ (by with_reducible assumption) ?_; rotate_left; (focus (intro w hSw; (try dsimp only at hSw); go_simp; (try with_reducible rfl))); (dsimp only [putW]))
              (refine wg_step 21 hR rfl (by kernel_rfl) (by kernel_rfl) ?_ (by kernel_rfl); refine wg_eff (v := ?_) (w' := ?_) ?_ ?_ ?_; rotate_left; rotate_left; (focus (go_simp; first | done | (with_reducible rfl) | (refine ⟨?_, ?_⟩ <;> with_reducible rfl))); (focus (exact hHeld)); intro hHeld; (dsimp only [putW]))
              (refine wg_take 24 (v := ?_) hR rfl (by kernel_rfl) (by kernel_rfl) ?_ (by with_reducible assumption) ?_; rotate_left; (focus (intro w hSw; (try dsimp only at hSw); go_simp; (try with_reducible rfl))); (dsimp only [putW]))
              (refine wg_take 25 (v := ?_) hR rfl (by kernel_rfl) (by kernel_rfl) ?_ (by with_reducible assumption) ?_; rotate_left; (focus (intro w hSw; (try dsimp only at hSw); go_simp; (try with_reducible rfl))); (dsimp only [putW]))
              (refine wg_step 26 hR rfl (by kernel_rfl) (by kernel_rfl) ?_ (by kernel_rfl); refine wg_skp (w' := ?_) ?_ ?_ ?_; rotate_left; (focus (go_simp; first | done | (with_reducible rfl))); (focus (exact ⟨(World.cell?_setCell_other _ _ _ _ (fun e => hOB (congrArg Addr.block e).symm)).trans hHeld.1, (World.cell?_setCell_other _ _ _ _ (fun e => hbB (congrArg Addr.block e).symm)).trans hHeld.2⟩)); intro hHeld; (dsimp only [putW]))
              refine wg_fin hR hK [(49, 25), (0, 24), (0, 23), (0, 22), (0, 21), (0, 20), (0, 19), (0, 7), (0, 18), (0, 6), (0, 17), (0, 16), (0, 15), (0, 14), (0, 13), (0, 12), (0, 11), (0, 5), (0, 10), (0, 4), (0, 3), (0, 2), (0, 9), (0, 8), (0, 1), (0, 0)] (by kernel_rfl) (by kernel_rfl) (by dsimp only [mg, gsOf, valAt]) ?_; clear hW1 hW2 hW3 hW4 hW5 hR hK hL
              clear r3
              clear r0
              clear r4
              clear r5
              clear r7
              -- >>
              go_wp2
              go_roundw
              case rel => exact ⟨k + 1, by omega, by go_num, by rw [← HPut.out]; exact (Hr.out.drew).set hY24 _, hHeld.1, b2.drew.other (p := ⟨B, Y, none⟩) (by show B ≠ _; omega) _, Ext.setCell (Ext.drew HE2.out) (p := ⟨B, Y, none⟩) (by show _ ≤ B; omega) _⟩
              case measure => simp [intOf]; omega
            · go_wp2_with (go_at_call 37; refine (rpick16_c _ _ _ I2.out (by omega) (by omega)).mono ?_; rintro e w' ⟨rfl, rfl⟩)
              go_roundw
              case rel => exact ⟨y + 1, by omega, by go_num, by rw [arY_succ, ← List.append_assoc, show (pickF (q i 2) 6).toNat + 1 = k by omega]; exact hF⟩
              case measure => simp [intOf]; omega
        · go_wp2_with (go_at_call 37; refine (rpick16_c _ _ _ I3.out (by omega) (by omega)).mono ?_; rintro e w' ⟨rfl, rfl⟩)
          go_roundw
          case rel => exact ⟨i + 1, by omega, by omega, by go_num, by rw [arP_succ, show (pickF (q i 3) 4).toNat + 1 = y by omega]; exact hF⟩
          case measure => simp [intOf]; omega
    · have hm : min n 3 = i := by omega
      have hv : Globe.validL (areaL q n) = true := area_valid q n
      have Hm := Lib.hid hm; clear hm
      obtain ⟨hr, cO, ⟨c2, f2⟩, hE⟩ := hF
      by_cases hln : i < n
      · have j1 : (i : Int) < (n : Int) := by omega
        have j2 : ¬ (i : Int) < 3 := by omega
        go_wp2_with fail
        refine bodyPost_ret (v := .agg #[.slice (some ⟨B, 0, none⟩) 24 24]) (by simp [results, Tryd.results11, go_sem, c2]) rfl ⟨B, 24, rfl, by omega, ?_, by (repeat' (first | (with_reducible assumption) | (with_reducible exact Ext.refl _) | (with_reducible refine Ext.alloc ?_ _) | (with_reducible refine Ext.drew ?_) | (with_reducible refine Ext.drewN ?_ _) | (with_reducible refine Ext.setCell ?_ ?_ _) | (with_reducible refine Ext.trans ?_ (by assumption)) | go_size))⟩
        refine VA.other (RowsAt.va (show RowsAt wr B (areaL q n) by unfold areaL; rw [Hm.out]; exact hr) hv) (by show w.heap.size ≠ B; omega) _
      · have j1 : ¬ (i : Int) < (n : Int) := by omega
        go_wp2_with fail
        refine bodyPost_ret (v := .agg #[.slice (some ⟨B, 0, none⟩) 24 24]) (by simp [results, Tryd.results11, go_sem, c2]) rfl ⟨B, 24, rfl, by omega, ?_, by (repeat' (first | (with_reducible assumption) | (with_reducible exact Ext.refl _) | (with_reducible refine Ext.alloc ?_ _) | (with_reducible refine Ext.drew ?_) | (with_reducible refine Ext.drewN ?_ _) | (with_reducible refine Ext.setCell ?_ ?_ _) | (with_reducible refine Ext.trans ?_ (by assumption)) | go_size))⟩
        refine VA.other (RowsAt.va (show RowsAt wr B (areaL q n) by unfold areaL; rw [Hm.out]; exact hr) hv) (by show w.heap.size ≠ B; omega) _

end Go.Proofs.YtglfoglkdbbmmaaDoor
