/- Contract of the reference's Made: an area that integers determine. -/
import Derived.Test.YtnfknekbbdfdfaaDoorRA
import Derived.Test.YtnfknekbbdfdfaaDoorWR
namespace Go.Proofs.YtnfknekbbdfdfaaDoor
open Go.RowKit

/-- The slice at a (n elements) reads as rows of four ints. -/
def QAt (w : World) (a : Option Addr) (n : Nat) (q : Nat → Nat → Int) : Prop :=
  n = 0 ∨ ∃ b off, a = some ⟨b, off, none⟩ ∧ ∀ i, i < n → ∀ j, j < 4 → w.cell? ⟨b, off + i * 4 + j, none⟩ = some (.int .i64 (q i j)) ∧ IsI (q i j)
theorem QAt.ext {w w' : World} {a : Option Addr} {n : Nat} {q : Nat → Nat → Int} (h : QAt w a n q) (hE : Ext w w') : QAt w' a n q :=
  h.imp id fun ⟨b, off, ha, hc⟩ => ⟨b, off, ha, fun i hi j hj => ⟨hE.cell (hc i hi j hj).1, (hc i hi j hj).2⟩⟩

set_option maxHeartbeats 4000000 in
theorem Made_c {w0 : World} {a : Option Addr} {n : Nat} (c : Nat) {q : Nat → Nat → Int} (w : World) (h : QAt w0 a n q) (hE0 : Ext w0 w) (hn : n ≤ 9223372036854775807) :
    Calls Tryd.prog 11 #[.slice a n c] w (RetM w) := by
  have H := Lib.hid (h.ext hE0); clear h hE0
  go_enter Tryd.func11, Tryd.ntmps11
  go_wp2_with (go_at_call 47; refine (rEmpty_c _).mono ?_; rintro e w2 ⟨B, rfl, hB, hr, hb2⟩)
  obtain ⟨O, hO⟩ : ∃ O, O = w2.heap.size := ⟨_, rfl⟩
  have hBO : B < O := by have := hr.lt; omega
  have hwB : w.heap.size < B := by simp at hB; omega
  refine wp_name (fun V => Mk w O B V) ⟨?_, ?_, ?_, ?_⟩ ?_
  · exact ⟨_, Globe.valid_zero, hr.ext (by (repeat' (first | (with_reducible assumption) | (with_reducible exact Ext.refl _) | (with_reducible refine Ext.alloc ?_ _) | (with_reducible refine Ext.drew ?_) | (with_reducible refine Ext.drewN ?_ _) | (with_reducible refine Ext.setCell ?_ ?_ _) | (with_reducible refine Ext.trans ?_ (by assumption)) | go_size)))⟩
  · rw [hO]; simp [go_sem]
  · (repeat' (first | (with_reducible assumption) | (exact ⟨by simp [go_sem], by simp [go_sem]⟩) | (with_reducible refine BoxAt.ext (Ext.alloc (Ext.refl _) _) ?_) | (with_reducible refine BoxAt.ext (by with_reducible assumption) ?_)))
  · (repeat' (first | (with_reducible assumption) | (with_reducible exact Ext.refl _) | (with_reducible refine Ext.alloc ?_ _) | (with_reducible refine Ext.drew ?_) | (with_reducible refine Ext.drewN ?_ _) | (with_reducible refine Ext.setCell ?_ ?_ _) | (with_reducible refine Ext.trans ?_ (by assumption)) | go_size))
  intro V hF
  rw [← hO]
  clear hO hr hb2 hB
  go_loopw [4] (fun p wr => ∃ i : Nat, i ≤ n ∧ p = .int .i64 i ∧ Mk w O B wr) (fun p _ => n - (intOf p).toNat)
  case atStart => exact ⟨0, by omega, rfl, hF⟩
  case round =>
    clear hF
    obtain ⟨i, hi, rfl, hF⟩ := hrel
    by_cases hlt : i < n
    · by_cases hl8 : i < 8
      · obtain ⟨b, off, rfl, hq⟩ : ∃ b off, a = some ⟨b, off, none⟩ ∧ ∀ i, i < n → ∀ j, j < 4 → w.cell? ⟨b, off + i * 4 + j, none⟩ = some (.int .i64 (q i j)) ∧ IsI (q i j) := H.out.resolve_left (by omega)
        have q0 : w.cell? ⟨b, off + i * 4, none⟩ = some (.int .i64 (q i 0)) := (hq i hlt 0 (by omega)).1
        have q1 := (hq i hlt 1 (by omega)).1
        have q2 := (hq i hlt 2 (by omega)).1
        have q3 := (hq i hlt 3 (by omega)).1
        have I0 := Lib.hid (hq i hlt 0 (by omega)).2
        have I1 := Lib.hid (hq i hlt 1 (by omega)).2
        have I2 := Lib.hid (hq i hlt 2 (by omega)).2
        have I3 := Lib.hid (hq i hlt 3 (by omega)).2
        clear hq
        have p0 := q0; have p1 := q1; have p2 := q2; have p3 := q3
        have hbl := World.block_lt_of_cell? w _ q0
        have i0 : (0 : Int) ≤ (i : Int) := by omega
        have i1 : (i : Int) < (n : Int) := by omega
        obtain ⟨wo, rfl⟩ : ∃ wo : World, wo = wr := ⟨_, rfl⟩
        go_wp2_with fail
        go_loopw [5] (fun p wr => ∃ y : Nat, y ≤ 8 ∧ p = .int .i64 y ∧ Mk w O B wr) (fun p _ => 8 - (intOf p).toNat)
        case atStart => exact ⟨0, by omega, rfl, hF⟩
        case round =>
          clear hF
          obtain ⟨y, hy, rfl, hF⟩ := hrel
          have hE := hF.2.2.2
          replace q0 := hE.cell q0
          replace q1 := hE.cell q1
          replace q2 := hE.cell q2
          replace q3 := hE.cell q3
          obtain ⟨hh0, hh1⟩ := @pickF_bd (q i 3) 8 (by omega)
          by_cases hly : (y : Int) ≤ pickF (q i 3) 8
          · go_wp2_with (go_at_call 48; refine (rpick_c _ _ _ (by first | exact I0.out | exact I1.out | exact I2.out | exact I3.out) (by omega) (by omega)).mono ?_; rintro e w' ⟨rfl, rfl⟩)
            obtain ⟨wo2, rfl⟩ : ∃ wo2 : World, wo2 = wr := ⟨_, rfl⟩
            go_loopw [6] (fun p wr => ∃ k : Nat, k ≤ 8 ∧ p = .int .i64 k ∧ Mk w O B wr ∧ Ext w wr) (fun p _ => 8 - (intOf p).toNat)
            case atStart => exact ⟨0, by omega, rfl, hF, hE⟩
            case round =>
              clear hF q0 q1 q2 q3 hE
              obtain ⟨k, hk, rfl, hF, hE⟩ := hrel
              have q0 := hE.cell p0
              have q1 := hE.cell p1
              have q2 := hE.cell p2
              have q3 := hE.cell p3
              obtain ⟨g0, g1⟩ := @pickF_bd (q i 2) 8 (by omega)
              obtain ⟨y0, y1⟩ := @pickF_bd (q i 1) 24 (by omega)
              obtain ⟨x0, x1⟩ := @pickF_bd (q i 0) 48 (by omega)
              by_cases hlk : (k : Int) ≤ pickF (q i 2) 8
              · by_cases hyy : pickF (q i 1) 24 + (y : Int) < 24
                · go_wp2_with (go_at_call 48; refine (rpick_c _ _ _ (by first | exact I0.out | exact I1.out | exact I2.out | exact I3.out) (by omega) (by omega)).mono ?_; rintro e w' ⟨rfl, rfl⟩)
                  obtain ⟨⟨L, hv, hr⟩, cO, b2, hE2⟩ := hF
                  have Ta : Hid (IntKind.i64.wrap (pickF (q i 0) 48 + (k : Int)) = pickF (q i 0) 48 + (k : Int)) := by show _ = _; rw [IntKind.wrap_i64]; omega
                  have Tb : Hid (IntKind.i64.wrap (pickF (q i 1) 24 + (y : Int)) = pickF (q i 1) 24 + (y : Int)) := by show _ = _; rw [IntKind.wrap_i64]; omega
                  obtain ⟨Y, hY⟩ : ∃ Y : Nat, pickF (q i 1) 24 + (y : Int) = (Y : Int) := ⟨(pickF (q i 1) 24 + (y : Int)).toNat, by omega⟩
                  have hY24 : Y < 24 := by omega
                  have HY := Lib.hid hY; clear hY
                  have hBb : b ≠ B := by omega
                  have hOB : O ≠ B := by omega
                  refine wp_region_held_drew (S := fun w' => w'.cell? ⟨O, 0, none⟩ = some (.slice (some ⟨B, 0, none⟩) 24 24) ∧ w'.cell? ⟨b, off + i * 4, none⟩ = some (.int .i64 (q i 0)) ∧ w'.cell? ⟨b, off + i * 4 + 1, none⟩ = some (.int .i64 (q i 1))) (by kernel_rfl) ⟨cO, q0, q1⟩ (fun hHeld => ?_)
                  (refine rg_take 0 (v := ?_) rfl (by kernel_rfl) (by kernel_rfl) (by kernel_rfl) (fun _ _ _ h => h) (by kernel_rfl) ?_ (by with_reducible assumption) ?_; rotate_left; (focus (intro w hSw; (try dsimp only at hSw); go_simp; (try with_reducible rfl))); (try simp only [Act.put, List.setIfInBounds_toArray, List.set_cons_zero, List.set_cons_succ]))
                  (refine rg_take 1 (v := ?_) rfl (by kernel_rfl) (by kernel_rfl) (by kernel_rfl) (fun _ _ _ h => h) (by kernel_rfl) ?_ (by with_reducible assumption) ?_; rotate_left; (focus (intro w hSw; (try dsimp only at hSw); go_simp; (try with_reducible rfl))); (try simp only [Act.put, List.setIfInBounds_toArray, List.set_cons_zero, List.set_cons_succ]))
                  (refine rg_take 2 (v := ?_) rfl (by kernel_rfl) (by kernel_rfl) (by kernel_rfl) (fun _ _ _ h => h) (by kernel_rfl) ?_ (by with_reducible assumption) ?_; rotate_left; (focus (intro w hSw; (try dsimp only at hSw); go_simp; (try with_reducible rfl))); (try simp only [Act.put, List.setIfInBounds_toArray, List.set_cons_zero, List.set_cons_succ]))
                  (refine rg_take 3 (v := ?_) rfl (by kernel_rfl) (by kernel_rfl) (by kernel_rfl) (fun _ _ _ h => h) (by kernel_rfl) ?_ (by with_reducible assumption) ?_; rotate_left; (focus (intro w hSw; (try dsimp only at hSw); go_simp; (try with_reducible rfl))); (try simp only [Act.put, List.setIfInBounds_toArray, List.set_cons_zero, List.set_cons_succ]))
                  (refine rg_take 4 (v := ?_) rfl (by kernel_rfl) (by kernel_rfl) (by kernel_rfl) (fun _ _ _ h => h) (by kernel_rfl) ?_ (by with_reducible assumption) ?_; rotate_left; (focus (intro w hSw; (try dsimp only at hSw); go_simp; (try with_reducible rfl))); (try simp only [Act.put, List.setIfInBounds_toArray, List.set_cons_zero, List.set_cons_succ]))
                  (refine rg_take 5 (v := ?_) rfl (by kernel_rfl) (by kernel_rfl) (by kernel_rfl) (fun _ _ _ h => h) (by kernel_rfl) ?_ (by with_reducible assumption) ?_; rotate_left; (focus (intro w hSw; (try dsimp only at hSw); go_simp; (try with_reducible rfl))); (try simp only [Act.put, List.setIfInBounds_toArray, List.set_cons_zero, List.set_cons_succ]))
                  (refine rg_take 7 (v := ?_) rfl (by kernel_rfl) (by kernel_rfl) (by kernel_rfl) (fun _ _ _ h => h) (by kernel_rfl) ?_ (by with_reducible assumption) ?_; rotate_left; (focus (intro w hSw; (try dsimp only at hSw); go_simp; (try with_reducible rfl))); (try simp only [Act.put, List.setIfInBounds_toArray, List.set_cons_zero, List.set_cons_succ]))
                  (refine rg_take 9 (v := ?_) rfl (by kernel_rfl) (by kernel_rfl) (by kernel_rfl) (fun _ _ _ h => h) (by kernel_rfl) ?_ (by with_reducible assumption) ?_; rotate_left; (focus (intro w hSw; (try dsimp only at hSw); go_simp; (try with_reducible rfl))); (try simp only [Act.put, List.setIfInBounds_toArray, List.set_cons_zero, List.set_cons_succ]))
                  (refine rg_take 10 (v := ?_) rfl (by kernel_rfl) (by kernel_rfl) (by kernel_rfl) (fun _ _ _ h => h) (by kernel_rfl) ?_ (by with_reducible assumption) ?_; rotate_left; (focus (intro w hSw; (try dsimp only at hSw); go_simp; (try with_reducible rfl))); (try simp only [Act.put, List.setIfInBounds_toArray, List.set_cons_zero, List.set_cons_succ]))
                  (refine rg_take 11 (v := ?_) rfl (by kernel_rfl) (by kernel_rfl) (by kernel_rfl) (fun _ _ _ h => h) (by kernel_rfl) ?_ (by with_reducible assumption) ?_; rotate_left; (focus (intro w hSw; (try dsimp only at hSw); go_simp; (try with_reducible rfl))); (try simp only [Act.put, List.setIfInBounds_toArray, List.set_cons_zero, List.set_cons_succ]))
                  (refine rg_take 12 (v := ?_) rfl (by kernel_rfl) (by kernel_rfl) (by kernel_rfl) (fun _ _ _ h => h) (by kernel_rfl) ?_ (by with_reducible assumption) ?_; rotate_left; (focus (intro w hSw; (try dsimp only at hSw); go_simp; (try with_reducible rfl))); (try simp only [Act.put, List.setIfInBounds_toArray, List.set_cons_zero, List.set_cons_succ]))
                  (refine rg_take 13 (v := ?_) rfl (by kernel_rfl) (by kernel_rfl) (by kernel_rfl) (fun _ _ _ h => h) (by kernel_rfl) ?_ (by with_reducible assumption) ?_; rotate_left; (focus (intro w hSw; (try dsimp only at hSw); go_simp; (try with_reducible rfl))); (try simp only [Act.put, List.setIfInBounds_toArray, List.set_cons_zero, List.set_cons_succ]))
                  (refine rg_take 15 (v := ?_) rfl (by kernel_rfl) (by kernel_rfl) (by kernel_rfl) (fun _ _ _ h => h) (by kernel_rfl) ?_ (by with_reducible assumption) ?_; rotate_left; (focus (intro w hSw; (try dsimp only at hSw); go_simp; (try with_reducible rfl))); (try simp only [Act.put, List.setIfInBounds_toArray, List.set_cons_zero, List.set_cons_succ]))
                  (refine rg_step 6 rfl (by kernel_rfl) (by kernel_rfl) (fun K hK => ?_); go_simp; (go_at_call 48; refine (rpick_c _ _ _ I0.out (by omega) (by omega)).mono ?_; rintro e w' ⟨rfl, rfl⟩); refine hK.out _ _ (hHeld) (fun hHeld => ?_); clear hK K; (try simp only [Act.put, List.setIfInBounds_toArray, List.set_cons_zero, List.set_cons_succ]))
                  (refine rg_take 8 (v := ?_) rfl (by kernel_rfl) (by kernel_rfl) (by kernel_rfl) (fun _ _ _ h => h) (by kernel_rfl) ?_ (by with_reducible assumption) ?_; rotate_left; (focus (intro w hSw; (try dsimp only at hSw); have ta := Ta.out; go_simp; (try with_reducible rfl))); (try simp only [Act.put, List.setIfInBounds_toArray, List.set_cons_zero, List.set_cons_succ]))
                  (refine rg_step 14 rfl (by kernel_rfl) (by kernel_rfl) (fun K hK => ?_); go_simp; (go_at_call 48; refine (rpick_c _ _ _ I1.out (by omega) (by omega)).mono ?_; rintro e w' ⟨rfl, rfl⟩); refine hK.out _ _ (hHeld) (fun hHeld => ?_); clear hK K; (try simp only [Act.put, List.setIfInBounds_toArray, List.set_cons_zero, List.set_cons_succ]))
                  (refine rg_take 16 (v := ?_) rfl (by kernel_rfl) (by kernel_rfl) (by kernel_rfl) (fun _ _ _ h => h) (by kernel_rfl) ?_ (by with_reducible assumption) ?_; rotate_left; (focus (intro w hSw; (try dsimp only at hSw); (have tb := Tb.out; have hY := HY.out; rw [hY] at tb); go_simp; (try with_reducible rfl))); (try simp only [Act.put, List.setIfInBounds_toArray, List.set_cons_zero, List.set_cons_succ]))
                  (refine rg_step 17 rfl (by kernel_rfl) (by kernel_rfl) (fun K hK => ?_); go_simp; (go_at_call 49; refine (put_c B 24 L _ Y _ hr.drew hv hY24).mono ?_; rintro e w3 ⟨⟨v, rfl⟩, hr3, hg3⟩); refine hK.out _ _ (⟨grown_cell hg3 hHeld.1 hOB, grown_cell hg3 hHeld.2.1 hBb, grown_cell hg3 hHeld.2.2 hBb⟩) (fun hHeld => ?_); clear hK K; (try simp only [Act.put, List.setIfInBounds_toArray, List.set_cons_zero, List.set_cons_succ]))
                  refine wpAnyH_done (by kernel_rfl) ?_ _
                  go_wp2
                  go_roundw
                  case rel => exact ⟨k + 1, by omega, by go_num, ⟨⟨_, Globe.valid_put hv (modN_lt _), hr3⟩, hHeld.1, BoxAt.grown hg3 b2.drew (by omega), (Ext.drew hE2).grown hg3 (by omega)⟩, (Ext.drew hE).grown hg3 (by have := hr.lt; omega)⟩
                  case measure => simp [intOf]; omega
                · go_wp2_with (go_at_call 48; refine (rpick_c _ _ _ (by first | exact I0.out | exact I1.out | exact I2.out | exact I3.out) (by omega) (by omega)).mono ?_; rintro e w' ⟨rfl, rfl⟩)
                  go_roundw
                  case rel => exact ⟨k + 1, by omega, by go_num, hF, hE⟩
                  case measure => simp [intOf]; omega
              · go_wp2_with (go_at_call 48; refine (rpick_c _ _ _ (by first | exact I0.out | exact I1.out | exact I2.out | exact I3.out) (by omega) (by omega)).mono ?_; rintro e w' ⟨rfl, rfl⟩)
                go_roundw
                case rel => exact ⟨y + 1, by omega, by go_num, hF⟩
                case measure => simp [intOf]; omega
          · go_wp2_with (go_at_call 48; refine (rpick_c _ _ _ (by first | exact I0.out | exact I1.out | exact I2.out | exact I3.out) (by omega) (by omega)).mono ?_; rintro e w' ⟨rfl, rfl⟩)
            go_roundw
            case rel => exact ⟨i + 1, by omega, by go_num, hF⟩
            case measure => simp [intOf]; omega
      · obtain ⟨⟨L, hv, hr⟩, cO, ⟨c2, f2⟩, hE⟩ := hF
        go_wp2_with fail
        have hr3 := hr.other (p := ⟨w.heap.size, 0, none⟩) (by show w.heap.size ≠ B; omega) (.slice (some ⟨B, 0, none⟩) 24 24)
        exact bodyPost_ret (v := .agg #[.slice (some ⟨B, 0, none⟩) 24 24]) (by simp [results, Tryd.results11, go_sem, c2]) rfl ⟨B, L, rfl, by omega, hv, hr3, hr3.va hv, by (repeat' (first | (with_reducible assumption) | (with_reducible exact Ext.refl _) | (with_reducible refine Ext.alloc ?_ _) | (with_reducible refine Ext.drew ?_) | (with_reducible refine Ext.drewN ?_ _) | (with_reducible refine Ext.setCell ?_ ?_ _) | (with_reducible refine Ext.trans ?_ (by assumption)) | go_size))⟩
    · obtain rfl : i = n := by omega
      obtain ⟨⟨L, hv, hr⟩, cO, ⟨c2, f2⟩, hE⟩ := hF
      go_wp2_with fail
      have hr3 := hr.other (p := ⟨w.heap.size, 0, none⟩) (by show w.heap.size ≠ B; omega) (.slice (some ⟨B, 0, none⟩) 24 24)
      exact bodyPost_ret (v := .agg #[.slice (some ⟨B, 0, none⟩) 24 24]) (by simp [results, Tryd.results11, go_sem, c2]) rfl ⟨B, L, rfl, by omega, hv, hr3, hr3.va hv, by (repeat' (first | (with_reducible assumption) | (with_reducible exact Ext.refl _) | (with_reducible refine Ext.alloc ?_ _) | (with_reducible refine Ext.drew ?_) | (with_reducible refine Ext.drewN ?_ _) | (with_reducible refine Ext.setCell ?_ ?_ _) | (with_reducible refine Ext.trans ?_ (by assumption)) | go_size))⟩

end Go.Proofs.YtnfknekbbdfdfaaDoor
