/- The walk of the law SunRanges. -/
import Derived.Test.YtknlnmalaidaiaaDoorS8
import Derived.Test.YtknlnmalaidaiaaDoorS6
import Derived.Test.YtknlnmalaidaiaaDoorMR
import Derived.Test.YtknlnmalaidaiaaDoorLP
namespace Go.Proofs.YtknlnmalaidaiaaDoor
open Go.RowKit

theorem exit_name (P : World → Prop) {K : Act → World → Prop} {Q : Exit → Act → World → Prop} {e : Exit} {st : Act} {w : World} (h : P w) (hn : ∀ V, P V → Exit.then K Q e st V) : Exit.then K Q e st w := hn w h
theorem Range_v {w0 : World} {b o : Nat} (c : Nat) {l : List Int} (f t : Int) (w : World) (h : VA w0 b o l) (hE : Ext w0 w) (hT : Tab w) (hs : Sun.spB f t = true) (h60 : t - f ≤ 60) (hne : Globe.cellsTo l 24 ≠ []) :
    Calls Tryd.prog 28 #[.agg #[.slice (some ⟨b, o, none⟩) 24 c], .agg #[.int .i64 f, .int .i64 t]] w fun e w' => e = .returned (.tuple #[.int .i64 (Sun.minL (Sun.hts f t (Globe.cellsTo l 24))), .int .i64 (Sun.maxL (Sun.hts f t (Globe.cellsTo l 24))), .int .i64 0]) ∧ Ext w w' := by
  have := Range_yes b o c l f t w (fun i hi => (h.ext hE).1 i (by rw [← h.len]; exact hi)) h.2 hT hs h60 (by simpa using hne)
  rwa [h.len] at this
theorem cells_ne {l : List Int} {x y : Nat} (hx : x < 48) (hy : y < 24) (h : Globe.hasL l x y = true) : Globe.cellsTo l 24 ≠ [] := by
  intro e; have : (x, y) ∈ Globe.cellsTo l 24 := Globe.mem_cells.2 ⟨hy, hx, h⟩; rw [e] at this; cases this

set_option maxRecDepth 100000 in
set_option maxHeartbeats 8000000 in
theorem SunRanges_walk (w : World) (v0 : Value) (o0 : Pairs w v0) (v1 : Value) (o1 : Pair v1) (a2 : Int) (i2 : IsI a2) (a3 : Int) (i3 : IsI a3) (a4 : Int) (i4 : IsI a4) (hT : Tab w) :
    Calls Tryd.prog 10 #[v0, v1, .int .i64 a2, .int .i64 a3, .int .i64 a4] w fun e w' => e = .returned (.bool true) ∧ Ext w w' := by
  obtain ⟨a0, n0, c0, q0, rfl, hn0, Q0⟩ := o0
  obtain ⟨px, py, rfl, ix, iy⟩ := o1
  have HT := Lib.hid hT; clear hT
  obtain ⟨X, hX⟩ : ∃ X : Nat, pickF px 48 = (X : Int) := ⟨(pickF px 48).toNat, by have := @pickF_bd px 48 (by omega); omega⟩
  obtain ⟨Y, hY⟩ : ∃ Y : Nat, pickF py 24 = (Y : Int) := ⟨(pickF py 24).toNat, by have := @pickF_bd py 24 (by omega); omega⟩
  have hX48 : X < 48 := by have := @pickF_bd px 48 (by omega); omega
  have hY24 : Y < 24 := by have := @pickF_bd py 24 (by omega); omega
  obtain ⟨F, hF⟩ : ∃ F : Nat, pickF a2 999960 = (F : Int) := ⟨(pickF a2 999960).toNat, by have := @pickF_bd a2 999960 (by omega); omega⟩
  obtain ⟨N, hN⟩ : ∃ N : Nat, pickF a3 8 = (N : Int) := ⟨(pickF a3 8).toNat, by have := @pickF_bd a3 8 (by omega); omega⟩
  obtain ⟨M, hM⟩ : ∃ M : Nat, pickF a4 9 = (M : Int) := ⟨(pickF a4 9).toNat, by have := @pickF_bd a4 9 (by omega); omega⟩
  have hF1 : F < 999960 := by have := @pickF_bd a2 999960 (by omega); omega
  have hN1 : N < 8 := by have := @pickF_bd a3 8 (by omega); omega
  have hM1 : M < 9 := by have := @pickF_bd a4 9 (by omega); omega
  have HX := Lib.hid (And.intro hX hY); clear hX hY
  have HF := Lib.hid hF; have HN := Lib.hid hN; have HM := Lib.hid hM; clear hF hN hM
  have HI := Lib.hid (And.intro ix iy); clear ix iy
  have H2 := Lib.hid i2; have H3 := Lib.hid i3; have H4 := Lib.hid i4; clear i2 i3 i4
  go_enter Tryd.func10, Tryd.ntmps10
  go_wp2_with fail
  refine calls_name (fun V => Ext w V ∧ V.cell? ⟨w.heap.size, 0, none⟩ = some (.int .i64 px) ∧ V.cell? ⟨w.heap.size, 1, none⟩ = some (.int .i64 py)) ⟨by (repeat' (first | (with_reducible assumption) | (with_reducible exact Ext.refl _) | (with_reducible refine Ext.alloc ?_ _) | (with_reducible refine Ext.drew ?_) | (with_reducible refine Ext.drewN ?_ _) | (with_reducible refine Ext.setCell ?_ ?_ _) | (with_reducible refine Ext.trans ?_ (by assumption)) | go_size)), by simp [go_sem], by simp [go_sem]⟩ ?_
  rintro V ⟨hE, cPx, cPy⟩
  have lcPx : w.heap.size < V.heap.size := World.block_lt_of_cell? V _ cPx
  have lcPy : w.heap.size < V.heap.size := World.block_lt_of_cell? V _ cPy
  refine (sane_c _ (HT.out.ext hE)).mono ?_
  rintro e w1 ⟨rfl, hb⟩
  have hc := hb.cellE; have hf := hb.frozenE; have hz := hb.size; have ha := alloc_keeps w1; (try simp only [World.size_alloc] at hc hf hz); (try simp only [World.size_setCell] at hc hf hz); (try simp only [World.size_drew] at hc hf hz)
  go_wp2_with fail
  refine calls_name (fun V => Ext w V ∧ V.cell? ⟨w.heap.size, 0, none⟩ = some (.int .i64 px) ∧ V.cell? ⟨w.heap.size, 1, none⟩ = some (.int .i64 py)) ⟨hE.trans (by first | exact hb | exact Ext.alloc hb _ | exact Ext.alloc (Ext.alloc hb _) _), Ext.cell (by first | exact hb | exact Ext.alloc hb _ | exact Ext.alloc (Ext.alloc hb _) _) cPx, Ext.cell (by first | exact hb | exact Ext.alloc hb _ | exact Ext.alloc (Ext.alloc hb _) _) cPy⟩ ?_
  clear hE cPx cPy lcPx lcPy hb hc hf hz ha
  rintro V ⟨hE, cPx, cPy⟩
  have lcPx : w.heap.size < V.heap.size := World.block_lt_of_cell? V _ cPx
  have lcPy : w.heap.size < V.heap.size := World.block_lt_of_cell? V _ cPy
  refine (Area_c c0 _ Q0 hE hn0).mono ?_
  rintro e w1 ⟨B0, L0, rfl, hB, hvl, hh, hr, hv, hb⟩
  have hc := hb.cellE; have hf := hb.frozenE; have hz := hb.size; have ha := alloc_keeps w1; (try simp only [World.size_alloc] at hc hf hz); (try simp only [World.size_setCell] at hc hf hz); (try simp only [World.size_drew] at hc hf hz)
  have hwB : w.heap.size < B0 := by omega
  have HVL := Lib.hid (And.intro hvl hh)
  clear hB hv hvl hh
  go_wp2_with fail
  obtain ⟨O0, hO⟩ : ∃ O, O = w1.heap.size := ⟨_, rfl⟩
  rw [← hO]
  have hBO : B0 < O0 := by have := hr.lt; omega
  refine calls_name (fun V => Ext w V ∧ V.cell? ⟨w.heap.size, 0, none⟩ = some (.int .i64 px) ∧ V.cell? ⟨w.heap.size, 1, none⟩ = some (.int .i64 py) ∧ RowsAt V B0 L0 ∧ V.cell? ⟨O0, 0, none⟩ = some (.slice (some ⟨B0, 0, none⟩) 24 24)) ⟨hE.trans (by first | exact hb | exact Ext.alloc hb _ | exact Ext.alloc (Ext.alloc hb _) _), Ext.cell (by first | exact hb | exact Ext.alloc hb _ | exact Ext.alloc (Ext.alloc hb _) _) cPx, Ext.cell (by first | exact hb | exact Ext.alloc hb _ | exact Ext.alloc (Ext.alloc hb _) _) cPy, hr.ext (by first | exact Ext.refl _ | exact Ext.alloc (Ext.refl _) _ | exact Ext.alloc (Ext.alloc (Ext.refl _) _) _), by rw [hO]; simp [go_sem]⟩ ?_
  clear hE cPx cPy lcPx lcPy hb hc hf hz ha hO hr
  rintro V ⟨hE, cPx, cPy, rA, cO0⟩
  have lcPx : w.heap.size < V.heap.size := World.block_lt_of_cell? V _ cPx
  have lcPy : w.heap.size < V.heap.size := World.block_lt_of_cell? V _ cPy
  have lcO0 : O0 < V.heap.size := World.block_lt_of_cell? V _ cO0
  refine (pick_c a2 999960 _ H2.out (by omega) (by omega)).mono ?_
  rintro e w' ⟨rfl, rfl⟩
  rw [HF.out]
  go_wp2_with fail
  obtain ⟨Os, hOs⟩ : ∃ O, O = V.heap.size := ⟨_, rfl⟩
  rw [← hOs]
  have hOs1 : w.heap.size < Os ∧ B0 < Os ∧ O0 < Os := ⟨by omega, by have := rA.lt; omega, by omega⟩
  refine wp_name (fun V => Ext w V ∧ V.cell? ⟨w.heap.size, 0, none⟩ = some (.int .i64 px) ∧ V.cell? ⟨w.heap.size, 1, none⟩ = some (.int .i64 py) ∧ RowsAt V B0 L0 ∧ V.cell? ⟨O0, 0, none⟩ = some (.slice (some ⟨B0, 0, none⟩) 24 24) ∧ BoxAt V Os 0 (.int .i64 (F : Int)) ∧ BoxAt V Os 1 (.int .i64 0)) ⟨by (repeat' (first | (with_reducible assumption) | (with_reducible exact Ext.refl _) | (with_reducible refine Ext.alloc ?_ _) | (with_reducible refine Ext.drew ?_) | (with_reducible refine Ext.drewN ?_ _) | (with_reducible refine Ext.setCell ?_ ?_ _) | (with_reducible refine Ext.trans ?_ (by assumption)) | go_size)), Ext.cell (by first | exact Ext.refl _ | exact Ext.alloc (Ext.refl _) _ | exact Ext.alloc (Ext.alloc (Ext.refl _) _) _) cPx, Ext.cell (by first | exact Ext.refl _ | exact Ext.alloc (Ext.refl _) _ | exact Ext.alloc (Ext.alloc (Ext.refl _) _) _) cPy, rA.ext (by first | exact Ext.refl _ | exact Ext.alloc (Ext.refl _) _ | exact Ext.alloc (Ext.alloc (Ext.refl _) _) _), Ext.cell (by first | exact Ext.refl _ | exact Ext.alloc (Ext.refl _) _ | exact Ext.alloc (Ext.alloc (Ext.refl _) _) _) cO0, ⟨by rw [hOs]; simp [go_sem], by rw [hOs]; simp [go_sem]⟩, ⟨by rw [hOs]; simp [go_sem], by rw [hOs]; simp [go_sem]⟩⟩ ?_
  clear hE cPx cPy rA cO0 lcPx lcPy lcO0 hOs
  rintro V ⟨hE, cPx, cPy, rA, cO0, ⟨s0, f0⟩, ⟨s1, f1⟩⟩
  obtain ⟨hOs0, hBs, hO0s⟩ := hOs1
  obtain ⟨T, hT⟩ : ∃ T : Nat, F + 1 + N = T := ⟨_, rfl⟩
  have hT1 : F < T ∧ T ≤ F + 8 := by omega
  have k2 : IntKind.i64.wrap ((F : Int) + 1) = (F : Int) + 1 := by rw [IntKind.wrap_i64]; omega
  have k5 : IntKind.i64.wrap ((F : Int) + 1 + (N : Int)) = (T : Int) := by rw [IntKind.wrap_i64]; omega
  have K2 := Lib.hid k2; have K5 := Lib.hid k5; clear k2 k5 hT
  refine wp_region_held_drew (S := fun w' => w'.cell? ⟨Os, 0, none⟩ = some (.int .i64 (F : Int))) (by kernel_rfl) (by simp [go_sem, s0]) (fun hHeld => ?_)
  (refine rg_take 0 (v := ?_) rfl (by kernel_rfl) (by kernel_rfl) (by kernel_rfl) (fun _ _ _ h => h) (by kernel_rfl) ?_ (by with_reducible assumption) ?_; rotate_left; (focus (intro w hSw; (try dsimp only at hSw); go_simp; (try with_reducible rfl))); (try simp only [Act.put, List.setIfInBounds_toArray, List.set_cons_zero, List.set_cons_succ]))
  (refine rg_take 1 (v := ?_) rfl (by kernel_rfl) (by kernel_rfl) (by kernel_rfl) (fun _ _ _ h => h) (by kernel_rfl) ?_ (by with_reducible assumption) ?_; rotate_left; (focus (intro w hSw; (try dsimp only at hSw); go_simp; (try with_reducible rfl))); (try simp only [Act.put, List.setIfInBounds_toArray, List.set_cons_zero, List.set_cons_succ]))
  (refine rg_take 2 (v := ?_) rfl (by kernel_rfl) (by kernel_rfl) (by kernel_rfl) (fun _ _ _ h => h) (by kernel_rfl) ?_ (by with_reducible assumption) ?_; rotate_left; (focus (intro w hSw; (try dsimp only at hSw); have k0 := K2.out; go_simp; (try with_reducible rfl))); (try simp only [Act.put, List.setIfInBounds_toArray, List.set_cons_zero, List.set_cons_succ]))
  (refine rg_take 3 (v := ?_) rfl (by kernel_rfl) (by kernel_rfl) (by kernel_rfl) (fun _ _ _ h => h) (by kernel_rfl) ?_ (by with_reducible assumption) ?_; rotate_left; (focus (intro w hSw; (try dsimp only at hSw); go_simp; (try with_reducible rfl))); (try simp only [Act.put, List.setIfInBounds_toArray, List.set_cons_zero, List.set_cons_succ]))
  refine rg_step 4 rfl (by kernel_rfl) (by kernel_rfl) (fun K hK => ?_)
  (go_simp; (go_at_call 13; refine (pick_c a3 8 _ H3.out (by omega) (by omega)).mono ?_; rintro e w' ⟨rfl, rfl⟩; rw [HN.out]); refine hK.out _ _ (hHeld) (fun hHeld => ?_); clear hK K; (try simp only [Act.put, List.setIfInBounds_toArray, List.set_cons_zero, List.set_cons_succ]))
  (refine rg_take 5 (v := ?_) rfl (by kernel_rfl) (by kernel_rfl) (by kernel_rfl) (fun _ _ _ h => h) (by kernel_rfl) ?_ (by with_reducible assumption) ?_; rotate_left; (focus (intro w hSw; (try dsimp only at hSw); have k0 := K5.out; go_simp; (try with_reducible rfl))); (try simp only [Act.put, List.setIfInBounds_toArray, List.set_cons_zero, List.set_cons_succ]))
  (refine rg_take 6 (v := ?_) rfl (by kernel_rfl) (by kernel_rfl) (by kernel_rfl) (fun _ _ _ h => h) (by kernel_rfl) ?_ (by with_reducible assumption) ?_; rotate_left; (focus (intro w hSw; (try dsimp only at hSw); go_simp; (try with_reducible rfl))); (try simp only [Act.put, List.setIfInBounds_toArray, List.set_cons_zero, List.set_cons_succ]))
  refine rg_step 7 rfl (by kernel_rfl) (by kernel_rfl) (fun K hK => ?_)
  (go_simp; skip; refine hK.out _ _ (by simp [go_sem, s0]) (fun hHeld => ?_); clear hK K; (try simp only [Act.put, List.setIfInBounds_toArray, List.set_cons_zero, List.set_cons_succ]))
  refine wpAnyH_done (by kernel_rfl) ?_ _
  clear hHeld
  refine exit_name (fun V => Ext w V ∧ V.cell? ⟨w.heap.size, 0, none⟩ = some (.int .i64 px) ∧ V.cell? ⟨w.heap.size, 1, none⟩ = some (.int .i64 py) ∧ RowsAt V B0 L0 ∧ V.cell? ⟨O0, 0, none⟩ = some (.slice (some ⟨B0, 0, none⟩) 24 24) ∧ V.cell? ⟨Os, 0, none⟩ = some (.int .i64 (F : Int)) ∧ V.cell? ⟨Os, 1, none⟩ = some (.int .i64 (T : Int))) ⟨Ext.setCell (Ext.drew hE) (Nat.le_of_lt hOs0) _, ?_, ?_, (rA.drew).other (by show Os ≠ B0; omega) _, ?_, ?_, ?_⟩ ?_
  · simp [go_sem, cPx]
  · simp [go_sem, cPy]
  · simp [go_sem, cO0]
  · simp [go_sem, s0]
  · simp [go_sem, s1]
  clear hE cPx cPy rA cO0 s0 s1 f0 f1 K2 K5
  rintro V ⟨hE, cPx, cPy, rA, cO0, cS0, cS1⟩
  go_wp2_with fail
  have lcPx : w.heap.size < V.heap.size := World.block_lt_of_cell? V _ cPx
  have lcPy : w.heap.size < V.heap.size := World.block_lt_of_cell? V _ cPy
  have lcO0 : O0 < V.heap.size := World.block_lt_of_cell? V _ cO0
  have lcS0 : Os < V.heap.size := World.block_lt_of_cell? V _ cS0
  have lcS1 : Os < V.heap.size := World.block_lt_of_cell? V _ cS1
  have hne := cells_ne (by omega) (by omega) HVL.out.2
  refine (Range_v 24 (F : Int) (T : Int) _ (rA.va HVL.out.1) (Ext.refl _) (HT.out.ext hE) (Sun.spB_t.2 (by omega)) (by omega) hne).mono ?_
  rintro e w1 ⟨rfl, hb⟩
  have hc := hb.cellE; have hf := hb.frozenE; have hz := hb.size; have ha := alloc_keeps w1; (try simp only [World.size_alloc] at hc hf hz); (try simp only [World.size_setCell] at hc hf hz); (try simp only [World.size_drew] at hc hf hz)
  obtain ⟨lo, hlo⟩ : ∃ lo, Sun.minL (Sun.hts (F : Int) (T : Int) (Globe.cellsTo L0 24)) = lo := ⟨_, rfl⟩
  obtain ⟨hi, hhi⟩ : ∃ hi, Sun.maxL (Sun.hts (F : Int) (T : Int) (Globe.cellsTo L0 24)) = hi := ⟨_, rfl⟩
  rw [hlo, hhi]
  have hin : ∀ x y, x < 48 → y < 24 → Globe.hasL L0 x y = true → ∀ k : Nat, k < T - F → lo ≤ Sun.height (x : Int) (y : Int) ((F : Int) + k) ∧ Sun.height (x : Int) (y : Int) ((F : Int) + k) ≤ hi := fun x y hx hy h k hk => by
    have hm : Sun.height (x : Int) (y : Int) ((F : Int) + k) ∈ Sun.hts (F : Int) (T : Int) (Globe.cellsTo L0 24) := Sun.mem_hts.2 ⟨(x, y), Globe.mem_cells.2 ⟨hy, hx, h⟩, k, by omega, rfl⟩
    rw [← hlo, ← hhi]; exact ⟨Sun.minL_le hm, Sun.maxL_ge hm⟩
  have hbd : ∀ h ∈ Sun.hts (F : Int) (T : Int) (Globe.cellsTo L0 24), -90 ≤ h ∧ h ≤ 90 := fun h hh => Sun.hts_bd (by omega) hh
  have hne2 : Sun.hts (F : Int) (T : Int) (Globe.cellsTo L0 24) ≠ [] := Sun.hts_ne (by omega) (by omega) (by omega) HVL.out.2
  have hml : lo ∈ Sun.hts (F : Int) (T : Int) (Globe.cellsTo L0 24) := by rw [← hlo]; exact Sun.minL_mem hne2 hbd
  have hmh : hi ∈ Sun.hts (F : Int) (T : Int) (Globe.cellsTo L0 24) := by rw [← hhi]; exact Sun.maxL_mem hne2 hbd
  have HIN := Lib.hid hin; have HML := Lib.hid (And.intro hml hmh)
  clear hlo hhi hin hbd hne2 hml hmh hne
  go_wp2_with fail
  replace hE := hE.trans hb
  replace cPx := hb.cell cPx; replace cPy := hb.cell cPy; replace rA := rA.ext hb; replace cO0 := hb.cell cO0; replace cS0 := hb.cell cS0; replace cS1 := hb.cell cS1
  clear lcPx lcPy lcO0 lcS0 lcS1 hc hf hz ha hb
  obtain ⟨V6, hV6⟩ : ∃ V6, V6 = w1 := ⟨_, rfl⟩
  subst hV6
  have l0 := rA.lt
  have HrA := Lib.hid rA; clear rA
  go_loopw [16, 17] (fun r p wr => ∃ y : Nat, y ≤ 24 ∧ p = .int .i64 y ∧ r = .int .i64 (Sun.rch lo hi (Sun.hts (F : Int) (T : Int) (Globe.cellsTo L0 y)) : Nat) ∧ Ext V6 wr) (fun _ p _ => 24 - (intOf p).toNat)
  case atStart => exact ⟨0, by omega, rfl, by simp [Globe.cellsTo_zero, Sun.hts, Sun.rch_nil], Ext.refl _⟩
  case round =>
    obtain ⟨y, hy, rfl, rfl, e6⟩ := hrel
    by_cases hlt : y < 24
    · have cO := e6.cell cO0
      have hRv := Globe.rowN_lt HVL.out.1 y
      have cR : wr.cell? ⟨B0, y, none⟩ = some (.int .i64 (Globe.rowN L0 y : Nat)) := by rw [← Globe.rowN_cast HVL.out.1]; exact e6.cell (HrA.out.cell hlt)
      have y0 : (0 : Int) ≤ (y : Int) := by omega
      have y1 : (y : Int) < 24 := by omega
      clear cO cR
      go_wp2_with fail
      obtain ⟨wo, rfl⟩ : ∃ wo : World, wo = wr := ⟨_, rfl⟩
      go_loopw [16, 18] (fun r p wr => ∃ x : Nat, x ≤ 48 ∧ p = .int .i64 x ∧ r = .int .i64 (Sun.rch lo hi (Sun.hts (F : Int) (T : Int) (Globe.cellsTo L0 y ++ Sun.rowTo L0 y x)) : Nat) ∧ Ext V6 wr) (fun _ p _ => 48 - (intOf p).toNat)
      case atStart => exact ⟨0, by omega, rfl, by simp [Sun.rowTo], e6⟩
      case round =>
        clear e6
        obtain ⟨x, hx, rfl, rfl, e6⟩ := hrel
        by_cases hlx : x < 48
        · have cO := e6.cell cO0
          have cR : wr.cell? ⟨B0, y, none⟩ = some (.int .i64 (Globe.rowN L0 y : Nat)) := by rw [← Globe.rowN_cast HVL.out.1]; exact e6.cell (HrA.out.cell hlt)
          have x0 : (0 : Int) ≤ (x : Int) := by omega
          have x1 : (x : Int) < 48 := by omega
          have hrt := Sun.rowTo_succ L0 y x
          have hbm := bit_mod2 (Globe.rowN L0 y) x
          have hge : (0 : Int) ≤ ((Globe.rowN L0 y : Nat) : Int) / 2 ^ x := by rw [div_pow_cast]; exact Int.natCast_nonneg _
          have htm : (((Globe.rowN L0 y : Nat) : Int) / 2 ^ x).tmod 2 = ((Globe.rowN L0 y : Nat) : Int) / 2 ^ x % 2 := Int.tmod_eq_emod_of_nonneg hge
          have hhas : Globe.hasL L0 x y = (Globe.rowN L0 y).testBit x := rfl
          have hrn : (Globe.nth L0 y).toNat = Globe.rowN L0 y := rfl
          rw [hrn] at hrt
          rw [hbm] at htm
          cases hbit : (Globe.rowN L0 y).testBit x
          · rw [hbit, if_neg (by simp)] at htm hbm
            rw [hbit, if_neg (by simp), List.append_nil] at hrt
            have Hrt := Lib.hid hrt; clear hrt hhas hrn hbit
            go_wp2_with fail
            go_roundw
            case rel => exact ⟨x + 1, by omega, by go_num, by rw [Hrt.out], e6⟩
            case measure => simp [intOf]; omega
          · rw [hbit, if_pos rfl] at htm hbm hrt
            rw [hbit] at hhas
            have Hrt := Lib.hid hrt; clear hrt hrn hbit
            have HH := Lib.hid (HIN.out x y hlx hlt hhas); clear hhas
            have cS0w := e6.cell cS0
            go_wp2_with fail
            obtain ⟨wx, rfl⟩ : ∃ wx : World, wx = wr := ⟨_, rfl⟩
            have hvc : Globe.vcB x y = true := Globe.vcB_t.2 (by omega)
            obtain ⟨D, hD⟩ : ∃ D : Nat, T - F = D := ⟨_, rfl⟩
            have hD1 : T = F + D := by omega
            have HD := Lib.hid (And.intro hD hD1)
            have hD2 : T ≤ F + D ∧ F + D ≤ T := by omega
            clear hD hD1 hbm htm cO cR cS0w
            go_loopw [16, 19] (fun r p wr => ∃ k : Nat, k ≤ D ∧ p = .int .i64 (F + k) ∧ r = .int .i64 (Sun.rch lo hi (Sun.hts (F : Int) (T : Int) (Globe.cellsTo L0 y ++ Sun.rowTo L0 y x) ++ Sun.htsT (F : Int) (x, y) k) : Nat) ∧ Ext V6 wr) (fun _ p _ => (F + D - intOf p).toNat)
            case atStart => exact ⟨0, by omega, by simp, by rw [show Sun.htsT (F : Int) (x, y) 0 = [] from rfl, List.append_nil], e6⟩
            case round =>
              clear e6
              obtain ⟨k, hk, rfl, rfl, e6⟩ := hrel
              have cS1w := e6.cell cS1
              have lS1w : Os < wr.heap.size := World.block_lt_of_cell? wr _ cS1w
              by_cases hkD : k < D
              · have hkt : (F : Int) + (k : Int) < T := by omega
                have hm : Sun.minB ((F : Int) + k) = true := Sun.minB_t.2 (by omega)
                have hsn := congrArg (Sun.hts (F : Int) (T : Int) (Globe.cellsTo L0 y ++ Sun.rowTo L0 y x) ++ ·) (Sun.htsT_succ (F : Int) (x, y) k)
                dsimp only at hsn
                rw [← List.append_assoc] at hsn
                have hin := HH.out k (by rw [HD.out.1]; exact hkD)
                go_wp2_with fail
                refine (Height_yes (x : Int) (y : Int) ((F : Int) + k) _ hm hvc).mono ?_
                rintro e w1 ⟨rfl, hb⟩
                generalize Sun.height (x : Int) (y : Int) ((F : Int) + k) = h at *
                obtain ⟨h1, h2⟩ := hin
                have g1 : ¬ h < lo := by omega
                have g2 : ¬ hi < h := by omega
                obtain ⟨r, hr⟩ : ∃ r, Sun.rch lo hi (Sun.hts (F : Int) (T : Int) (Globe.cellsTo L0 y ++ Sun.rowTo L0 y x) ++ Sun.htsT (F : Int) (x, y) k) = r := ⟨_, rfl⟩
                have hr4 : r < 4 := by rw [← hr]; exact Sun.rch_lt _ _ _
                rw [hr]
                have HR := Lib.hid hr; have HS := Lib.hid hsn; clear hr hsn
                have o1 : bits .or .i64 (r : Int) 1 = ((r ||| 1 : Nat) : Int) := or_i64 r 1 (by omega) (by omega)
                have o2 : bits .or .i64 (r : Int) 2 = ((r ||| 2 : Nat) : Int) := or_i64 r 2 (by omega) (by omega)
                have o3 : bits .or .i64 ((r ||| 1 : Nat) : Int) 2 = ((r ||| 1 ||| 2 : Nat) : Int) := or_i64 _ 2 (by have : r ||| 1 < 4 := Nat.or_lt_two_pow (n := 2) hr4 (by decide); omega) (by omega)
                have e6' := e6.trans hb
                by_cases c1 : h = lo <;> by_cases c2 : h = hi
                all_goals
                  first
                    | have b2 : (h == lo) = true := by simpa using c1
                    | have b2 : (h == lo) = false := by simpa using c1
                  first
                    | have b3 : (h == hi) = true := by simpa using c2
                    | have b3 : (h == hi) = false := by simpa using c2
                  have C1 := Lib.hid c1; have C2 := Lib.hid c2
                  clear c1 c2
                  go_wp2_with fail
                  go_roundw
                  case rel =>
                    refine ⟨k + 1, by omega, by go_num, ?_, by (repeat' (first | (with_reducible assumption) | (with_reducible exact Ext.refl _) | (with_reducible refine Ext.alloc ?_ _) | (with_reducible refine Ext.drew ?_) | (with_reducible refine Ext.drewN ?_ _) | (with_reducible refine Ext.setCell ?_ ?_ _) | (with_reducible refine Ext.trans ?_ (by assumption)) | go_size))⟩
                    rw [HS.out]
                    first
                      | rw [Sun.rch_both C1.out C2.out, HR.out]
                      | rw [Sun.rch_lo C1.out C2.out, HR.out]
                      | rw [Sun.rch_hi C1.out C2.out, HR.out]
                      | rw [Sun.rch_no C1.out C2.out, HR.out]
                  case measure => simp [intOf]; omega
              · obtain rfl : k = D := by omega
                go_wp2_with fail
                go_roundw
                case rel => exact ⟨x + 1, by omega, by go_num, by
                  rw [Hrt.out, ← List.append_assoc, Sun.hts_app _ _ (Globe.cellsTo L0 y ++ Sun.rowTo L0 y x) [(x, y)], Sun.hts_one]
                  rw [show ((T : Int) - (F : Int)).toNat = k from by have := HD.out; omega], e6⟩
                case measure => simp [intOf]; omega
        · obtain rfl : x = 48 := by omega
          go_wp2_with fail
          go_roundw
          case rel => exact ⟨y + 1, by omega, by go_num, by rw [Globe.cellsTo_succ, ← Sun.rowTo_all], e6⟩
          case measure => simp [intOf]; omega
    · obtain rfl : y = 24 := by omega
      have hr3 : Sun.rch lo hi (Sun.hts (F : Int) (T : Int) (Globe.cellsTo L0 24)) = 3 := Sun.rch_all HML.out.1 HML.out.2
      rw [hr3]
      clear hr3
      obtain ⟨V, rfl⟩ : ∃ V, V = wr := ⟨_, rfl⟩
      replace hE := hE.trans e6
      replace cPx := e6.cell cPx; replace cPy := e6.cell cPy; replace cO0 := e6.cell cO0; replace cS0 := e6.cell cS0; replace cS1 := e6.cell cS1
      have rA := HrA.out.ext e6
      clear HrA e6 l0 HIN
      have lcPx : w.heap.size < V.heap.size := World.block_lt_of_cell? V _ cPx
      have lcPy : w.heap.size < V.heap.size := World.block_lt_of_cell? V _ cPy
      have lcO0 : O0 < V.heap.size := World.block_lt_of_cell? V _ cO0
      have lcS0 : Os < V.heap.size := World.block_lt_of_cell? V _ cS0
      have lcS1 : Os < V.heap.size := World.block_lt_of_cell? V _ cS1
      go_wp2_with fail
      refine (rCell_c px py _ HI.out.1 HI.out.2).mono ?_
      rintro e w1 ⟨rfl, hb⟩
      have hc := hb.cellE; have hf := hb.frozenE; have hz := hb.size; have ha := alloc_keeps w1; (try simp only [World.size_alloc] at hc hf hz); (try simp only [World.size_setCell] at hc hf hz); (try simp only [World.size_drew] at hc hf hz)
      rw [HX.out.1, HX.out.2]
      go_wp2_with fail
      obtain ⟨Oc, hO⟩ : ∃ O, O = w1.heap.size := ⟨_, rfl⟩
      rw [← hO]
      have hBc : B0 < Oc := by have := rA.lt; omega
      refine wp_name (fun V => Ext w V ∧ RowsAt V B0 L0 ∧ V.cell? ⟨O0, 0, none⟩ = some (.slice (some ⟨B0, 0, none⟩) 24 24) ∧ V.cell? ⟨Os, 0, none⟩ = some (.int .i64 (F : Int)) ∧ V.cell? ⟨Os, 1, none⟩ = some (.int .i64 (T : Int)) ∧ V.cell? ⟨Oc, 0, none⟩ = some (.int .i64 (X : Int)) ∧ V.cell? ⟨Oc, 1, none⟩ = some (.int .i64 (Y : Int))) ⟨hE.trans (by first | exact hb | exact Ext.alloc hb _ | exact Ext.alloc (Ext.alloc hb _) _), rA.ext (by first | exact hb | exact Ext.alloc hb _ | exact Ext.alloc (Ext.alloc hb _) _), Ext.cell (by first | exact hb | exact Ext.alloc hb _ | exact Ext.alloc (Ext.alloc hb _) _) cO0, Ext.cell (by first | exact hb | exact Ext.alloc hb _ | exact Ext.alloc (Ext.alloc hb _) _) cS0, Ext.cell (by first | exact hb | exact Ext.alloc hb _ | exact Ext.alloc (Ext.alloc hb _) _) cS1, by rw [hO]; simp [go_sem], by rw [hO]; simp [go_sem]⟩ ?_
      clear hE cPx cPy rA cO0 cS0 cS1 lcPx lcPy lcO0 lcS0 lcS1 hb hc hf hz ha hO
      rintro V ⟨hE, rA, cO0, cS0, cS1, cOcx, cOcy⟩
      have lcO0 : O0 < V.heap.size := World.block_lt_of_cell? V _ cO0
      have lcS0 : Os < V.heap.size := World.block_lt_of_cell? V _ cS0
      have lcS1 : Os < V.heap.size := World.block_lt_of_cell? V _ cS1
      have lcOcx : Oc < V.heap.size := World.block_lt_of_cell? V _ cOcx
      have lcOcy : Oc < V.heap.size := World.block_lt_of_cell? V _ cOcy
      have hL24 := Globe.len_of_valid HVL.out.1
      have lB := rA.lt
      have d3 : V.cell? ⟨B0, Y, none⟩ = some (.int .i64 (Globe.rowN L0 Y : Nat)) := by rw [← Globe.rowN_cast HVL.out.1]; exact rA.cell hY24
      have d4 := rA.free hY24
      have hR := Globe.rowN_lt HVL.out.1 Y
      obtain ⟨s0, s1, s2⟩ := p2_shl (n := X) (by omega)
      have s3 : bits .or .i64 (Globe.rowN L0 Y : Nat) (p2 X : Nat) = ((Globe.rowN L0 Y ||| p2 X : Nat) : Int) := or_i64 _ _ (by omega) (by omega)
      have y0 : (0 : Int) ≤ (Y : Int) := by omega
      have y1 : (Y : Int) < 24 := by omega
      have hput : L0.set Y ((Globe.rowN L0 Y ||| p2 X : Nat) : Int) = Globe.putL L0 X Y := rfl
      have hpv : Globe.validL (Globe.putL L0 X Y) = true := Globe.valid_put HVL.out.1 hX48
      have hph : Globe.hasL (Globe.putL L0 X Y) 0 12 = true := by rw [Globe.has_put (by rw [hL24]; exact hY24), HVL.out.2]; rfl
      have hmo : ∀ x y, x < 48 → y < 24 → Globe.hasL L0 x y = true → Globe.hasL (Globe.putL L0 X Y) x y = true := fun x y _ _ h => by rw [Globe.has_put (by rw [hL24]; exact hY24), h]; rfl
      have HMO := Lib.hid hmo; have Hput := Lib.hid hput; have Hpv := Lib.hid (And.intro hpv hph)
      clear s1 s2 hput hpv hph hmo hL24
      generalize Globe.rowN L0 Y ||| p2 X = RO at *
      have Hr := Lib.hid rA; clear rA
      go_wp2_with fail
      refine wp_region_held_drew (S := fun w' => w'.cell? ⟨O0, 0, none⟩ = some (.slice (some ⟨B0, 0, none⟩) 24 24) ∧ w'.cell? ⟨Oc, 0, none⟩ = some (.int .i64 (X : Int)) ∧ w'.cell? ⟨Oc, 1, none⟩ = some (.int .i64 (Y : Int))) (by kernel_rfl) ⟨cO0, cOcx, cOcy⟩ (fun hHeld => ?_)
      (refine rg_take 0 (v := ?_) rfl (by kernel_rfl) (by kernel_rfl) (by kernel_rfl) (fun _ _ _ h => h) (by kernel_rfl) ?_ (by with_reducible assumption) ?_; rotate_left; (focus (intro w hSw; (try dsimp only at hSw); go_simp; (try with_reducible rfl))); (try simp only [Act.put, List.setIfInBounds_toArray, List.set_cons_zero, List.set_cons_succ]))
      (refine rg_take 1 (v := ?_) rfl (by kernel_rfl) (by kernel_rfl) (by kernel_rfl) (fun _ _ _ h => h) (by kernel_rfl) ?_ (by with_reducible assumption) ?_; rotate_left; (focus (intro w hSw; (try dsimp only at hSw); go_simp; (try with_reducible rfl))); (try simp only [Act.put, List.setIfInBounds_toArray, List.set_cons_zero, List.set_cons_succ]))
      (refine rg_take 2 (v := ?_) rfl (by kernel_rfl) (by kernel_rfl) (by kernel_rfl) (fun _ _ _ h => h) (by kernel_rfl) ?_ (by with_reducible assumption) ?_; rotate_left; (focus (intro w hSw; (try dsimp only at hSw); go_simp; (try with_reducible rfl))); (try simp only [Act.put, List.setIfInBounds_toArray, List.set_cons_zero, List.set_cons_succ]))
      (refine rg_take 3 (v := ?_) rfl (by kernel_rfl) (by kernel_rfl) (by kernel_rfl) (fun _ _ _ h => h) (by kernel_rfl) ?_ (by with_reducible assumption) ?_; rotate_left; (focus (intro w hSw; (try dsimp only at hSw); go_simp; (try with_reducible rfl))); (try simp only [Act.put, List.setIfInBounds_toArray, List.set_cons_zero, List.set_cons_succ]))
      (refine rg_take 4 (v := ?_) rfl (by kernel_rfl) (by kernel_rfl) (by kernel_rfl) (fun _ _ _ h => h) (by kernel_rfl) ?_ (by with_reducible assumption) ?_; rotate_left; (focus (intro w hSw; (try dsimp only at hSw); go_simp; (try with_reducible rfl))); (try simp only [Act.put, List.setIfInBounds_toArray, List.set_cons_zero, List.set_cons_succ]))
      (refine rg_take 5 (v := ?_) rfl (by kernel_rfl) (by kernel_rfl) (by kernel_rfl) (fun _ _ _ h => h) (by kernel_rfl) ?_ (by with_reducible assumption) ?_; rotate_left; (focus (intro w hSw; (try dsimp only at hSw); go_simp; (try with_reducible rfl))); (try simp only [Act.put, List.setIfInBounds_toArray, List.set_cons_zero, List.set_cons_succ]))
      (refine rg_take 6 (v := ?_) rfl (by kernel_rfl) (by kernel_rfl) (by kernel_rfl) (fun _ _ _ h => h) (by kernel_rfl) ?_ (by with_reducible assumption) ?_; rotate_left; (focus (intro w hSw; (try dsimp only at hSw); go_simp; (try with_reducible rfl))); (try simp only [Act.put, List.setIfInBounds_toArray, List.set_cons_zero, List.set_cons_succ]))
      (refine rg_take 7 (v := ?_) rfl (by kernel_rfl) (by kernel_rfl) (by kernel_rfl) (fun _ _ _ h => h) (by kernel_rfl) ?_ (by with_reducible assumption) ?_; rotate_left; (focus (intro w hSw; (try dsimp only at hSw); go_simp; (try with_reducible rfl))); (try simp only [Act.put, List.setIfInBounds_toArray, List.set_cons_zero, List.set_cons_succ]))
      (refine rg_take 8 (v := ?_) rfl (by kernel_rfl) (by kernel_rfl) (by kernel_rfl) (fun _ _ _ h => h) (by kernel_rfl) ?_ (by with_reducible assumption) ?_; rotate_left; (focus (intro w hSw; (try dsimp only at hSw); go_simp; (try with_reducible rfl))); (try simp only [Act.put, List.setIfInBounds_toArray, List.set_cons_zero, List.set_cons_succ]))
      (refine rg_take 10 (v := ?_) rfl (by kernel_rfl) (by kernel_rfl) (by kernel_rfl) (fun _ _ _ h => h) (by kernel_rfl) ?_ (by with_reducible assumption) ?_; rotate_left; (focus (intro w hSw; (try dsimp only at hSw); go_simp; (try with_reducible rfl))); (try simp only [Act.put, List.setIfInBounds_toArray, List.set_cons_zero, List.set_cons_succ]))
      (refine rg_take 11 (v := ?_) rfl (by kernel_rfl) (by kernel_rfl) (by kernel_rfl) (fun _ _ _ h => h) (by kernel_rfl) ?_ (by with_reducible assumption) ?_; rotate_left; (focus (intro w hSw; (try dsimp only at hSw); go_simp; (try with_reducible rfl))); (try simp only [Act.put, List.setIfInBounds_toArray, List.set_cons_zero, List.set_cons_succ]))
      (refine rg_take 12 (v := ?_) rfl (by kernel_rfl) (by kernel_rfl) (by kernel_rfl) (fun _ _ _ h => h) (by kernel_rfl) ?_ (by with_reducible assumption) ?_; rotate_left; (focus (intro w hSw; (try dsimp only at hSw); go_simp; (try with_reducible rfl))); (try simp only [Act.put, List.setIfInBounds_toArray, List.set_cons_zero, List.set_cons_succ]))
      refine rg_step 9 rfl (by kernel_rfl) (by kernel_rfl) (fun K hK => ?_)
      (go_simp; skip; refine hK.out _ _ (hHeld) (fun hHeld => ?_); clear hK K; (try simp only [Act.put, List.setIfInBounds_toArray, List.set_cons_zero, List.set_cons_succ]))
      (refine rg_take 13 (v := ?_) rfl (by kernel_rfl) (by kernel_rfl) (by kernel_rfl) (fun _ _ _ h => h) (by kernel_rfl) ?_ (by with_reducible assumption) ?_; rotate_left; (focus (intro w hSw; (try dsimp only at hSw); go_simp; (try with_reducible rfl))); (try simp only [Act.put, List.setIfInBounds_toArray, List.set_cons_zero, List.set_cons_succ]))
      (refine rg_take 14 (v := ?_) rfl (by kernel_rfl) (by kernel_rfl) (by kernel_rfl) (fun _ _ _ h => h) (by kernel_rfl) ?_ (by with_reducible assumption) ?_; rotate_left; (focus (intro w hSw; (try dsimp only at hSw); go_simp; (try with_reducible rfl))); (try simp only [Act.put, List.setIfInBounds_toArray, List.set_cons_zero, List.set_cons_succ]))
      refine rg_step 15 rfl (by kernel_rfl) (by kernel_rfl) (fun K hK => ?_)
      (go_simp; skip; refine hK.out _ _ (⟨by simp [go_sem, cO0], by simp [go_sem, cOcx], by simp [go_sem, cOcy]⟩) (fun hHeld => ?_); clear hK K; (try simp only [Act.put, List.setIfInBounds_toArray, List.set_cons_zero, List.set_cons_succ]))
      refine wpAnyH_done (by kernel_rfl) ?_ _
      clear hHeld
      have hwB' := Nat.le_of_lt hwB
      have rB := (Hr.out.drew).set hY24 (RO : Int)
      rw [Hput.out] at rB
      refine exit_name (fun V => Ext w V ∧ RowsAt V B0 (Globe.putL L0 X Y) ∧ V.cell? ⟨O0, 0, none⟩ = some (.slice (some ⟨B0, 0, none⟩) 24 24) ∧ V.cell? ⟨Os, 0, none⟩ = some (.int .i64 (F : Int)) ∧ V.cell? ⟨Os, 1, none⟩ = some (.int .i64 (T : Int))) ⟨Ext.setCell (Ext.drew hE) hwB' _, rB, ?_, ?_, ?_⟩ ?_
      · simp [go_sem, cO0]
      · simp [go_sem, cS0]
      · simp [go_sem, cS1]
      clear hE cO0 cS0 cS1 cOcx cOcy d3 d4 rB Hr lcO0 lcS0 lcS1 lcOcx lcOcy lB hwB' s0 s3
      rintro V ⟨hE, rA, cO0, cS0, cS1⟩
      have vA := rA.va Hpv.out.1
      have kT : IntKind.i64.wrap ((T : Int) + (M : Int)) = (T : Int) + (M : Int) := by rw [IntKind.wrap_i64]; omega
      have KT := Lib.hid kT; clear kT
      have hne := cells_ne (by omega) (by omega) Hpv.out.2
      have HNE := Lib.hid hne; clear hne
      obtain ⟨lo2, hlo2⟩ : ∃ lo, Sun.minL (Sun.hts (F : Int) ((T : Int) + (M : Int)) (Globe.cellsTo (Globe.putL L0 X Y) 24)) = lo := ⟨_, rfl⟩
      obtain ⟨hi2, hhi2⟩ : ∃ hi, Sun.maxL (Sun.hts (F : Int) ((T : Int) + (M : Int)) (Globe.cellsTo (Globe.putL L0 X Y) 24)) = hi := ⟨_, rfl⟩
      have q1 : lo2 ≤ lo := by rw [← hlo2]; exact Sun.minL_le (Sun.hts_more (by omega) HMO.out HML.out.1)
      have q2 : hi ≤ hi2 := by rw [← hhi2]; exact Sun.maxL_ge (Sun.hts_more (by omega) HMO.out HML.out.2)
      have HLO := Lib.hid (And.intro hlo2 hhi2); clear hlo2 hhi2
      have HTV := Lib.hid (HT.out.ext hE)
      go_wp2_with fail
      refine wp_region_held_drew (S := fun w' => Ext V w' ∧ w'.cell? ⟨O0, 0, none⟩ = some (.slice (some ⟨B0, 0, none⟩) 24 24) ∧ w'.cell? ⟨Os, 0, none⟩ = some (.int .i64 (F : Int)) ∧ w'.cell? ⟨Os, 1, none⟩ = some (.int .i64 (T : Int))) (by kernel_rfl) ⟨Ext.drew (Ext.refl _), cO0, cS0, cS1⟩ (fun hHeld => ?_)
      (refine rg_take 0 (v := ?_) rfl (by kernel_rfl) (by kernel_rfl) (by kernel_rfl) (fun _ _ _ h => h) (by kernel_rfl) ?_ (by with_reducible assumption) ?_; rotate_left; (focus (intro w hSw; (try dsimp only at hSw); go_simp; (try with_reducible rfl))); (try simp only [Act.put, List.setIfInBounds_toArray, List.set_cons_zero, List.set_cons_succ]))
      (refine rg_take 1 (v := ?_) rfl (by kernel_rfl) (by kernel_rfl) (by kernel_rfl) (fun _ _ _ h => h) (by kernel_rfl) ?_ (by with_reducible assumption) ?_; rotate_left; (focus (intro w hSw; (try dsimp only at hSw); go_simp; (try with_reducible rfl))); (try simp only [Act.put, List.setIfInBounds_toArray, List.set_cons_zero, List.set_cons_succ]))
      (refine rg_take 2 (v := ?_) rfl (by kernel_rfl) (by kernel_rfl) (by kernel_rfl) (fun _ _ _ h => h) (by kernel_rfl) ?_ (by with_reducible assumption) ?_; rotate_left; (focus (intro w hSw; (try dsimp only at hSw); go_simp; (try with_reducible rfl))); (try simp only [Act.put, List.setIfInBounds_toArray, List.set_cons_zero, List.set_cons_succ]))
      (refine rg_take 3 (v := ?_) rfl (by kernel_rfl) (by kernel_rfl) (by kernel_rfl) (fun _ _ _ h => h) (by kernel_rfl) ?_ (by with_reducible assumption) ?_; rotate_left; (focus (intro w hSw; (try dsimp only at hSw); go_simp; (try with_reducible rfl))); (try simp only [Act.put, List.setIfInBounds_toArray, List.set_cons_zero, List.set_cons_succ]))
      (refine rg_take 4 (v := ?_) rfl (by kernel_rfl) (by kernel_rfl) (by kernel_rfl) (fun _ _ _ h => h) (by kernel_rfl) ?_ (by with_reducible assumption) ?_; rotate_left; (focus (intro w hSw; (try dsimp only at hSw); go_simp; (try with_reducible rfl))); (try simp only [Act.put, List.setIfInBounds_toArray, List.set_cons_zero, List.set_cons_succ]))
      (refine rg_take 5 (v := ?_) rfl (by kernel_rfl) (by kernel_rfl) (by kernel_rfl) (fun _ _ _ h => h) (by kernel_rfl) ?_ (by with_reducible assumption) ?_; rotate_left; (focus (intro w hSw; (try dsimp only at hSw); go_simp; (try with_reducible rfl))); (try simp only [Act.put, List.setIfInBounds_toArray, List.set_cons_zero, List.set_cons_succ]))
      (refine rg_step 6 rfl (by kernel_rfl) (by kernel_rfl) (fun K hK => ?_); go_simp; (go_at_call 13; refine (pick_c a4 9 _ H4.out (by omega) (by omega)).mono ?_; rintro e w1 ⟨rfl, rfl⟩; rw [HM.out]); refine hK.out _ _ (hHeld) (fun hHeld => ?_); clear hK K; (try simp only [Act.put, List.setIfInBounds_toArray, List.set_cons_zero, List.set_cons_succ]))
      (refine rg_take 7 (v := ?_) rfl (by kernel_rfl) (by kernel_rfl) (by kernel_rfl) (fun _ _ _ h => h) (by kernel_rfl) ?_ (by with_reducible assumption) ?_; rotate_left; (focus (intro w hSw; (try dsimp only at hSw); have k0 := KT.out; go_simp; (try with_reducible rfl))); (try simp only [Act.put, List.setIfInBounds_toArray, List.set_cons_zero, List.set_cons_succ]))
      (refine rg_take 8 (v := ?_) rfl (by kernel_rfl) (by kernel_rfl) (by kernel_rfl) (fun _ _ _ h => h) (by kernel_rfl) ?_ (by with_reducible assumption) ?_; rotate_left; (focus (intro w hSw; (try dsimp only at hSw); go_simp; (try with_reducible rfl))); (try simp only [Act.put, List.setIfInBounds_toArray, List.set_cons_zero, List.set_cons_succ]))
      (refine rg_step 9 rfl (by kernel_rfl) (by kernel_rfl) (fun K hK => ?_); go_simp; (go_at_call 28; refine (Range_v 24 (F : Int) ((T : Int) + (M : Int)) _ vA hHeld.1 (HTV.out.ext hHeld.1) (Sun.spB_t.2 (by omega)) (by omega) HNE.out).mono ?_; rintro e w1 ⟨rfl, hb⟩; rw [HLO.out.1, HLO.out.2]); refine hK.out _ _ (⟨hHeld.1.trans hb, hb.cell hHeld.2.1, hb.cell hHeld.2.2.1, hb.cell hHeld.2.2.2⟩) (fun hHeld => ?_); clear hK K; (try simp only [Act.put, List.setIfInBounds_toArray, List.set_cons_zero, List.set_cons_succ]))
      (refine rg_take 10 (v := ?_) rfl (by kernel_rfl) (by kernel_rfl) (by kernel_rfl) (fun _ _ _ h => h) (by kernel_rfl) ?_ (by with_reducible assumption) ?_; rotate_left; (focus (intro w hSw; (try dsimp only at hSw); go_simp; (try with_reducible rfl))); (try simp only [Act.put, List.setIfInBounds_toArray, List.set_cons_zero, List.set_cons_succ]))
      (refine rg_take 11 (v := ?_) rfl (by kernel_rfl) (by kernel_rfl) (by kernel_rfl) (fun _ _ _ h => h) (by kernel_rfl) ?_ (by with_reducible assumption) ?_; rotate_left; (focus (intro w hSw; (try dsimp only at hSw); go_simp; (try with_reducible rfl))); (try simp only [Act.put, List.setIfInBounds_toArray, List.set_cons_zero, List.set_cons_succ]))
      (refine rg_take 12 (v := ?_) rfl (by kernel_rfl) (by kernel_rfl) (by kernel_rfl) (fun _ _ _ h => h) (by kernel_rfl) ?_ (by with_reducible assumption) ?_; rotate_left; (focus (intro w hSw; (try dsimp only at hSw); go_simp; (try with_reducible rfl))); (try simp only [Act.put, List.setIfInBounds_toArray, List.set_cons_zero, List.set_cons_succ]))
      (refine rg_take 13 (v := ?_) rfl (by kernel_rfl) (by kernel_rfl) (by kernel_rfl) (fun _ _ _ h => h) (by kernel_rfl) ?_ (by with_reducible assumption) ?_; rotate_left; (focus (intro w hSw; (try dsimp only at hSw); go_simp; (try with_reducible rfl))); (try simp only [Act.put, List.setIfInBounds_toArray, List.set_cons_zero, List.set_cons_succ]))
      (refine rg_take 14 (v := ?_) rfl (by kernel_rfl) (by kernel_rfl) (by kernel_rfl) (fun _ _ _ h => h) (by kernel_rfl) ?_ (by with_reducible assumption) ?_; rotate_left; (focus (intro w hSw; (try dsimp only at hSw); go_simp; (try with_reducible rfl))); (try simp only [Act.put, List.setIfInBounds_toArray, List.set_cons_zero, List.set_cons_succ]))
      (refine rg_take 15 (v := ?_) rfl (by kernel_rfl) (by kernel_rfl) (by kernel_rfl) (fun _ _ _ h => h) (by kernel_rfl) ?_ (by with_reducible assumption) ?_; rotate_left; (focus (intro w hSw; (try dsimp only at hSw); go_simp; (try with_reducible rfl))); (try simp only [Act.put, List.setIfInBounds_toArray, List.set_cons_zero, List.set_cons_succ]))
      (refine rg_take 16 (v := ?_) rfl (by kernel_rfl) (by kernel_rfl) (by kernel_rfl) (fun _ _ _ h => h) (by kernel_rfl) ?_ (by with_reducible assumption) ?_; rotate_left; (focus (intro w hSw; (try dsimp only at hSw); go_simp; (try with_reducible rfl))); (try simp only [Act.put, List.setIfInBounds_toArray, List.set_cons_zero, List.set_cons_succ]))
      refine wpAnyH_done (by kernel_rfl) ?_ _
      go_wp2_with fail
      have hE' := hHeld.1
      go_ret
      exact ⟨rfl, by (repeat' (first | (with_reducible assumption) | (with_reducible exact Ext.refl _) | (with_reducible refine Ext.alloc ?_ _) | (with_reducible refine Ext.drew ?_) | (with_reducible refine Ext.drewN ?_ _) | (with_reducible refine Ext.setCell ?_ ?_ _) | (with_reducible refine Ext.trans ?_ (by assumption)) | go_size))⟩

end Go.Proofs.YtknlnmalaidaiaaDoor
