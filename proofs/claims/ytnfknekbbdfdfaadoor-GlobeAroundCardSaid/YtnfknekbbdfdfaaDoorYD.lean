/- The walk of the law GlobeAround. -/
import Derived.Test.YtnfknekbbdfdfaaDoorYA
namespace Go.Proofs.YtnfknekbbdfdfaaDoor
open Go.RowKit
open Globe

theorem exit_name (P : World → Prop) {K : Act → World → Prop} {Q : Exit → Act → World → Prop} {e : Exit} {st : Act} {w : World} (h : P w) (hn : ∀ V, P V → Exit.then K Q e st V) : Exit.then K Q e st w := hn w h
theorem modN_add (i k : Int) : modN (i + k + 48) = (modN i + modN k) % 48 := by unfold modN; omega
theorem around_has {a : List Int} (ha : validL a = true) {X Y X2 : Nat} {i : Int} (hX : X < 48) (hX2 : X2 < 48) (hY : Y < 24) (h : (X2 : Int) = (X + i + 960) % 48) : hasL (shiftL a (modN i)) X2 Y = hasL a X Y := by
  rw [has_shift ha (modN_lt i) hX2 hY]
  congr 1
  unfold modN; omega

set_option maxRecDepth 100000 in
set_option maxHeartbeats 8000000 in
theorem GlobeAround_walk (w : World) (v0 : Value) (o0 : Quads w v0) (v1 : Value) (o1 : Quads w v1) (one : Int) (i1 : IsI one) (two : Int) (i2 : IsI two) (n : Int) (i3 : IsI n) (v5 : Value) (o5 : Pair v5) (hT : Tab w) :
    Calls Tryd.prog 5 #[v0, v1, .int .i64 one, .int .i64 two, .int .i64 n, v5] w fun e w' => e = .returned (.bool true) ∧ Ext w w' := by
  obtain ⟨a0, n0, c0, q0, rfl, hn0, Q0⟩ := o0
  obtain ⟨a1, n1, c1, q1, rfl, hn1, Q1⟩ := o1
  obtain ⟨px, py, rfl, ix, iy⟩ := o5
  have HT := Lib.hid hT; clear hT
  obtain ⟨X, hX⟩ : ∃ X : Nat, pickF px 48 = (X : Int) := ⟨(pickF px 48).toNat, by have := @pickF_bd px 48 (by omega); omega⟩
  obtain ⟨Y, hY⟩ : ∃ Y : Nat, pickF py 24 = (Y : Int) := ⟨(pickF py 24).toNat, by have := @pickF_bd py 24 (by omega); omega⟩
  have hX48 : X < 48 := by have := @pickF_bd px 48 (by omega); omega
  have hY24 : Y < 24 := by have := @pickF_bd py 24 (by omega); omega
  have HX := Lib.hid (And.intro hX hY); clear hX hY
  have HI := Lib.hid (And.intro ix iy); clear ix iy
  obtain ⟨D, hD⟩ : ∃ D : Nat, pickF n 6 = (D : Int) := ⟨(pickF n 6).toNat, by have := @pickF_bd n 6 (by omega); omega⟩
  have hD6 : D < 6 := by have := @pickF_bd n 6 (by omega); omega
  obtain ⟨i, hi⟩ : ∃ i : Int, pickF one 200 - 100 = i := ⟨_, rfl⟩
  obtain ⟨k, hk⟩ : ∃ k : Int, pickF two 200 - 100 = k := ⟨_, rfl⟩
  have hi0 : -100 ≤ i ∧ i ≤ 99 := by have := @pickF_bd one 200 (by omega); omega
  have hk0 : -100 ≤ k ∧ k ≤ 99 := by have := @pickF_bd two 200 (by omega); omega
  obtain ⟨hi1, hi2⟩ := hi0
  obtain ⟨hk1, hk2⟩ := hk0
  have b1 := @pickF_bd one 200 (by omega)
  have b2 := @pickF_bd two 200 (by omega)
  obtain ⟨b11, b12⟩ := b1
  obtain ⟨b21, b22⟩ := b2
  have Hi := Lib.hid hi; have Hk := Lib.hid hk; have HD := Lib.hid hD; clear hi hk hD
  have H1 := Lib.hid i1; have H2 := Lib.hid i2; have H3 := Lib.hid i3; clear i1 i2 i3
  go_enter Tryd.func5, Tryd.ntmps5
  go_wp2_with fail
  refine calls_name (fun V => Ext w V ∧ V.cell? ⟨w.heap.size, 0, none⟩ = some (.int .i64 px) ∧ V.cell? ⟨w.heap.size, 1, none⟩ = some (.int .i64 py)) ⟨by (repeat' (first | (with_reducible assumption) | (with_reducible exact Ext.refl _) | (with_reducible refine Ext.alloc ?_ _) | (with_reducible refine Ext.drew ?_) | (with_reducible refine Ext.drewN ?_ _) | (with_reducible refine Ext.setCell ?_ ?_ _) | (with_reducible refine Ext.trans ?_ (by assumption)) | go_size)), by simp [go_sem], by simp [go_sem]⟩ ?_
  rintro V ⟨hE, cPx, cPy⟩
  have lcPx := World.block_lt_of_cell? V _ cPx
  have lcPy := World.block_lt_of_cell? V _ cPy
  refine (sane_c _ (HT.out.ext hE)).mono ?_
  rintro e w1 ⟨rfl, hb⟩
  have hc := hb.cellE; have hf := hb.frozenE; have hz := hb.size; have ha := alloc_keeps w1; (try simp only [World.size_alloc] at hc hf hz); (try simp only [World.size_setCell] at hc hf hz); (try simp only [World.size_drew] at hc hf hz)
  go_wp2_with fail
  refine calls_name (fun V => Ext w V ∧ V.cell? ⟨w.heap.size, 0, none⟩ = some (.int .i64 px) ∧ V.cell? ⟨w.heap.size, 1, none⟩ = some (.int .i64 py)) ⟨hE.trans (by first | exact hb | exact Ext.alloc hb _ | exact Ext.alloc (Ext.alloc hb _) _), Ext.cell (by first | exact hb | exact Ext.alloc hb _ | exact Ext.alloc (Ext.alloc hb _) _) cPx, Ext.cell (by first | exact hb | exact Ext.alloc hb _ | exact Ext.alloc (Ext.alloc hb _) _) cPy⟩ ?_
  clear hE cPx cPy lcPx lcPy hb hc hf hz ha
  rintro V ⟨hE, cPx, cPy⟩
  have lcPx := World.block_lt_of_cell? V _ cPx
  have lcPy := World.block_lt_of_cell? V _ cPy
  refine (Made_c c0 _ (Q0) hE hn0).mono ?_
  rintro e w1 ⟨B0, L0, rfl, hB, hvl, hr, hv, hb⟩
  have hc := hb.cellE; have hf := hb.frozenE; have hz := hb.size; have ha := alloc_keeps w1; (try simp only [World.size_alloc] at hc hf hz); (try simp only [World.size_setCell] at hc hf hz); (try simp only [World.size_drew] at hc hf hz)
  clear hr hB hvl
  go_wp2_with fail
  obtain ⟨O0, hO⟩ : ∃ O, O = w1.heap.size := ⟨_, rfl⟩
  rw [← hO]
  refine calls_name (fun V => Ext w V ∧ V.cell? ⟨w.heap.size, 0, none⟩ = some (.int .i64 px) ∧ V.cell? ⟨w.heap.size, 1, none⟩ = some (.int .i64 py) ∧ VA V B0 0 L0 ∧ V.cell? ⟨O0, 0, none⟩ = some (.slice (some ⟨B0, 0, none⟩) 24 24)) ⟨hE.trans (by first | exact hb | exact Ext.alloc hb _ | exact Ext.alloc (Ext.alloc hb _) _), Ext.cell (by first | exact hb | exact Ext.alloc hb _ | exact Ext.alloc (Ext.alloc hb _) _) cPx, Ext.cell (by first | exact hb | exact Ext.alloc hb _ | exact Ext.alloc (Ext.alloc hb _) _) cPy, hv.ext (by first | exact Ext.refl _ | exact Ext.alloc (Ext.refl _) _ | exact Ext.alloc (Ext.alloc (Ext.refl _) _) _), by rw [hO]; simp [go_sem]⟩ ?_
  clear hE cPx cPy lcPx lcPy hb hc hf hz ha hO hv
  rintro V ⟨hE, cPx, cPy, vA0, cO0⟩
  have lcPx := World.block_lt_of_cell? V _ cPx
  have lcPy := World.block_lt_of_cell? V _ cPy
  have lvA0 := vA0.lt
  have lcO0 := World.block_lt_of_cell? V _ cO0
  refine (Made_c c1 _ (Q1) hE hn1).mono ?_
  rintro e w1 ⟨B1, L1, rfl, hB, hvl, hr, hv, hb⟩
  have hc := hb.cellE; have hf := hb.frozenE; have hz := hb.size; have ha := alloc_keeps w1; (try simp only [World.size_alloc] at hc hf hz); (try simp only [World.size_setCell] at hc hf hz); (try simp only [World.size_drew] at hc hf hz)
  clear hr hB hvl
  go_wp2_with fail
  obtain ⟨O1, hO⟩ : ∃ O, O = w1.heap.size := ⟨_, rfl⟩
  rw [← hO]
  refine calls_name (fun V => Ext w V ∧ V.cell? ⟨w.heap.size, 0, none⟩ = some (.int .i64 px) ∧ V.cell? ⟨w.heap.size, 1, none⟩ = some (.int .i64 py) ∧ VA V B0 0 L0 ∧ V.cell? ⟨O0, 0, none⟩ = some (.slice (some ⟨B0, 0, none⟩) 24 24) ∧ VA V B1 0 L1 ∧ V.cell? ⟨O1, 0, none⟩ = some (.slice (some ⟨B1, 0, none⟩) 24 24)) ⟨hE.trans (by first | exact hb | exact Ext.alloc hb _ | exact Ext.alloc (Ext.alloc hb _) _), Ext.cell (by first | exact hb | exact Ext.alloc hb _ | exact Ext.alloc (Ext.alloc hb _) _) cPx, Ext.cell (by first | exact hb | exact Ext.alloc hb _ | exact Ext.alloc (Ext.alloc hb _) _) cPy, vA0.ext (by first | exact hb | exact Ext.alloc hb _ | exact Ext.alloc (Ext.alloc hb _) _), Ext.cell (by first | exact hb | exact Ext.alloc hb _ | exact Ext.alloc (Ext.alloc hb _) _) cO0, hv.ext (by first | exact Ext.refl _ | exact Ext.alloc (Ext.refl _) _ | exact Ext.alloc (Ext.alloc (Ext.refl _) _) _), by rw [hO]; simp [go_sem]⟩ ?_
  clear hE cPx cPy vA0 cO0 lcPx lcPy lvA0 lcO0 hb hc hf hz ha hO hv
  rintro V ⟨hE, cPx, cPy, vA0, cO0, vA1, cO1⟩
  have lcPx := World.block_lt_of_cell? V _ cPx
  have lcPy := World.block_lt_of_cell? V _ cPy
  have lvA0 := vA0.lt
  have lcO0 := World.block_lt_of_cell? V _ cO0
  have lvA1 := vA1.lt
  have lcO1 := World.block_lt_of_cell? V _ cO1
  refine (pick_c one 200 _ H1.out (by omega) (by omega)).mono ?_
  rintro e w' ⟨rfl, rfl⟩
  go_wp2_with fail
  refine (pick_c two 200 _ H2.out (by omega) (by omega)).mono ?_
  rintro e w' ⟨rfl, rfl⟩
  go_wp2_with fail
  refine (pick_c n 6 _ H3.out (by omega) (by omega)).mono ?_
  rintro e w' ⟨rfl, rfl⟩
  rw [HD.out]
  go_wp2_with fail
  rw [Hi.out, Hk.out]
  refine (Shifted_v 24 i _ vA0 (Ext.refl _)).mono ?_
  rintro e w1 ⟨Bp, kp, rfl, hB, hr, hv, hb⟩
  have hc := hb.cellE; have hf := hb.frozenE; have hz := hb.size; have ha := alloc_keeps w1; (try simp only [World.size_alloc] at hc hf hz); (try simp only [World.size_setCell] at hc hf hz); (try simp only [World.size_drew] at hc hf hz)
  replace hv : VA w1 Bp 0 (shiftL L0 (modN i)) := hv
  clear hr hB
  go_wp2_with fail
  obtain ⟨Op, hO⟩ : ∃ O, O = w1.heap.size := ⟨_, rfl⟩
  rw [← hO]
  refine calls_name (fun V => Ext w V ∧ V.cell? ⟨w.heap.size, 0, none⟩ = some (.int .i64 px) ∧ V.cell? ⟨w.heap.size, 1, none⟩ = some (.int .i64 py) ∧ VA V B0 0 L0 ∧ V.cell? ⟨O0, 0, none⟩ = some (.slice (some ⟨B0, 0, none⟩) 24 24) ∧ VA V B1 0 L1 ∧ V.cell? ⟨O1, 0, none⟩ = some (.slice (some ⟨B1, 0, none⟩) 24 24) ∧ VA V Bp 0 (shiftL L0 (modN i)) ∧ V.cell? ⟨Op, 0, none⟩ = some (.slice (some ⟨Bp, 0, none⟩) 24 kp)) ⟨hE.trans (by first | exact hb | exact Ext.alloc hb _ | exact Ext.alloc (Ext.alloc hb _) _), Ext.cell (by first | exact hb | exact Ext.alloc hb _ | exact Ext.alloc (Ext.alloc hb _) _) cPx, Ext.cell (by first | exact hb | exact Ext.alloc hb _ | exact Ext.alloc (Ext.alloc hb _) _) cPy, vA0.ext (by first | exact hb | exact Ext.alloc hb _ | exact Ext.alloc (Ext.alloc hb _) _), Ext.cell (by first | exact hb | exact Ext.alloc hb _ | exact Ext.alloc (Ext.alloc hb _) _) cO0, vA1.ext (by first | exact hb | exact Ext.alloc hb _ | exact Ext.alloc (Ext.alloc hb _) _), Ext.cell (by first | exact hb | exact Ext.alloc hb _ | exact Ext.alloc (Ext.alloc hb _) _) cO1, hv.ext (by first | exact Ext.refl _ | exact Ext.alloc (Ext.refl _) _ | exact Ext.alloc (Ext.alloc (Ext.refl _) _) _), by rw [hO]; simp [go_sem]⟩ ?_
  clear hE cPx cPy vA0 cO0 vA1 cO1 lcPx lcPy lvA0 lcO0 lvA1 lcO1 hb hc hf hz ha hO hv
  rintro V ⟨hE, cPx, cPy, vA0, cO0, vA1, cO1, vBp, cOp⟩
  have lcPx := World.block_lt_of_cell? V _ cPx
  have lcPy := World.block_lt_of_cell? V _ cPy
  have lvA0 := vA0.lt
  have lcO0 := World.block_lt_of_cell? V _ cO0
  have lvA1 := vA1.lt
  have lcO1 := World.block_lt_of_cell? V _ cO1
  have lvBp := vBp.lt
  have lcOp := World.block_lt_of_cell? V _ cOp
  refine (Shifted_v kp k _ vBp (Ext.refl _)).mono ?_
  rintro e w1 ⟨Bq, kq, rfl, hB, hr, hv, hb⟩
  have hc := hb.cellE; have hf := hb.frozenE; have hz := hb.size; have ha := alloc_keeps w1; (try simp only [World.size_alloc] at hc hf hz); (try simp only [World.size_setCell] at hc hf hz); (try simp only [World.size_drew] at hc hf hz)
  replace hv : VA w1 Bq 0 (shiftL (shiftL L0 (modN i)) (modN k)) := hv
  clear hr hB
  go_wp2_with fail
  obtain ⟨Oq, hO⟩ : ∃ O, O = w1.heap.size := ⟨_, rfl⟩
  rw [← hO]
  refine calls_name (fun V => Ext w V ∧ V.cell? ⟨w.heap.size, 0, none⟩ = some (.int .i64 px) ∧ V.cell? ⟨w.heap.size, 1, none⟩ = some (.int .i64 py) ∧ VA V B0 0 L0 ∧ V.cell? ⟨O0, 0, none⟩ = some (.slice (some ⟨B0, 0, none⟩) 24 24) ∧ VA V B1 0 L1 ∧ V.cell? ⟨O1, 0, none⟩ = some (.slice (some ⟨B1, 0, none⟩) 24 24) ∧ VA V Bp 0 (shiftL L0 (modN i)) ∧ V.cell? ⟨Op, 0, none⟩ = some (.slice (some ⟨Bp, 0, none⟩) 24 kp) ∧ VA V Bq 0 (shiftL (shiftL L0 (modN i)) (modN k)) ∧ V.cell? ⟨Oq, 0, none⟩ = some (.slice (some ⟨Bq, 0, none⟩) 24 kq)) ⟨hE.trans (by first | exact hb | exact Ext.alloc hb _ | exact Ext.alloc (Ext.alloc hb _) _), Ext.cell (by first | exact hb | exact Ext.alloc hb _ | exact Ext.alloc (Ext.alloc hb _) _) cPx, Ext.cell (by first | exact hb | exact Ext.alloc hb _ | exact Ext.alloc (Ext.alloc hb _) _) cPy, vA0.ext (by first | exact hb | exact Ext.alloc hb _ | exact Ext.alloc (Ext.alloc hb _) _), Ext.cell (by first | exact hb | exact Ext.alloc hb _ | exact Ext.alloc (Ext.alloc hb _) _) cO0, vA1.ext (by first | exact hb | exact Ext.alloc hb _ | exact Ext.alloc (Ext.alloc hb _) _), Ext.cell (by first | exact hb | exact Ext.alloc hb _ | exact Ext.alloc (Ext.alloc hb _) _) cO1, vBp.ext (by first | exact hb | exact Ext.alloc hb _ | exact Ext.alloc (Ext.alloc hb _) _), Ext.cell (by first | exact hb | exact Ext.alloc hb _ | exact Ext.alloc (Ext.alloc hb _) _) cOp, hv.ext (by first | exact Ext.refl _ | exact Ext.alloc (Ext.refl _) _ | exact Ext.alloc (Ext.alloc (Ext.refl _) _) _), by rw [hO]; simp [go_sem]⟩ ?_
  clear hE cPx cPy vA0 cO0 vA1 cO1 vBp cOp lcPx lcPy lvA0 lcO0 lvA1 lcO1 lvBp lcOp hb hc hf hz ha hO hv
  rintro V ⟨hE, cPx, cPy, vA0, cO0, vA1, cO1, vBp, cOp, vBq, cOq⟩
  have lcPx := World.block_lt_of_cell? V _ cPx
  have lcPy := World.block_lt_of_cell? V _ cPy
  have lvA0 := vA0.lt
  have lcO0 := World.block_lt_of_cell? V _ cO0
  have lvA1 := vA1.lt
  have lcO1 := World.block_lt_of_cell? V _ cO1
  have lvBp := vBp.lt
  have lcOp := World.block_lt_of_cell? V _ cOp
  have lvBq := vBq.lt
  have lcOq := World.block_lt_of_cell? V _ cOq
  refine (Shifted_v 24 (i + k + 48) _ vA0 (Ext.refl _)).mono ?_
  rintro e w1 ⟨Br, kr, rfl, hB, hr, hv, hb⟩
  have hc := hb.cellE; have hf := hb.frozenE; have hz := hb.size; have ha := alloc_keeps w1; (try simp only [World.size_alloc] at hc hf hz); (try simp only [World.size_setCell] at hc hf hz); (try simp only [World.size_drew] at hc hf hz)
  replace hv : VA w1 Br 0 (shiftL L0 (modN (i + k + 48))) := hv
  clear hr hB
  go_wp2_with fail
  obtain ⟨Or, hO⟩ : ∃ O, O = w1.heap.size := ⟨_, rfl⟩
  rw [← hO]
  refine calls_name (fun V => Ext w V ∧ V.cell? ⟨w.heap.size, 0, none⟩ = some (.int .i64 px) ∧ V.cell? ⟨w.heap.size, 1, none⟩ = some (.int .i64 py) ∧ VA V B0 0 L0 ∧ V.cell? ⟨O0, 0, none⟩ = some (.slice (some ⟨B0, 0, none⟩) 24 24) ∧ VA V B1 0 L1 ∧ V.cell? ⟨O1, 0, none⟩ = some (.slice (some ⟨B1, 0, none⟩) 24 24) ∧ VA V Bp 0 (shiftL L0 (modN i)) ∧ V.cell? ⟨Op, 0, none⟩ = some (.slice (some ⟨Bp, 0, none⟩) 24 kp) ∧ VA V Bq 0 (shiftL (shiftL L0 (modN i)) (modN k)) ∧ V.cell? ⟨Oq, 0, none⟩ = some (.slice (some ⟨Bq, 0, none⟩) 24 kq) ∧ VA V Br 0 (shiftL L0 (modN (i + k + 48))) ∧ V.cell? ⟨Or, 0, none⟩ = some (.slice (some ⟨Br, 0, none⟩) 24 kr)) ⟨hE.trans (by first | exact hb | exact Ext.alloc hb _ | exact Ext.alloc (Ext.alloc hb _) _), Ext.cell (by first | exact hb | exact Ext.alloc hb _ | exact Ext.alloc (Ext.alloc hb _) _) cPx, Ext.cell (by first | exact hb | exact Ext.alloc hb _ | exact Ext.alloc (Ext.alloc hb _) _) cPy, vA0.ext (by first | exact hb | exact Ext.alloc hb _ | exact Ext.alloc (Ext.alloc hb _) _), Ext.cell (by first | exact hb | exact Ext.alloc hb _ | exact Ext.alloc (Ext.alloc hb _) _) cO0, vA1.ext (by first | exact hb | exact Ext.alloc hb _ | exact Ext.alloc (Ext.alloc hb _) _), Ext.cell (by first | exact hb | exact Ext.alloc hb _ | exact Ext.alloc (Ext.alloc hb _) _) cO1, vBp.ext (by first | exact hb | exact Ext.alloc hb _ | exact Ext.alloc (Ext.alloc hb _) _), Ext.cell (by first | exact hb | exact Ext.alloc hb _ | exact Ext.alloc (Ext.alloc hb _) _) cOp, vBq.ext (by first | exact hb | exact Ext.alloc hb _ | exact Ext.alloc (Ext.alloc hb _) _), Ext.cell (by first | exact hb | exact Ext.alloc hb _ | exact Ext.alloc (Ext.alloc hb _) _) cOq, hv.ext (by first | exact Ext.refl _ | exact Ext.alloc (Ext.refl _) _ | exact Ext.alloc (Ext.alloc (Ext.refl _) _) _), by rw [hO]; simp [go_sem]⟩ ?_
  clear hE cPx cPy vA0 cO0 vA1 cO1 vBp cOp vBq cOq lcPx lcPy lvA0 lcO0 lvA1 lcO1 lvBp lcOp lvBq lcOq hb hc hf hz ha hO hv
  rintro V ⟨hE, cPx, cPy, vA0, cO0, vA1, cO1, vBp, cOp, vBq, cOq, vBr, cOr⟩
  have lcPx := World.block_lt_of_cell? V _ cPx
  have lcPy := World.block_lt_of_cell? V _ cPy
  have lvA0 := vA0.lt
  have lcO0 := World.block_lt_of_cell? V _ cO0
  have lvA1 := vA1.lt
  have lcO1 := World.block_lt_of_cell? V _ cO1
  have lvBp := vBp.lt
  have lcOp := World.block_lt_of_cell? V _ cOp
  have lvBq := vBq.lt
  have lcOq := World.block_lt_of_cell? V _ cOq
  have lvBr := vBr.lt
  have lcOr := World.block_lt_of_cell? V _ cOr
  refine (Shifted_v 24 i _ vA1 (Ext.refl _)).mono ?_
  rintro e w1 ⟨Bs, ks, rfl, hB, hr, hv, hb⟩
  have hc := hb.cellE; have hf := hb.frozenE; have hz := hb.size; have ha := alloc_keeps w1; (try simp only [World.size_alloc] at hc hf hz); (try simp only [World.size_setCell] at hc hf hz); (try simp only [World.size_drew] at hc hf hz)
  replace hv : VA w1 Bs 0 (shiftL L1 (modN i)) := hv
  clear hr hB
  go_wp2_with fail
  obtain ⟨Os, hO⟩ : ∃ O, O = w1.heap.size := ⟨_, rfl⟩
  rw [← hO]
  refine wp_name (fun V => Ext w V ∧ V.cell? ⟨w.heap.size, 0, none⟩ = some (.int .i64 px) ∧ V.cell? ⟨w.heap.size, 1, none⟩ = some (.int .i64 py) ∧ VA V B0 0 L0 ∧ V.cell? ⟨O0, 0, none⟩ = some (.slice (some ⟨B0, 0, none⟩) 24 24) ∧ VA V B1 0 L1 ∧ V.cell? ⟨O1, 0, none⟩ = some (.slice (some ⟨B1, 0, none⟩) 24 24) ∧ VA V Bp 0 (shiftL L0 (modN i)) ∧ V.cell? ⟨Op, 0, none⟩ = some (.slice (some ⟨Bp, 0, none⟩) 24 kp) ∧ VA V Bq 0 (shiftL (shiftL L0 (modN i)) (modN k)) ∧ V.cell? ⟨Oq, 0, none⟩ = some (.slice (some ⟨Bq, 0, none⟩) 24 kq) ∧ VA V Br 0 (shiftL L0 (modN (i + k + 48))) ∧ V.cell? ⟨Or, 0, none⟩ = some (.slice (some ⟨Br, 0, none⟩) 24 kr) ∧ VA V Bs 0 (shiftL L1 (modN i)) ∧ V.cell? ⟨Os, 0, none⟩ = some (.slice (some ⟨Bs, 0, none⟩) 24 ks)) ⟨hE.trans (by first | exact hb | exact Ext.alloc hb _ | exact Ext.alloc (Ext.alloc hb _) _), Ext.cell (by first | exact hb | exact Ext.alloc hb _ | exact Ext.alloc (Ext.alloc hb _) _) cPx, Ext.cell (by first | exact hb | exact Ext.alloc hb _ | exact Ext.alloc (Ext.alloc hb _) _) cPy, vA0.ext (by first | exact hb | exact Ext.alloc hb _ | exact Ext.alloc (Ext.alloc hb _) _), Ext.cell (by first | exact hb | exact Ext.alloc hb _ | exact Ext.alloc (Ext.alloc hb _) _) cO0, vA1.ext (by first | exact hb | exact Ext.alloc hb _ | exact Ext.alloc (Ext.alloc hb _) _), Ext.cell (by first | exact hb | exact Ext.alloc hb _ | exact Ext.alloc (Ext.alloc hb _) _) cO1, vBp.ext (by first | exact hb | exact Ext.alloc hb _ | exact Ext.alloc (Ext.alloc hb _) _), Ext.cell (by first | exact hb | exact Ext.alloc hb _ | exact Ext.alloc (Ext.alloc hb _) _) cOp, vBq.ext (by first | exact hb | exact Ext.alloc hb _ | exact Ext.alloc (Ext.alloc hb _) _), Ext.cell (by first | exact hb | exact Ext.alloc hb _ | exact Ext.alloc (Ext.alloc hb _) _) cOq, vBr.ext (by first | exact hb | exact Ext.alloc hb _ | exact Ext.alloc (Ext.alloc hb _) _), Ext.cell (by first | exact hb | exact Ext.alloc hb _ | exact Ext.alloc (Ext.alloc hb _) _) cOr, hv.ext (by first | exact Ext.refl _ | exact Ext.alloc (Ext.refl _) _ | exact Ext.alloc (Ext.alloc (Ext.refl _) _) _), by rw [hO]; simp [go_sem]⟩ ?_
  clear hE cPx cPy vA0 cO0 vA1 cO1 vBp cOp vBq cOq vBr cOr lcPx lcPy lvA0 lcO0 lvA1 lcO1 lvBp lcOp lvBq lcOq lvBr lcOr hb hc hf hz ha hO hv
  rintro V ⟨hE, cPx, cPy, vA0, cO0, vA1, cO1, vBp, cOp, vBq, cOq, vBr, cOr, vBs, cOs⟩
  have lcPx := World.block_lt_of_cell? V _ cPx
  have lcPy := World.block_lt_of_cell? V _ cPy
  have lvA0 := vA0.lt
  have lcO0 := World.block_lt_of_cell? V _ cO0
  have lvA1 := vA1.lt
  have lcO1 := World.block_lt_of_cell? V _ cO1
  have lvBp := vBp.lt
  have lcOp := World.block_lt_of_cell? V _ cOp
  have lvBq := vBq.lt
  have lcOq := World.block_lt_of_cell? V _ cOq
  have lvBr := vBr.lt
  have lcOr := World.block_lt_of_cell? V _ cOr
  have lvBs := vBs.lt
  have lcOs := World.block_lt_of_cell? V _ cOs
  have HTV := Lib.hid (HT.out.ext hE)
  obtain ⟨nc, hnc⟩ : ∃ n, (cellsTo L0 24).length = n := ⟨_, rfl⟩
  have hnc2 : (cellsTo (shiftL L0 (modN i)) 24).length = nc := by rw [count_shift vA0.2 (modN_lt i), hnc]
  have Hn1 := Lib.hid hnc; have Hn2 := Lib.hid hnc2; clear hnc hnc2
  refine wp_region_held_drew (S := fun w' => Ext V w' ∧ w'.cell? ⟨Oq, 0, none⟩ = some (.slice (some ⟨Bq, 0, none⟩) 24 kq) ∧ w'.cell? ⟨Or, 0, none⟩ = some (.slice (some ⟨Br, 0, none⟩) 24 kr) ∧ w'.cell? ⟨Op, 0, none⟩ = some (.slice (some ⟨Bp, 0, none⟩) 24 kp) ∧ w'.cell? ⟨O0, 0, none⟩ = some (.slice (some ⟨B0, 0, none⟩) 24 24)) (by kernel_rfl) ⟨Ext.drew (Ext.refl _), cOq, cOr, cOp, cO0⟩ (fun hHeld => ?_)
  (refine rg_take 0 (v := ?_) rfl (by kernel_rfl) (by kernel_rfl) (by kernel_rfl) (fun _ _ _ h => h) (by kernel_rfl) ?_ (by with_reducible assumption) ?_; rotate_left; (focus (intro w hSw; (try dsimp only at hSw); go_simp; (try with_reducible rfl))); (try simp only [Act.put, List.setIfInBounds_toArray, List.set_cons_zero, List.set_cons_succ]))
  (refine rg_take 1 (v := ?_) rfl (by kernel_rfl) (by kernel_rfl) (by kernel_rfl) (fun _ _ _ h => h) (by kernel_rfl) ?_ (by with_reducible assumption) ?_; rotate_left; (focus (intro w hSw; (try dsimp only at hSw); go_simp; (try with_reducible rfl))); (try simp only [Act.put, List.setIfInBounds_toArray, List.set_cons_zero, List.set_cons_succ]))
  (refine rg_take 2 (v := ?_) rfl (by kernel_rfl) (by kernel_rfl) (by kernel_rfl) (fun _ _ _ h => h) (by kernel_rfl) ?_ (by with_reducible assumption) ?_; rotate_left; (focus (intro w hSw; (try dsimp only at hSw); go_simp; (try with_reducible rfl))); (try simp only [Act.put, List.setIfInBounds_toArray, List.set_cons_zero, List.set_cons_succ]))
  (refine rg_take 3 (v := ?_) rfl (by kernel_rfl) (by kernel_rfl) (by kernel_rfl) (fun _ _ _ h => h) (by kernel_rfl) ?_ (by with_reducible assumption) ?_; rotate_left; (focus (intro w hSw; (try dsimp only at hSw); go_simp; (try with_reducible rfl))); (try simp only [Act.put, List.setIfInBounds_toArray, List.set_cons_zero, List.set_cons_succ]))
  (refine rg_take 4 (v := ?_) rfl (by kernel_rfl) (by kernel_rfl) (by kernel_rfl) (fun _ _ _ h => h) (by kernel_rfl) ?_ (by with_reducible assumption) ?_; rotate_left; (focus (intro w hSw; (try dsimp only at hSw); go_simp; (try with_reducible rfl))); (try simp only [Act.put, List.setIfInBounds_toArray, List.set_cons_zero, List.set_cons_succ]))
  (refine rg_take 5 (v := ?_) rfl (by kernel_rfl) (by kernel_rfl) (by kernel_rfl) (fun _ _ _ h => h) (by kernel_rfl) ?_ (by with_reducible assumption) ?_; rotate_left; (focus (intro w hSw; (try dsimp only at hSw); go_simp; (try with_reducible rfl))); (try simp only [Act.put, List.setIfInBounds_toArray, List.set_cons_zero, List.set_cons_succ]))
  (refine rg_take 6 (v := ?_) rfl (by kernel_rfl) (by kernel_rfl) (by kernel_rfl) (fun _ _ _ h => h) (by kernel_rfl) ?_ (by with_reducible assumption) ?_; rotate_left; (focus (intro w hSw; (try dsimp only at hSw); go_simp; (try with_reducible rfl))); (try simp only [Act.put, List.setIfInBounds_toArray, List.set_cons_zero, List.set_cons_succ]))
  (refine rg_take 7 (v := ?_) rfl (by kernel_rfl) (by kernel_rfl) (by kernel_rfl) (fun _ _ _ h => h) (by kernel_rfl) ?_ (by with_reducible assumption) ?_; rotate_left; (focus (intro w hSw; (try dsimp only at hSw); go_simp; (try with_reducible rfl))); (try simp only [Act.put, List.setIfInBounds_toArray, List.set_cons_zero, List.set_cons_succ]))
  (refine rg_take 8 (v := ?_) rfl (by kernel_rfl) (by kernel_rfl) (by kernel_rfl) (fun _ _ _ h => h) (by kernel_rfl) ?_ (by with_reducible assumption) ?_; rotate_left; (focus (intro w hSw; (try dsimp only at hSw); go_simp; (try with_reducible rfl))); (try simp only [Act.put, List.setIfInBounds_toArray, List.set_cons_zero, List.set_cons_succ]))
  (refine rg_take 9 (v := ?_) rfl (by kernel_rfl) (by kernel_rfl) (by kernel_rfl) (fun _ _ _ h => h) (by kernel_rfl) ?_ (by with_reducible assumption) ?_; rotate_left; (focus (intro w hSw; (try dsimp only at hSw); go_simp; (try with_reducible rfl))); (try simp only [Act.put, List.setIfInBounds_toArray, List.set_cons_zero, List.set_cons_succ]))
  (refine rg_take 10 (v := ?_) rfl (by kernel_rfl) (by kernel_rfl) (by kernel_rfl) (fun _ _ _ h => h) (by kernel_rfl) ?_ (by with_reducible assumption) ?_; rotate_left; (focus (intro w hSw; (try dsimp only at hSw); go_simp; (try with_reducible rfl))); (try simp only [Act.put, List.setIfInBounds_toArray, List.set_cons_zero, List.set_cons_succ]))
  (refine rg_take 11 (v := ?_) rfl (by kernel_rfl) (by kernel_rfl) (by kernel_rfl) (fun _ _ _ h => h) (by kernel_rfl) ?_ (by with_reducible assumption) ?_; rotate_left; (focus (intro w hSw; (try dsimp only at hSw); go_simp; (try with_reducible rfl))); (try simp only [Act.put, List.setIfInBounds_toArray, List.set_cons_zero, List.set_cons_succ]))
  (refine rg_take 12 (v := ?_) rfl (by kernel_rfl) (by kernel_rfl) (by kernel_rfl) (fun _ _ _ h => h) (by kernel_rfl) ?_ (by with_reducible assumption) ?_; rotate_left; (focus (intro w hSw; (try dsimp only at hSw); go_simp; (try with_reducible rfl))); (try simp only [Act.put, List.setIfInBounds_toArray, List.set_cons_zero, List.set_cons_succ]))
  (refine rg_take 13 (v := ?_) rfl (by kernel_rfl) (by kernel_rfl) (by kernel_rfl) (fun _ _ _ h => h) (by kernel_rfl) ?_ (by with_reducible assumption) ?_; rotate_left; (focus (intro w hSw; (try dsimp only at hSw); go_simp; (try with_reducible rfl))); (try simp only [Act.put, List.setIfInBounds_toArray, List.set_cons_zero, List.set_cons_succ]))
  (refine rg_take 14 (v := ?_) rfl (by kernel_rfl) (by kernel_rfl) (by kernel_rfl) (fun _ _ _ h => h) (by kernel_rfl) ?_ (by with_reducible assumption) ?_; rotate_left; (focus (intro w hSw; (try dsimp only at hSw); go_simp; (try with_reducible rfl))); (try simp only [Act.put, List.setIfInBounds_toArray, List.set_cons_zero, List.set_cons_succ]))
  (refine rg_take 15 (v := ?_) rfl (by kernel_rfl) (by kernel_rfl) (by kernel_rfl) (fun _ _ _ h => h) (by kernel_rfl) ?_ (by with_reducible assumption) ?_; rotate_left; (focus (intro w hSw; (try dsimp only at hSw); go_simp; (try with_reducible rfl))); (try simp only [Act.put, List.setIfInBounds_toArray, List.set_cons_zero, List.set_cons_succ]))
  (refine rg_take 16 (v := ?_) rfl (by kernel_rfl) (by kernel_rfl) (by kernel_rfl) (fun _ _ _ h => h) (by kernel_rfl) ?_ (by with_reducible assumption) ?_; rotate_left; (focus (intro w hSw; (try dsimp only at hSw); go_simp; (try with_reducible rfl))); (try simp only [Act.put, List.setIfInBounds_toArray, List.set_cons_zero, List.set_cons_succ]))
  (refine rg_step 17 rfl (by kernel_rfl) (by kernel_rfl) (fun K hK => ?_); go_simp; (go_at_call 21; refine (rSame_r _ _ _ vBq hHeld.1 vBr hHeld.1 (decide_eq_true (shift_shift vA0.2 (modN_lt i) (modN_lt k) (modN_add i k)))).mono ?_; rintro e w1 ⟨rfl, hb⟩); refine hK.out _ _ (⟨hHeld.1.trans hb, hb.cell hHeld.2.1, hb.cell hHeld.2.2.1, hb.cell hHeld.2.2.2.1, hb.cell hHeld.2.2.2.2⟩) (fun hHeld => ?_); clear hK K; (try simp only [Act.put, List.setIfInBounds_toArray, List.set_cons_zero, List.set_cons_succ]))
  (refine rg_take 18 (v := ?_) rfl (by kernel_rfl) (by kernel_rfl) (by kernel_rfl) (fun _ _ _ h => h) (by kernel_rfl) ?_ (by with_reducible assumption) ?_; rotate_left; (focus (intro w hSw; (try dsimp only at hSw); go_simp; (try with_reducible rfl))); (try simp only [Act.put, List.setIfInBounds_toArray, List.set_cons_zero, List.set_cons_succ]))
  (refine rg_take 19 (v := ?_) rfl (by kernel_rfl) (by kernel_rfl) (by kernel_rfl) (fun _ _ _ h => h) (by kernel_rfl) ?_ (by with_reducible assumption) ?_; rotate_left; (focus (intro w hSw; (try dsimp only at hSw); go_simp; (try with_reducible rfl))); (try simp only [Act.put, List.setIfInBounds_toArray, List.set_cons_zero, List.set_cons_succ]))
  (refine rg_take 20 (v := ?_) rfl (by kernel_rfl) (by kernel_rfl) (by kernel_rfl) (fun _ _ _ h => h) (by kernel_rfl) ?_ (by with_reducible assumption) ?_; rotate_left; (focus (intro w hSw; (try dsimp only at hSw); go_simp; (try with_reducible rfl))); (try simp only [Act.put, List.setIfInBounds_toArray, List.set_cons_zero, List.set_cons_succ]))
  (refine rg_take 21 (v := ?_) rfl (by kernel_rfl) (by kernel_rfl) (by kernel_rfl) (fun _ _ _ h => h) (by kernel_rfl) ?_ (by with_reducible assumption) ?_; rotate_left; (focus (intro w hSw; (try dsimp only at hSw); go_simp; (try with_reducible rfl))); (try simp only [Act.put, List.setIfInBounds_toArray, List.set_cons_zero, List.set_cons_succ]))
  (refine rg_take 23 (v := ?_) rfl (by kernel_rfl) (by kernel_rfl) (by kernel_rfl) (fun _ _ _ h => h) (by kernel_rfl) ?_ (by with_reducible assumption) ?_; rotate_left; (focus (intro w hSw; (try dsimp only at hSw); go_simp; (try with_reducible rfl))); (try simp only [Act.put, List.setIfInBounds_toArray, List.set_cons_zero, List.set_cons_succ]))
  (refine rg_step 22 rfl (by kernel_rfl) (by kernel_rfl) (fun K hK => ?_); go_simp; (go_at_call 24; refine (Count_r _ _ vBp hHeld.1 (HTV.out.ext hHeld.1) Hn2.out).mono ?_; rintro e w1 ⟨rfl, hb⟩); refine hK.out _ _ (⟨hHeld.1.trans hb, hb.cell hHeld.2.1, hb.cell hHeld.2.2.1, hb.cell hHeld.2.2.2.1, hb.cell hHeld.2.2.2.2⟩) (fun hHeld => ?_); clear hK K; (try simp only [Act.put, List.setIfInBounds_toArray, List.set_cons_zero, List.set_cons_succ]))
  (refine rg_step 24 rfl (by kernel_rfl) (by kernel_rfl) (fun K hK => ?_); go_simp; (go_at_call 24; refine (Count_r _ _ vA0 hHeld.1 (HTV.out.ext hHeld.1) Hn1.out).mono ?_; rintro e w1 ⟨rfl, hb⟩); refine hK.out _ _ (⟨hHeld.1.trans hb, hb.cell hHeld.2.1, hb.cell hHeld.2.2.1, hb.cell hHeld.2.2.2.1, hb.cell hHeld.2.2.2.2⟩) (fun hHeld => ?_); clear hK K; (try simp only [Act.put, List.setIfInBounds_toArray, List.set_cons_zero, List.set_cons_succ]))
  (refine rg_take 25 (v := ?_) rfl (by kernel_rfl) (by kernel_rfl) (by kernel_rfl) (fun _ _ _ h => h) (by kernel_rfl) ?_ (by with_reducible assumption) ?_; rotate_left; (focus (intro w hSw; (try dsimp only at hSw); go_simp; (try with_reducible rfl))); (try simp only [Act.put, List.setIfInBounds_toArray, List.set_cons_zero, List.set_cons_succ]))
  (refine rg_take 26 (v := ?_) rfl (by kernel_rfl) (by kernel_rfl) (by kernel_rfl) (fun _ _ _ h => h) (by kernel_rfl) ?_ (by with_reducible assumption) ?_; rotate_left; (focus (intro w hSw; (try dsimp only at hSw); go_simp; (try with_reducible rfl))); (try simp only [Act.put, List.setIfInBounds_toArray, List.set_cons_zero, List.set_cons_succ]))
  refine wpAnyH_done (by kernel_rfl) ?_ _
  have hb := hHeld.1
  clear hHeld
  refine exit_name (fun V => Ext w V ∧ V.cell? ⟨w.heap.size, 0, none⟩ = some (.int .i64 px) ∧ V.cell? ⟨w.heap.size, 1, none⟩ = some (.int .i64 py) ∧ VA V B0 0 L0 ∧ V.cell? ⟨O0, 0, none⟩ = some (.slice (some ⟨B0, 0, none⟩) 24 24) ∧ VA V B1 0 L1 ∧ V.cell? ⟨O1, 0, none⟩ = some (.slice (some ⟨B1, 0, none⟩) 24 24) ∧ VA V Bp 0 (shiftL L0 (modN i)) ∧ V.cell? ⟨Op, 0, none⟩ = some (.slice (some ⟨Bp, 0, none⟩) 24 kp) ∧ VA V Bq 0 (shiftL (shiftL L0 (modN i)) (modN k)) ∧ V.cell? ⟨Oq, 0, none⟩ = some (.slice (some ⟨Bq, 0, none⟩) 24 kq) ∧ VA V Br 0 (shiftL L0 (modN (i + k + 48))) ∧ V.cell? ⟨Or, 0, none⟩ = some (.slice (some ⟨Br, 0, none⟩) 24 kr) ∧ VA V Bs 0 (shiftL L1 (modN i)) ∧ V.cell? ⟨Os, 0, none⟩ = some (.slice (some ⟨Bs, 0, none⟩) 24 ks)) ⟨hE.trans (by first | exact hb | exact Ext.alloc hb _ | exact Ext.alloc (Ext.alloc hb _) _), Ext.cell (by first | exact hb | exact Ext.alloc hb _ | exact Ext.alloc (Ext.alloc hb _) _) cPx, Ext.cell (by first | exact hb | exact Ext.alloc hb _ | exact Ext.alloc (Ext.alloc hb _) _) cPy, vA0.ext (by first | exact hb | exact Ext.alloc hb _ | exact Ext.alloc (Ext.alloc hb _) _), Ext.cell (by first | exact hb | exact Ext.alloc hb _ | exact Ext.alloc (Ext.alloc hb _) _) cO0, vA1.ext (by first | exact hb | exact Ext.alloc hb _ | exact Ext.alloc (Ext.alloc hb _) _), Ext.cell (by first | exact hb | exact Ext.alloc hb _ | exact Ext.alloc (Ext.alloc hb _) _) cO1, vBp.ext (by first | exact hb | exact Ext.alloc hb _ | exact Ext.alloc (Ext.alloc hb _) _), Ext.cell (by first | exact hb | exact Ext.alloc hb _ | exact Ext.alloc (Ext.alloc hb _) _) cOp, vBq.ext (by first | exact hb | exact Ext.alloc hb _ | exact Ext.alloc (Ext.alloc hb _) _), Ext.cell (by first | exact hb | exact Ext.alloc hb _ | exact Ext.alloc (Ext.alloc hb _) _) cOq, vBr.ext (by first | exact hb | exact Ext.alloc hb _ | exact Ext.alloc (Ext.alloc hb _) _), Ext.cell (by first | exact hb | exact Ext.alloc hb _ | exact Ext.alloc (Ext.alloc hb _) _) cOr, vBs.ext (by first | exact hb | exact Ext.alloc hb _ | exact Ext.alloc (Ext.alloc hb _) _), Ext.cell (by first | exact hb | exact Ext.alloc hb _ | exact Ext.alloc (Ext.alloc hb _) _) cOs⟩ ?_
  clear hE cPx cPy vA0 cO0 vA1 cO1 vBp cOp vBq cOq vBr cOr vBs cOs lcPx lcPy lvA0 lcO0 lvA1 lcO1 lvBp lcOp lvBq lcOq lvBr lcOr lvBs lcOs hb HTV Hn1 Hn2
  rintro V ⟨hE, cPx, cPy, vA0, cO0, vA1, cO1, vBp, cOp, vBq, cOq, vBr, cOr, vBs, cOs⟩
  have lcPx := World.block_lt_of_cell? V _ cPx
  have lcPy := World.block_lt_of_cell? V _ cPy
  have lvA0 := vA0.lt
  have lcO0 := World.block_lt_of_cell? V _ cO0
  have lvA1 := vA1.lt
  have lcO1 := World.block_lt_of_cell? V _ cO1
  have lvBp := vBp.lt
  have lcOp := World.block_lt_of_cell? V _ cOp
  have lvBq := vBq.lt
  have lcOq := World.block_lt_of_cell? V _ cOq
  have lvBr := vBr.lt
  have lcOr := World.block_lt_of_cell? V _ cOr
  have lvBs := vBs.lt
  have lcOs := World.block_lt_of_cell? V _ cOs
  go_wp2_with fail
  refine (Meet_v 24 24 _ vA0 (Ext.refl _) vA1 (Ext.refl _)).mono ?_
  rintro e w1 ⟨Bm, km, rfl, hB, hr, hv, hb⟩
  have hc := hb.cellE; have hf := hb.frozenE; have hz := hb.size; have ha := alloc_keeps w1; (try simp only [World.size_alloc] at hc hf hz); (try simp only [World.size_setCell] at hc hf hz); (try simp only [World.size_drew] at hc hf hz)
  clear hr hB
  go_wp2_with fail
  obtain ⟨Om, hO⟩ : ∃ O, O = w1.heap.size := ⟨_, rfl⟩
  rw [← hO]
  refine calls_name (fun V => Ext w V ∧ V.cell? ⟨w.heap.size, 0, none⟩ = some (.int .i64 px) ∧ V.cell? ⟨w.heap.size, 1, none⟩ = some (.int .i64 py) ∧ VA V B0 0 L0 ∧ V.cell? ⟨O0, 0, none⟩ = some (.slice (some ⟨B0, 0, none⟩) 24 24) ∧ VA V B1 0 L1 ∧ V.cell? ⟨O1, 0, none⟩ = some (.slice (some ⟨B1, 0, none⟩) 24 24) ∧ VA V Bp 0 (shiftL L0 (modN i)) ∧ V.cell? ⟨Op, 0, none⟩ = some (.slice (some ⟨Bp, 0, none⟩) 24 kp) ∧ VA V Bq 0 (shiftL (shiftL L0 (modN i)) (modN k)) ∧ V.cell? ⟨Oq, 0, none⟩ = some (.slice (some ⟨Bq, 0, none⟩) 24 kq) ∧ VA V Br 0 (shiftL L0 (modN (i + k + 48))) ∧ V.cell? ⟨Or, 0, none⟩ = some (.slice (some ⟨Br, 0, none⟩) 24 kr) ∧ VA V Bs 0 (shiftL L1 (modN i)) ∧ V.cell? ⟨Os, 0, none⟩ = some (.slice (some ⟨Bs, 0, none⟩) 24 ks) ∧ VA V Bm 0 (meetL L0 L1) ∧ V.cell? ⟨Om, 0, none⟩ = some (.slice (some ⟨Bm, 0, none⟩) 24 km)) ⟨hE.trans (by first | exact hb | exact Ext.alloc hb _ | exact Ext.alloc (Ext.alloc hb _) _), Ext.cell (by first | exact hb | exact Ext.alloc hb _ | exact Ext.alloc (Ext.alloc hb _) _) cPx, Ext.cell (by first | exact hb | exact Ext.alloc hb _ | exact Ext.alloc (Ext.alloc hb _) _) cPy, vA0.ext (by first | exact hb | exact Ext.alloc hb _ | exact Ext.alloc (Ext.alloc hb _) _), Ext.cell (by first | exact hb | exact Ext.alloc hb _ | exact Ext.alloc (Ext.alloc hb _) _) cO0, vA1.ext (by first | exact hb | exact Ext.alloc hb _ | exact Ext.alloc (Ext.alloc hb _) _), Ext.cell (by first | exact hb | exact Ext.alloc hb _ | exact Ext.alloc (Ext.alloc hb _) _) cO1, vBp.ext (by first | exact hb | exact Ext.alloc hb _ | exact Ext.alloc (Ext.alloc hb _) _), Ext.cell (by first | exact hb | exact Ext.alloc hb _ | exact Ext.alloc (Ext.alloc hb _) _) cOp, vBq.ext (by first | exact hb | exact Ext.alloc hb _ | exact Ext.alloc (Ext.alloc hb _) _), Ext.cell (by first | exact hb | exact Ext.alloc hb _ | exact Ext.alloc (Ext.alloc hb _) _) cOq, vBr.ext (by first | exact hb | exact Ext.alloc hb _ | exact Ext.alloc (Ext.alloc hb _) _), Ext.cell (by first | exact hb | exact Ext.alloc hb _ | exact Ext.alloc (Ext.alloc hb _) _) cOr, vBs.ext (by first | exact hb | exact Ext.alloc hb _ | exact Ext.alloc (Ext.alloc hb _) _), Ext.cell (by first | exact hb | exact Ext.alloc hb _ | exact Ext.alloc (Ext.alloc hb _) _) cOs, hv.ext (by first | exact Ext.refl _ | exact Ext.alloc (Ext.refl _) _ | exact Ext.alloc (Ext.alloc (Ext.refl _) _) _), by rw [hO]; simp [go_sem]⟩ ?_
  clear hE cPx cPy vA0 cO0 vA1 cO1 vBp cOp vBq cOq vBr cOr vBs cOs lcPx lcPy lvA0 lcO0 lvA1 lcO1 lvBp lcOp lvBq lcOq lvBr lcOr lvBs lcOs hb hc hf hz ha hO hv
  rintro V ⟨hE, cPx, cPy, vA0, cO0, vA1, cO1, vBp, cOp, vBq, cOq, vBr, cOr, vBs, cOs, vBm, cOm⟩
  have lcPx := World.block_lt_of_cell? V _ cPx
  have lcPy := World.block_lt_of_cell? V _ cPy
  have lvA0 := vA0.lt
  have lcO0 := World.block_lt_of_cell? V _ cO0
  have lvA1 := vA1.lt
  have lcO1 := World.block_lt_of_cell? V _ cO1
  have lvBp := vBp.lt
  have lcOp := World.block_lt_of_cell? V _ cOp
  have lvBq := vBq.lt
  have lcOq := World.block_lt_of_cell? V _ cOq
  have lvBr := vBr.lt
  have lcOr := World.block_lt_of_cell? V _ cOr
  have lvBs := vBs.lt
  have lcOs := World.block_lt_of_cell? V _ cOs
  have lvBm := vBm.lt
  have lcOm := World.block_lt_of_cell? V _ cOm
  refine (Meet_v kp ks _ vBp (Ext.refl _) vBs (Ext.refl _)).mono ?_
  rintro e w1 ⟨Bb, kb, rfl, hB, hr, hv, hb⟩
  have hc := hb.cellE; have hf := hb.frozenE; have hz := hb.size; have ha := alloc_keeps w1; (try simp only [World.size_alloc] at hc hf hz); (try simp only [World.size_setCell] at hc hf hz); (try simp only [World.size_drew] at hc hf hz)
  clear hr hB
  go_wp2_with fail
  obtain ⟨Ob, hO⟩ : ∃ O, O = w1.heap.size := ⟨_, rfl⟩
  rw [← hO]
  refine calls_name (fun V => Ext w V ∧ V.cell? ⟨w.heap.size, 0, none⟩ = some (.int .i64 px) ∧ V.cell? ⟨w.heap.size, 1, none⟩ = some (.int .i64 py) ∧ VA V B0 0 L0 ∧ V.cell? ⟨O0, 0, none⟩ = some (.slice (some ⟨B0, 0, none⟩) 24 24) ∧ VA V B1 0 L1 ∧ V.cell? ⟨O1, 0, none⟩ = some (.slice (some ⟨B1, 0, none⟩) 24 24) ∧ VA V Bp 0 (shiftL L0 (modN i)) ∧ V.cell? ⟨Op, 0, none⟩ = some (.slice (some ⟨Bp, 0, none⟩) 24 kp) ∧ VA V Bq 0 (shiftL (shiftL L0 (modN i)) (modN k)) ∧ V.cell? ⟨Oq, 0, none⟩ = some (.slice (some ⟨Bq, 0, none⟩) 24 kq) ∧ VA V Br 0 (shiftL L0 (modN (i + k + 48))) ∧ V.cell? ⟨Or, 0, none⟩ = some (.slice (some ⟨Br, 0, none⟩) 24 kr) ∧ VA V Bs 0 (shiftL L1 (modN i)) ∧ V.cell? ⟨Os, 0, none⟩ = some (.slice (some ⟨Bs, 0, none⟩) 24 ks) ∧ VA V Bm 0 (meetL L0 L1) ∧ V.cell? ⟨Om, 0, none⟩ = some (.slice (some ⟨Bm, 0, none⟩) 24 km) ∧ VA V Bb 0 (meetL (shiftL L0 (modN i)) (shiftL L1 (modN i))) ∧ V.cell? ⟨Ob, 0, none⟩ = some (.slice (some ⟨Bb, 0, none⟩) 24 kb)) ⟨hE.trans (by first | exact hb | exact Ext.alloc hb _ | exact Ext.alloc (Ext.alloc hb _) _), Ext.cell (by first | exact hb | exact Ext.alloc hb _ | exact Ext.alloc (Ext.alloc hb _) _) cPx, Ext.cell (by first | exact hb | exact Ext.alloc hb _ | exact Ext.alloc (Ext.alloc hb _) _) cPy, vA0.ext (by first | exact hb | exact Ext.alloc hb _ | exact Ext.alloc (Ext.alloc hb _) _), Ext.cell (by first | exact hb | exact Ext.alloc hb _ | exact Ext.alloc (Ext.alloc hb _) _) cO0, vA1.ext (by first | exact hb | exact Ext.alloc hb _ | exact Ext.alloc (Ext.alloc hb _) _), Ext.cell (by first | exact hb | exact Ext.alloc hb _ | exact Ext.alloc (Ext.alloc hb _) _) cO1, vBp.ext (by first | exact hb | exact Ext.alloc hb _ | exact Ext.alloc (Ext.alloc hb _) _), Ext.cell (by first | exact hb | exact Ext.alloc hb _ | exact Ext.alloc (Ext.alloc hb _) _) cOp, vBq.ext (by first | exact hb | exact Ext.alloc hb _ | exact Ext.alloc (Ext.alloc hb _) _), Ext.cell (by first | exact hb | exact Ext.alloc hb _ | exact Ext.alloc (Ext.alloc hb _) _) cOq, vBr.ext (by first | exact hb | exact Ext.alloc hb _ | exact Ext.alloc (Ext.alloc hb _) _), Ext.cell (by first | exact hb | exact Ext.alloc hb _ | exact Ext.alloc (Ext.alloc hb _) _) cOr, vBs.ext (by first | exact hb | exact Ext.alloc hb _ | exact Ext.alloc (Ext.alloc hb _) _), Ext.cell (by first | exact hb | exact Ext.alloc hb _ | exact Ext.alloc (Ext.alloc hb _) _) cOs, vBm.ext (by first | exact hb | exact Ext.alloc hb _ | exact Ext.alloc (Ext.alloc hb _) _), Ext.cell (by first | exact hb | exact Ext.alloc hb _ | exact Ext.alloc (Ext.alloc hb _) _) cOm, hv.ext (by first | exact Ext.refl _ | exact Ext.alloc (Ext.refl _) _ | exact Ext.alloc (Ext.alloc (Ext.refl _) _) _), by rw [hO]; simp [go_sem]⟩ ?_
  clear hE cPx cPy vA0 cO0 vA1 cO1 vBp cOp vBq cOq vBr cOr vBs cOs vBm cOm lcPx lcPy lvA0 lcO0 lvA1 lcO1 lvBp lcOp lvBq lcOq lvBr lcOr lvBs lcOs lvBm lcOm hb hc hf hz ha hO hv
  rintro V ⟨hE, cPx, cPy, vA0, cO0, vA1, cO1, vBp, cOp, vBq, cOq, vBr, cOr, vBs, cOs, vBm, cOm, vBb, cOb⟩
  have lcPx := World.block_lt_of_cell? V _ cPx
  have lcPy := World.block_lt_of_cell? V _ cPy
  have lvA0 := vA0.lt
  have lcO0 := World.block_lt_of_cell? V _ cO0
  have lvA1 := vA1.lt
  have lcO1 := World.block_lt_of_cell? V _ cO1
  have lvBp := vBp.lt
  have lcOp := World.block_lt_of_cell? V _ cOp
  have lvBq := vBq.lt
  have lcOq := World.block_lt_of_cell? V _ cOq
  have lvBr := vBr.lt
  have lcOr := World.block_lt_of_cell? V _ cOr
  have lvBs := vBs.lt
  have lcOs := World.block_lt_of_cell? V _ cOs
  have lvBm := vBm.lt
  have lcOm := World.block_lt_of_cell? V _ cOm
  have lvBb := vBb.lt
  have lcOb := World.block_lt_of_cell? V _ cOb
  refine (Grown_y B0 0 24 L0 D _ vA0 (by omega)).mono ?_
  rintro e w1 ⟨Bw, kw, rfl, hB, hr, hv, hb⟩
  have hc := hb.cellE; have hf := hb.frozenE; have hz := hb.size; have ha := alloc_keeps w1; (try simp only [World.size_alloc] at hc hf hz); (try simp only [World.size_setCell] at hc hf hz); (try simp only [World.size_drew] at hc hf hz)
  replace hv : VA w1 Bw 0 (growL L0 D) := hv
  clear hr hB
  go_wp2_with fail
  obtain ⟨Ow, hO⟩ : ∃ O, O = w1.heap.size := ⟨_, rfl⟩
  rw [← hO]
  refine calls_name (fun V => Ext w V ∧ V.cell? ⟨w.heap.size, 0, none⟩ = some (.int .i64 px) ∧ V.cell? ⟨w.heap.size, 1, none⟩ = some (.int .i64 py) ∧ VA V B0 0 L0 ∧ V.cell? ⟨O0, 0, none⟩ = some (.slice (some ⟨B0, 0, none⟩) 24 24) ∧ VA V B1 0 L1 ∧ V.cell? ⟨O1, 0, none⟩ = some (.slice (some ⟨B1, 0, none⟩) 24 24) ∧ VA V Bp 0 (shiftL L0 (modN i)) ∧ V.cell? ⟨Op, 0, none⟩ = some (.slice (some ⟨Bp, 0, none⟩) 24 kp) ∧ VA V Bq 0 (shiftL (shiftL L0 (modN i)) (modN k)) ∧ V.cell? ⟨Oq, 0, none⟩ = some (.slice (some ⟨Bq, 0, none⟩) 24 kq) ∧ VA V Br 0 (shiftL L0 (modN (i + k + 48))) ∧ V.cell? ⟨Or, 0, none⟩ = some (.slice (some ⟨Br, 0, none⟩) 24 kr) ∧ VA V Bs 0 (shiftL L1 (modN i)) ∧ V.cell? ⟨Os, 0, none⟩ = some (.slice (some ⟨Bs, 0, none⟩) 24 ks) ∧ VA V Bm 0 (meetL L0 L1) ∧ V.cell? ⟨Om, 0, none⟩ = some (.slice (some ⟨Bm, 0, none⟩) 24 km) ∧ VA V Bb 0 (meetL (shiftL L0 (modN i)) (shiftL L1 (modN i))) ∧ V.cell? ⟨Ob, 0, none⟩ = some (.slice (some ⟨Bb, 0, none⟩) 24 kb) ∧ VA V Bw 0 (growL L0 D) ∧ V.cell? ⟨Ow, 0, none⟩ = some (.slice (some ⟨Bw, 0, none⟩) 24 kw)) ⟨hE.trans (by first | exact hb | exact Ext.alloc hb _ | exact Ext.alloc (Ext.alloc hb _) _), Ext.cell (by first | exact hb | exact Ext.alloc hb _ | exact Ext.alloc (Ext.alloc hb _) _) cPx, Ext.cell (by first | exact hb | exact Ext.alloc hb _ | exact Ext.alloc (Ext.alloc hb _) _) cPy, vA0.ext (by first | exact hb | exact Ext.alloc hb _ | exact Ext.alloc (Ext.alloc hb _) _), Ext.cell (by first | exact hb | exact Ext.alloc hb _ | exact Ext.alloc (Ext.alloc hb _) _) cO0, vA1.ext (by first | exact hb | exact Ext.alloc hb _ | exact Ext.alloc (Ext.alloc hb _) _), Ext.cell (by first | exact hb | exact Ext.alloc hb _ | exact Ext.alloc (Ext.alloc hb _) _) cO1, vBp.ext (by first | exact hb | exact Ext.alloc hb _ | exact Ext.alloc (Ext.alloc hb _) _), Ext.cell (by first | exact hb | exact Ext.alloc hb _ | exact Ext.alloc (Ext.alloc hb _) _) cOp, vBq.ext (by first | exact hb | exact Ext.alloc hb _ | exact Ext.alloc (Ext.alloc hb _) _), Ext.cell (by first | exact hb | exact Ext.alloc hb _ | exact Ext.alloc (Ext.alloc hb _) _) cOq, vBr.ext (by first | exact hb | exact Ext.alloc hb _ | exact Ext.alloc (Ext.alloc hb _) _), Ext.cell (by first | exact hb | exact Ext.alloc hb _ | exact Ext.alloc (Ext.alloc hb _) _) cOr, vBs.ext (by first | exact hb | exact Ext.alloc hb _ | exact Ext.alloc (Ext.alloc hb _) _), Ext.cell (by first | exact hb | exact Ext.alloc hb _ | exact Ext.alloc (Ext.alloc hb _) _) cOs, vBm.ext (by first | exact hb | exact Ext.alloc hb _ | exact Ext.alloc (Ext.alloc hb _) _), Ext.cell (by first | exact hb | exact Ext.alloc hb _ | exact Ext.alloc (Ext.alloc hb _) _) cOm, vBb.ext (by first | exact hb | exact Ext.alloc hb _ | exact Ext.alloc (Ext.alloc hb _) _), Ext.cell (by first | exact hb | exact Ext.alloc hb _ | exact Ext.alloc (Ext.alloc hb _) _) cOb, hv.ext (by first | exact Ext.refl _ | exact Ext.alloc (Ext.refl _) _ | exact Ext.alloc (Ext.alloc (Ext.refl _) _) _), by rw [hO]; simp [go_sem]⟩ ?_
  clear hE cPx cPy vA0 cO0 vA1 cO1 vBp cOp vBq cOq vBr cOr vBs cOs vBm cOm vBb cOb lcPx lcPy lvA0 lcO0 lvA1 lcO1 lvBp lcOp lvBq lcOq lvBr lcOr lvBs lcOs lvBm lcOm lvBb lcOb hb hc hf hz ha hO hv
  rintro V ⟨hE, cPx, cPy, vA0, cO0, vA1, cO1, vBp, cOp, vBq, cOq, vBr, cOr, vBs, cOs, vBm, cOm, vBb, cOb, vBw, cOw⟩
  have lcPx := World.block_lt_of_cell? V _ cPx
  have lcPy := World.block_lt_of_cell? V _ cPy
  have lvA0 := vA0.lt
  have lcO0 := World.block_lt_of_cell? V _ cO0
  have lvA1 := vA1.lt
  have lcO1 := World.block_lt_of_cell? V _ cO1
  have lvBp := vBp.lt
  have lcOp := World.block_lt_of_cell? V _ cOp
  have lvBq := vBq.lt
  have lcOq := World.block_lt_of_cell? V _ cOq
  have lvBr := vBr.lt
  have lcOr := World.block_lt_of_cell? V _ cOr
  have lvBs := vBs.lt
  have lcOs := World.block_lt_of_cell? V _ cOs
  have lvBm := vBm.lt
  have lcOm := World.block_lt_of_cell? V _ cOm
  have lvBb := vBb.lt
  have lcOb := World.block_lt_of_cell? V _ cOb
  have lvBw := vBw.lt
  have lcOw := World.block_lt_of_cell? V _ cOw
  refine (Grown_y Bp 0 kp (shiftL L0 (modN i)) D _ vBp (by omega)).mono ?_
  rintro e w1 ⟨Bv, kv, rfl, hB, hr, hv, hb⟩
  have hc := hb.cellE; have hf := hb.frozenE; have hz := hb.size; have ha := alloc_keeps w1; (try simp only [World.size_alloc] at hc hf hz); (try simp only [World.size_setCell] at hc hf hz); (try simp only [World.size_drew] at hc hf hz)
  replace hv : VA w1 Bv 0 (growL (shiftL L0 (modN i)) D) := hv
  clear hr hB
  go_wp2_with fail
  obtain ⟨Ov, hO⟩ : ∃ O, O = w1.heap.size := ⟨_, rfl⟩
  rw [← hO]
  refine calls_name (fun V => Ext w V ∧ V.cell? ⟨w.heap.size, 0, none⟩ = some (.int .i64 px) ∧ V.cell? ⟨w.heap.size, 1, none⟩ = some (.int .i64 py) ∧ VA V B0 0 L0 ∧ V.cell? ⟨O0, 0, none⟩ = some (.slice (some ⟨B0, 0, none⟩) 24 24) ∧ VA V B1 0 L1 ∧ V.cell? ⟨O1, 0, none⟩ = some (.slice (some ⟨B1, 0, none⟩) 24 24) ∧ VA V Bp 0 (shiftL L0 (modN i)) ∧ V.cell? ⟨Op, 0, none⟩ = some (.slice (some ⟨Bp, 0, none⟩) 24 kp) ∧ VA V Bq 0 (shiftL (shiftL L0 (modN i)) (modN k)) ∧ V.cell? ⟨Oq, 0, none⟩ = some (.slice (some ⟨Bq, 0, none⟩) 24 kq) ∧ VA V Br 0 (shiftL L0 (modN (i + k + 48))) ∧ V.cell? ⟨Or, 0, none⟩ = some (.slice (some ⟨Br, 0, none⟩) 24 kr) ∧ VA V Bs 0 (shiftL L1 (modN i)) ∧ V.cell? ⟨Os, 0, none⟩ = some (.slice (some ⟨Bs, 0, none⟩) 24 ks) ∧ VA V Bm 0 (meetL L0 L1) ∧ V.cell? ⟨Om, 0, none⟩ = some (.slice (some ⟨Bm, 0, none⟩) 24 km) ∧ VA V Bb 0 (meetL (shiftL L0 (modN i)) (shiftL L1 (modN i))) ∧ V.cell? ⟨Ob, 0, none⟩ = some (.slice (some ⟨Bb, 0, none⟩) 24 kb) ∧ VA V Bw 0 (growL L0 D) ∧ V.cell? ⟨Ow, 0, none⟩ = some (.slice (some ⟨Bw, 0, none⟩) 24 kw) ∧ VA V Bv 0 (growL (shiftL L0 (modN i)) D) ∧ V.cell? ⟨Ov, 0, none⟩ = some (.slice (some ⟨Bv, 0, none⟩) 24 kv)) ⟨hE.trans (by first | exact hb | exact Ext.alloc hb _ | exact Ext.alloc (Ext.alloc hb _) _), Ext.cell (by first | exact hb | exact Ext.alloc hb _ | exact Ext.alloc (Ext.alloc hb _) _) cPx, Ext.cell (by first | exact hb | exact Ext.alloc hb _ | exact Ext.alloc (Ext.alloc hb _) _) cPy, vA0.ext (by first | exact hb | exact Ext.alloc hb _ | exact Ext.alloc (Ext.alloc hb _) _), Ext.cell (by first | exact hb | exact Ext.alloc hb _ | exact Ext.alloc (Ext.alloc hb _) _) cO0, vA1.ext (by first | exact hb | exact Ext.alloc hb _ | exact Ext.alloc (Ext.alloc hb _) _), Ext.cell (by first | exact hb | exact Ext.alloc hb _ | exact Ext.alloc (Ext.alloc hb _) _) cO1, vBp.ext (by first | exact hb | exact Ext.alloc hb _ | exact Ext.alloc (Ext.alloc hb _) _), Ext.cell (by first | exact hb | exact Ext.alloc hb _ | exact Ext.alloc (Ext.alloc hb _) _) cOp, vBq.ext (by first | exact hb | exact Ext.alloc hb _ | exact Ext.alloc (Ext.alloc hb _) _), Ext.cell (by first | exact hb | exact Ext.alloc hb _ | exact Ext.alloc (Ext.alloc hb _) _) cOq, vBr.ext (by first | exact hb | exact Ext.alloc hb _ | exact Ext.alloc (Ext.alloc hb _) _), Ext.cell (by first | exact hb | exact Ext.alloc hb _ | exact Ext.alloc (Ext.alloc hb _) _) cOr, vBs.ext (by first | exact hb | exact Ext.alloc hb _ | exact Ext.alloc (Ext.alloc hb _) _), Ext.cell (by first | exact hb | exact Ext.alloc hb _ | exact Ext.alloc (Ext.alloc hb _) _) cOs, vBm.ext (by first | exact hb | exact Ext.alloc hb _ | exact Ext.alloc (Ext.alloc hb _) _), Ext.cell (by first | exact hb | exact Ext.alloc hb _ | exact Ext.alloc (Ext.alloc hb _) _) cOm, vBb.ext (by first | exact hb | exact Ext.alloc hb _ | exact Ext.alloc (Ext.alloc hb _) _), Ext.cell (by first | exact hb | exact Ext.alloc hb _ | exact Ext.alloc (Ext.alloc hb _) _) cOb, vBw.ext (by first | exact hb | exact Ext.alloc hb _ | exact Ext.alloc (Ext.alloc hb _) _), Ext.cell (by first | exact hb | exact Ext.alloc hb _ | exact Ext.alloc (Ext.alloc hb _) _) cOw, hv.ext (by first | exact Ext.refl _ | exact Ext.alloc (Ext.refl _) _ | exact Ext.alloc (Ext.alloc (Ext.refl _) _) _), by rw [hO]; simp [go_sem]⟩ ?_
  clear hE cPx cPy vA0 cO0 vA1 cO1 vBp cOp vBq cOq vBr cOr vBs cOs vBm cOm vBb cOb vBw cOw lcPx lcPy lvA0 lcO0 lvA1 lcO1 lvBp lcOp lvBq lcOq lvBr lcOr lvBs lcOs lvBm lcOm lvBb lcOb lvBw lcOw hb hc hf hz ha hO hv
  rintro V ⟨hE, cPx, cPy, vA0, cO0, vA1, cO1, vBp, cOp, vBq, cOq, vBr, cOr, vBs, cOs, vBm, cOm, vBb, cOb, vBw, cOw, vBv, cOv⟩
  have lcPx := World.block_lt_of_cell? V _ cPx
  have lcPy := World.block_lt_of_cell? V _ cPy
  have lvA0 := vA0.lt
  have lcO0 := World.block_lt_of_cell? V _ cO0
  have lvA1 := vA1.lt
  have lcO1 := World.block_lt_of_cell? V _ cO1
  have lvBp := vBp.lt
  have lcOp := World.block_lt_of_cell? V _ cOp
  have lvBq := vBq.lt
  have lcOq := World.block_lt_of_cell? V _ cOq
  have lvBr := vBr.lt
  have lcOr := World.block_lt_of_cell? V _ cOr
  have lvBs := vBs.lt
  have lcOs := World.block_lt_of_cell? V _ cOs
  have lvBm := vBm.lt
  have lcOm := World.block_lt_of_cell? V _ cOm
  have lvBb := vBb.lt
  have lcOb := World.block_lt_of_cell? V _ cOb
  have lvBw := vBw.lt
  have lcOw := World.block_lt_of_cell? V _ cOw
  have lvBv := vBv.lt
  have lcOv := World.block_lt_of_cell? V _ cOv
  refine (Shifted_v km i _ vBm (Ext.refl _)).mono ?_
  rintro e w1 ⟨Bt, kt, rfl, hB, hr, hv, hb⟩
  have hc := hb.cellE; have hf := hb.frozenE; have hz := hb.size; have ha := alloc_keeps w1; (try simp only [World.size_alloc] at hc hf hz); (try simp only [World.size_setCell] at hc hf hz); (try simp only [World.size_drew] at hc hf hz)
  replace hv : VA w1 Bt 0 (shiftL (meetL L0 L1) (modN i)) := hv
  clear hr hB
  go_wp2_with fail
  obtain ⟨Ot, hO⟩ : ∃ O, O = w1.heap.size := ⟨_, rfl⟩
  rw [← hO]
  refine calls_name (fun V => Ext w V ∧ V.cell? ⟨w.heap.size, 0, none⟩ = some (.int .i64 px) ∧ V.cell? ⟨w.heap.size, 1, none⟩ = some (.int .i64 py) ∧ VA V B0 0 L0 ∧ V.cell? ⟨O0, 0, none⟩ = some (.slice (some ⟨B0, 0, none⟩) 24 24) ∧ VA V B1 0 L1 ∧ V.cell? ⟨O1, 0, none⟩ = some (.slice (some ⟨B1, 0, none⟩) 24 24) ∧ VA V Bp 0 (shiftL L0 (modN i)) ∧ V.cell? ⟨Op, 0, none⟩ = some (.slice (some ⟨Bp, 0, none⟩) 24 kp) ∧ VA V Bq 0 (shiftL (shiftL L0 (modN i)) (modN k)) ∧ V.cell? ⟨Oq, 0, none⟩ = some (.slice (some ⟨Bq, 0, none⟩) 24 kq) ∧ VA V Br 0 (shiftL L0 (modN (i + k + 48))) ∧ V.cell? ⟨Or, 0, none⟩ = some (.slice (some ⟨Br, 0, none⟩) 24 kr) ∧ VA V Bs 0 (shiftL L1 (modN i)) ∧ V.cell? ⟨Os, 0, none⟩ = some (.slice (some ⟨Bs, 0, none⟩) 24 ks) ∧ VA V Bm 0 (meetL L0 L1) ∧ V.cell? ⟨Om, 0, none⟩ = some (.slice (some ⟨Bm, 0, none⟩) 24 km) ∧ VA V Bb 0 (meetL (shiftL L0 (modN i)) (shiftL L1 (modN i))) ∧ V.cell? ⟨Ob, 0, none⟩ = some (.slice (some ⟨Bb, 0, none⟩) 24 kb) ∧ VA V Bw 0 (growL L0 D) ∧ V.cell? ⟨Ow, 0, none⟩ = some (.slice (some ⟨Bw, 0, none⟩) 24 kw) ∧ VA V Bv 0 (growL (shiftL L0 (modN i)) D) ∧ V.cell? ⟨Ov, 0, none⟩ = some (.slice (some ⟨Bv, 0, none⟩) 24 kv) ∧ VA V Bt 0 (shiftL (meetL L0 L1) (modN i)) ∧ V.cell? ⟨Ot, 0, none⟩ = some (.slice (some ⟨Bt, 0, none⟩) 24 kt)) ⟨hE.trans (by first | exact hb | exact Ext.alloc hb _ | exact Ext.alloc (Ext.alloc hb _) _), Ext.cell (by first | exact hb | exact Ext.alloc hb _ | exact Ext.alloc (Ext.alloc hb _) _) cPx, Ext.cell (by first | exact hb | exact Ext.alloc hb _ | exact Ext.alloc (Ext.alloc hb _) _) cPy, vA0.ext (by first | exact hb | exact Ext.alloc hb _ | exact Ext.alloc (Ext.alloc hb _) _), Ext.cell (by first | exact hb | exact Ext.alloc hb _ | exact Ext.alloc (Ext.alloc hb _) _) cO0, vA1.ext (by first | exact hb | exact Ext.alloc hb _ | exact Ext.alloc (Ext.alloc hb _) _), Ext.cell (by first | exact hb | exact Ext.alloc hb _ | exact Ext.alloc (Ext.alloc hb _) _) cO1, vBp.ext (by first | exact hb | exact Ext.alloc hb _ | exact Ext.alloc (Ext.alloc hb _) _), Ext.cell (by first | exact hb | exact Ext.alloc hb _ | exact Ext.alloc (Ext.alloc hb _) _) cOp, vBq.ext (by first | exact hb | exact Ext.alloc hb _ | exact Ext.alloc (Ext.alloc hb _) _), Ext.cell (by first | exact hb | exact Ext.alloc hb _ | exact Ext.alloc (Ext.alloc hb _) _) cOq, vBr.ext (by first | exact hb | exact Ext.alloc hb _ | exact Ext.alloc (Ext.alloc hb _) _), Ext.cell (by first | exact hb | exact Ext.alloc hb _ | exact Ext.alloc (Ext.alloc hb _) _) cOr, vBs.ext (by first | exact hb | exact Ext.alloc hb _ | exact Ext.alloc (Ext.alloc hb _) _), Ext.cell (by first | exact hb | exact Ext.alloc hb _ | exact Ext.alloc (Ext.alloc hb _) _) cOs, vBm.ext (by first | exact hb | exact Ext.alloc hb _ | exact Ext.alloc (Ext.alloc hb _) _), Ext.cell (by first | exact hb | exact Ext.alloc hb _ | exact Ext.alloc (Ext.alloc hb _) _) cOm, vBb.ext (by first | exact hb | exact Ext.alloc hb _ | exact Ext.alloc (Ext.alloc hb _) _), Ext.cell (by first | exact hb | exact Ext.alloc hb _ | exact Ext.alloc (Ext.alloc hb _) _) cOb, vBw.ext (by first | exact hb | exact Ext.alloc hb _ | exact Ext.alloc (Ext.alloc hb _) _), Ext.cell (by first | exact hb | exact Ext.alloc hb _ | exact Ext.alloc (Ext.alloc hb _) _) cOw, vBv.ext (by first | exact hb | exact Ext.alloc hb _ | exact Ext.alloc (Ext.alloc hb _) _), Ext.cell (by first | exact hb | exact Ext.alloc hb _ | exact Ext.alloc (Ext.alloc hb _) _) cOv, hv.ext (by first | exact Ext.refl _ | exact Ext.alloc (Ext.refl _) _ | exact Ext.alloc (Ext.alloc (Ext.refl _) _) _), by rw [hO]; simp [go_sem]⟩ ?_
  clear hE cPx cPy vA0 cO0 vA1 cO1 vBp cOp vBq cOq vBr cOr vBs cOs vBm cOm vBb cOb vBw cOw vBv cOv lcPx lcPy lvA0 lcO0 lvA1 lcO1 lvBp lcOp lvBq lcOq lvBr lcOr lvBs lcOs lvBm lcOm lvBb lcOb lvBw lcOw lvBv lcOv hb hc hf hz ha hO hv
  rintro V ⟨hE, cPx, cPy, vA0, cO0, vA1, cO1, vBp, cOp, vBq, cOq, vBr, cOr, vBs, cOs, vBm, cOm, vBb, cOb, vBw, cOw, vBv, cOv, vBt, cOt⟩
  have lcPx := World.block_lt_of_cell? V _ cPx
  have lcPy := World.block_lt_of_cell? V _ cPy
  have lvA0 := vA0.lt
  have lcO0 := World.block_lt_of_cell? V _ cO0
  have lvA1 := vA1.lt
  have lcO1 := World.block_lt_of_cell? V _ cO1
  have lvBp := vBp.lt
  have lcOp := World.block_lt_of_cell? V _ cOp
  have lvBq := vBq.lt
  have lcOq := World.block_lt_of_cell? V _ cOq
  have lvBr := vBr.lt
  have lcOr := World.block_lt_of_cell? V _ cOr
  have lvBs := vBs.lt
  have lcOs := World.block_lt_of_cell? V _ cOs
  have lvBm := vBm.lt
  have lcOm := World.block_lt_of_cell? V _ cOm
  have lvBb := vBb.lt
  have lcOb := World.block_lt_of_cell? V _ cOb
  have lvBw := vBw.lt
  have lcOw := World.block_lt_of_cell? V _ cOw
  have lvBv := vBv.lt
  have lcOv := World.block_lt_of_cell? V _ cOv
  have lvBt := vBt.lt
  have lcOt := World.block_lt_of_cell? V _ cOt
  refine (Shifted_v kw i _ vBw (Ext.refl _)).mono ?_
  rintro e w1 ⟨Bu, ku, rfl, hB, hr, hv, hb⟩
  have hc := hb.cellE; have hf := hb.frozenE; have hz := hb.size; have ha := alloc_keeps w1; (try simp only [World.size_alloc] at hc hf hz); (try simp only [World.size_setCell] at hc hf hz); (try simp only [World.size_drew] at hc hf hz)
  replace hv : VA w1 Bu 0 (shiftL (growL L0 D) (modN i)) := hv
  clear hr hB
  go_wp2_with fail
  obtain ⟨Ou, hO⟩ : ∃ O, O = w1.heap.size := ⟨_, rfl⟩
  rw [← hO]
  refine calls_name (fun V => Ext w V ∧ V.cell? ⟨w.heap.size, 0, none⟩ = some (.int .i64 px) ∧ V.cell? ⟨w.heap.size, 1, none⟩ = some (.int .i64 py) ∧ VA V B0 0 L0 ∧ V.cell? ⟨O0, 0, none⟩ = some (.slice (some ⟨B0, 0, none⟩) 24 24) ∧ VA V B1 0 L1 ∧ V.cell? ⟨O1, 0, none⟩ = some (.slice (some ⟨B1, 0, none⟩) 24 24) ∧ VA V Bp 0 (shiftL L0 (modN i)) ∧ V.cell? ⟨Op, 0, none⟩ = some (.slice (some ⟨Bp, 0, none⟩) 24 kp) ∧ VA V Bq 0 (shiftL (shiftL L0 (modN i)) (modN k)) ∧ V.cell? ⟨Oq, 0, none⟩ = some (.slice (some ⟨Bq, 0, none⟩) 24 kq) ∧ VA V Br 0 (shiftL L0 (modN (i + k + 48))) ∧ V.cell? ⟨Or, 0, none⟩ = some (.slice (some ⟨Br, 0, none⟩) 24 kr) ∧ VA V Bs 0 (shiftL L1 (modN i)) ∧ V.cell? ⟨Os, 0, none⟩ = some (.slice (some ⟨Bs, 0, none⟩) 24 ks) ∧ VA V Bm 0 (meetL L0 L1) ∧ V.cell? ⟨Om, 0, none⟩ = some (.slice (some ⟨Bm, 0, none⟩) 24 km) ∧ VA V Bb 0 (meetL (shiftL L0 (modN i)) (shiftL L1 (modN i))) ∧ V.cell? ⟨Ob, 0, none⟩ = some (.slice (some ⟨Bb, 0, none⟩) 24 kb) ∧ VA V Bw 0 (growL L0 D) ∧ V.cell? ⟨Ow, 0, none⟩ = some (.slice (some ⟨Bw, 0, none⟩) 24 kw) ∧ VA V Bv 0 (growL (shiftL L0 (modN i)) D) ∧ V.cell? ⟨Ov, 0, none⟩ = some (.slice (some ⟨Bv, 0, none⟩) 24 kv) ∧ VA V Bt 0 (shiftL (meetL L0 L1) (modN i)) ∧ V.cell? ⟨Ot, 0, none⟩ = some (.slice (some ⟨Bt, 0, none⟩) 24 kt) ∧ VA V Bu 0 (shiftL (growL L0 D) (modN i)) ∧ V.cell? ⟨Ou, 0, none⟩ = some (.slice (some ⟨Bu, 0, none⟩) 24 ku)) ⟨hE.trans (by first | exact hb | exact Ext.alloc hb _ | exact Ext.alloc (Ext.alloc hb _) _), Ext.cell (by first | exact hb | exact Ext.alloc hb _ | exact Ext.alloc (Ext.alloc hb _) _) cPx, Ext.cell (by first | exact hb | exact Ext.alloc hb _ | exact Ext.alloc (Ext.alloc hb _) _) cPy, vA0.ext (by first | exact hb | exact Ext.alloc hb _ | exact Ext.alloc (Ext.alloc hb _) _), Ext.cell (by first | exact hb | exact Ext.alloc hb _ | exact Ext.alloc (Ext.alloc hb _) _) cO0, vA1.ext (by first | exact hb | exact Ext.alloc hb _ | exact Ext.alloc (Ext.alloc hb _) _), Ext.cell (by first | exact hb | exact Ext.alloc hb _ | exact Ext.alloc (Ext.alloc hb _) _) cO1, vBp.ext (by first | exact hb | exact Ext.alloc hb _ | exact Ext.alloc (Ext.alloc hb _) _), Ext.cell (by first | exact hb | exact Ext.alloc hb _ | exact Ext.alloc (Ext.alloc hb _) _) cOp, vBq.ext (by first | exact hb | exact Ext.alloc hb _ | exact Ext.alloc (Ext.alloc hb _) _), Ext.cell (by first | exact hb | exact Ext.alloc hb _ | exact Ext.alloc (Ext.alloc hb _) _) cOq, vBr.ext (by first | exact hb | exact Ext.alloc hb _ | exact Ext.alloc (Ext.alloc hb _) _), Ext.cell (by first | exact hb | exact Ext.alloc hb _ | exact Ext.alloc (Ext.alloc hb _) _) cOr, vBs.ext (by first | exact hb | exact Ext.alloc hb _ | exact Ext.alloc (Ext.alloc hb _) _), Ext.cell (by first | exact hb | exact Ext.alloc hb _ | exact Ext.alloc (Ext.alloc hb _) _) cOs, vBm.ext (by first | exact hb | exact Ext.alloc hb _ | exact Ext.alloc (Ext.alloc hb _) _), Ext.cell (by first | exact hb | exact Ext.alloc hb _ | exact Ext.alloc (Ext.alloc hb _) _) cOm, vBb.ext (by first | exact hb | exact Ext.alloc hb _ | exact Ext.alloc (Ext.alloc hb _) _), Ext.cell (by first | exact hb | exact Ext.alloc hb _ | exact Ext.alloc (Ext.alloc hb _) _) cOb, vBw.ext (by first | exact hb | exact Ext.alloc hb _ | exact Ext.alloc (Ext.alloc hb _) _), Ext.cell (by first | exact hb | exact Ext.alloc hb _ | exact Ext.alloc (Ext.alloc hb _) _) cOw, vBv.ext (by first | exact hb | exact Ext.alloc hb _ | exact Ext.alloc (Ext.alloc hb _) _), Ext.cell (by first | exact hb | exact Ext.alloc hb _ | exact Ext.alloc (Ext.alloc hb _) _) cOv, vBt.ext (by first | exact hb | exact Ext.alloc hb _ | exact Ext.alloc (Ext.alloc hb _) _), Ext.cell (by first | exact hb | exact Ext.alloc hb _ | exact Ext.alloc (Ext.alloc hb _) _) cOt, hv.ext (by first | exact Ext.refl _ | exact Ext.alloc (Ext.refl _) _ | exact Ext.alloc (Ext.alloc (Ext.refl _) _) _), by rw [hO]; simp [go_sem]⟩ ?_
  clear hE cPx cPy vA0 cO0 vA1 cO1 vBp cOp vBq cOq vBr cOr vBs cOs vBm cOm vBb cOb vBw cOw vBv cOv vBt cOt lcPx lcPy lvA0 lcO0 lvA1 lcO1 lvBp lcOp lvBq lcOq lvBr lcOr lvBs lcOs lvBm lcOm lvBb lcOb lvBw lcOw lvBv lcOv lvBt lcOt hb hc hf hz ha hO hv
  rintro V ⟨hE, cPx, cPy, vA0, cO0, vA1, cO1, vBp, cOp, vBq, cOq, vBr, cOr, vBs, cOs, vBm, cOm, vBb, cOb, vBw, cOw, vBv, cOv, vBt, cOt, vBu, cOu⟩
  have lcPx := World.block_lt_of_cell? V _ cPx
  have lcPy := World.block_lt_of_cell? V _ cPy
  have lvA0 := vA0.lt
  have lcO0 := World.block_lt_of_cell? V _ cO0
  have lvA1 := vA1.lt
  have lcO1 := World.block_lt_of_cell? V _ cO1
  have lvBp := vBp.lt
  have lcOp := World.block_lt_of_cell? V _ cOp
  have lvBq := vBq.lt
  have lcOq := World.block_lt_of_cell? V _ cOq
  have lvBr := vBr.lt
  have lcOr := World.block_lt_of_cell? V _ cOr
  have lvBs := vBs.lt
  have lcOs := World.block_lt_of_cell? V _ cOs
  have lvBm := vBm.lt
  have lcOm := World.block_lt_of_cell? V _ cOm
  have lvBb := vBb.lt
  have lcOb := World.block_lt_of_cell? V _ cOb
  have lvBw := vBw.lt
  have lcOw := World.block_lt_of_cell? V _ cOw
  have lvBv := vBv.lt
  have lcOv := World.block_lt_of_cell? V _ cOv
  have lvBt := vBt.lt
  have lcOt := World.block_lt_of_cell? V _ cOt
  have lvBu := vBu.lt
  have lcOu := World.block_lt_of_cell? V _ cOu
  refine (rSame_c kb kt _ vBb.aa (Ext.refl _) vBt.aa (Ext.refl _)).mono ?_
  rintro e w1 ⟨rfl, hb⟩
  have hc := hb.cellE; have hf := hb.frozenE; have hz := hb.size; have ha := alloc_keeps w1; (try simp only [World.size_alloc] at hc hf hz); (try simp only [World.size_setCell] at hc hf hz); (try simp only [World.size_drew] at hc hf hz)
  rw [decide_eq_true (shift_meet vA0.2 vA1.2 (modN_lt i)).symm]
  go_wp2_with fail
  refine calls_name (fun V => Ext w V ∧ V.cell? ⟨w.heap.size, 0, none⟩ = some (.int .i64 px) ∧ V.cell? ⟨w.heap.size, 1, none⟩ = some (.int .i64 py) ∧ VA V B0 0 L0 ∧ V.cell? ⟨O0, 0, none⟩ = some (.slice (some ⟨B0, 0, none⟩) 24 24) ∧ VA V B1 0 L1 ∧ V.cell? ⟨O1, 0, none⟩ = some (.slice (some ⟨B1, 0, none⟩) 24 24) ∧ VA V Bp 0 (shiftL L0 (modN i)) ∧ V.cell? ⟨Op, 0, none⟩ = some (.slice (some ⟨Bp, 0, none⟩) 24 kp) ∧ VA V Bq 0 (shiftL (shiftL L0 (modN i)) (modN k)) ∧ V.cell? ⟨Oq, 0, none⟩ = some (.slice (some ⟨Bq, 0, none⟩) 24 kq) ∧ VA V Br 0 (shiftL L0 (modN (i + k + 48))) ∧ V.cell? ⟨Or, 0, none⟩ = some (.slice (some ⟨Br, 0, none⟩) 24 kr) ∧ VA V Bs 0 (shiftL L1 (modN i)) ∧ V.cell? ⟨Os, 0, none⟩ = some (.slice (some ⟨Bs, 0, none⟩) 24 ks) ∧ VA V Bm 0 (meetL L0 L1) ∧ V.cell? ⟨Om, 0, none⟩ = some (.slice (some ⟨Bm, 0, none⟩) 24 km) ∧ VA V Bb 0 (meetL (shiftL L0 (modN i)) (shiftL L1 (modN i))) ∧ V.cell? ⟨Ob, 0, none⟩ = some (.slice (some ⟨Bb, 0, none⟩) 24 kb) ∧ VA V Bw 0 (growL L0 D) ∧ V.cell? ⟨Ow, 0, none⟩ = some (.slice (some ⟨Bw, 0, none⟩) 24 kw) ∧ VA V Bv 0 (growL (shiftL L0 (modN i)) D) ∧ V.cell? ⟨Ov, 0, none⟩ = some (.slice (some ⟨Bv, 0, none⟩) 24 kv) ∧ VA V Bt 0 (shiftL (meetL L0 L1) (modN i)) ∧ V.cell? ⟨Ot, 0, none⟩ = some (.slice (some ⟨Bt, 0, none⟩) 24 kt) ∧ VA V Bu 0 (shiftL (growL L0 D) (modN i)) ∧ V.cell? ⟨Ou, 0, none⟩ = some (.slice (some ⟨Bu, 0, none⟩) 24 ku)) ⟨hE.trans (by first | exact hb | exact Ext.alloc hb _ | exact Ext.alloc (Ext.alloc hb _) _), Ext.cell (by first | exact hb | exact Ext.alloc hb _ | exact Ext.alloc (Ext.alloc hb _) _) cPx, Ext.cell (by first | exact hb | exact Ext.alloc hb _ | exact Ext.alloc (Ext.alloc hb _) _) cPy, vA0.ext (by first | exact hb | exact Ext.alloc hb _ | exact Ext.alloc (Ext.alloc hb _) _), Ext.cell (by first | exact hb | exact Ext.alloc hb _ | exact Ext.alloc (Ext.alloc hb _) _) cO0, vA1.ext (by first | exact hb | exact Ext.alloc hb _ | exact Ext.alloc (Ext.alloc hb _) _), Ext.cell (by first | exact hb | exact Ext.alloc hb _ | exact Ext.alloc (Ext.alloc hb _) _) cO1, vBp.ext (by first | exact hb | exact Ext.alloc hb _ | exact Ext.alloc (Ext.alloc hb _) _), Ext.cell (by first | exact hb | exact Ext.alloc hb _ | exact Ext.alloc (Ext.alloc hb _) _) cOp, vBq.ext (by first | exact hb | exact Ext.alloc hb _ | exact Ext.alloc (Ext.alloc hb _) _), Ext.cell (by first | exact hb | exact Ext.alloc hb _ | exact Ext.alloc (Ext.alloc hb _) _) cOq, vBr.ext (by first | exact hb | exact Ext.alloc hb _ | exact Ext.alloc (Ext.alloc hb _) _), Ext.cell (by first | exact hb | exact Ext.alloc hb _ | exact Ext.alloc (Ext.alloc hb _) _) cOr, vBs.ext (by first | exact hb | exact Ext.alloc hb _ | exact Ext.alloc (Ext.alloc hb _) _), Ext.cell (by first | exact hb | exact Ext.alloc hb _ | exact Ext.alloc (Ext.alloc hb _) _) cOs, vBm.ext (by first | exact hb | exact Ext.alloc hb _ | exact Ext.alloc (Ext.alloc hb _) _), Ext.cell (by first | exact hb | exact Ext.alloc hb _ | exact Ext.alloc (Ext.alloc hb _) _) cOm, vBb.ext (by first | exact hb | exact Ext.alloc hb _ | exact Ext.alloc (Ext.alloc hb _) _), Ext.cell (by first | exact hb | exact Ext.alloc hb _ | exact Ext.alloc (Ext.alloc hb _) _) cOb, vBw.ext (by first | exact hb | exact Ext.alloc hb _ | exact Ext.alloc (Ext.alloc hb _) _), Ext.cell (by first | exact hb | exact Ext.alloc hb _ | exact Ext.alloc (Ext.alloc hb _) _) cOw, vBv.ext (by first | exact hb | exact Ext.alloc hb _ | exact Ext.alloc (Ext.alloc hb _) _), Ext.cell (by first | exact hb | exact Ext.alloc hb _ | exact Ext.alloc (Ext.alloc hb _) _) cOv, vBt.ext (by first | exact hb | exact Ext.alloc hb _ | exact Ext.alloc (Ext.alloc hb _) _), Ext.cell (by first | exact hb | exact Ext.alloc hb _ | exact Ext.alloc (Ext.alloc hb _) _) cOt, vBu.ext (by first | exact hb | exact Ext.alloc hb _ | exact Ext.alloc (Ext.alloc hb _) _), Ext.cell (by first | exact hb | exact Ext.alloc hb _ | exact Ext.alloc (Ext.alloc hb _) _) cOu⟩ ?_
  clear hE cPx cPy vA0 cO0 vA1 cO1 vBp cOp vBq cOq vBr cOr vBs cOs vBm cOm vBb cOb vBw cOw vBv cOv vBt cOt vBu cOu lcPx lcPy lvA0 lcO0 lvA1 lcO1 lvBp lcOp lvBq lcOq lvBr lcOr lvBs lcOs lvBm lcOm lvBb lcOb lvBw lcOw lvBv lcOv lvBt lcOt lvBu lcOu hb hc hf hz ha
  rintro V ⟨hE, cPx, cPy, vA0, cO0, vA1, cO1, vBp, cOp, vBq, cOq, vBr, cOr, vBs, cOs, vBm, cOm, vBb, cOb, vBw, cOw, vBv, cOv, vBt, cOt, vBu, cOu⟩
  have lcPx := World.block_lt_of_cell? V _ cPx
  have lcPy := World.block_lt_of_cell? V _ cPy
  have lvA0 := vA0.lt
  have lcO0 := World.block_lt_of_cell? V _ cO0
  have lvA1 := vA1.lt
  have lcO1 := World.block_lt_of_cell? V _ cO1
  have lvBp := vBp.lt
  have lcOp := World.block_lt_of_cell? V _ cOp
  have lvBq := vBq.lt
  have lcOq := World.block_lt_of_cell? V _ cOq
  have lvBr := vBr.lt
  have lcOr := World.block_lt_of_cell? V _ cOr
  have lvBs := vBs.lt
  have lcOs := World.block_lt_of_cell? V _ cOs
  have lvBm := vBm.lt
  have lcOm := World.block_lt_of_cell? V _ cOm
  have lvBb := vBb.lt
  have lcOb := World.block_lt_of_cell? V _ cOb
  have lvBw := vBw.lt
  have lcOw := World.block_lt_of_cell? V _ cOw
  have lvBv := vBv.lt
  have lcOv := World.block_lt_of_cell? V _ cOv
  have lvBt := vBt.lt
  have lcOt := World.block_lt_of_cell? V _ cOt
  have lvBu := vBu.lt
  have lcOu := World.block_lt_of_cell? V _ cOu
  refine (rSame_c kv ku _ vBv.aa (Ext.refl _) vBu.aa (Ext.refl _)).mono ?_
  rintro e w1 ⟨rfl, hb⟩
  have hc := hb.cellE; have hf := hb.frozenE; have hz := hb.size; have ha := alloc_keeps w1; (try simp only [World.size_alloc] at hc hf hz); (try simp only [World.size_setCell] at hc hf hz); (try simp only [World.size_drew] at hc hf hz)
  rw [decide_eq_true (grow_shift vA0.2 (modN_lt i) D)]
  go_wp2_with fail
  refine calls_name (fun V => Ext w V ∧ V.cell? ⟨w.heap.size, 0, none⟩ = some (.int .i64 px) ∧ V.cell? ⟨w.heap.size, 1, none⟩ = some (.int .i64 py) ∧ VA V B0 0 L0 ∧ V.cell? ⟨O0, 0, none⟩ = some (.slice (some ⟨B0, 0, none⟩) 24 24) ∧ VA V B1 0 L1 ∧ V.cell? ⟨O1, 0, none⟩ = some (.slice (some ⟨B1, 0, none⟩) 24 24) ∧ VA V Bp 0 (shiftL L0 (modN i)) ∧ V.cell? ⟨Op, 0, none⟩ = some (.slice (some ⟨Bp, 0, none⟩) 24 kp) ∧ VA V Bq 0 (shiftL (shiftL L0 (modN i)) (modN k)) ∧ V.cell? ⟨Oq, 0, none⟩ = some (.slice (some ⟨Bq, 0, none⟩) 24 kq) ∧ VA V Br 0 (shiftL L0 (modN (i + k + 48))) ∧ V.cell? ⟨Or, 0, none⟩ = some (.slice (some ⟨Br, 0, none⟩) 24 kr) ∧ VA V Bs 0 (shiftL L1 (modN i)) ∧ V.cell? ⟨Os, 0, none⟩ = some (.slice (some ⟨Bs, 0, none⟩) 24 ks) ∧ VA V Bm 0 (meetL L0 L1) ∧ V.cell? ⟨Om, 0, none⟩ = some (.slice (some ⟨Bm, 0, none⟩) 24 km) ∧ VA V Bb 0 (meetL (shiftL L0 (modN i)) (shiftL L1 (modN i))) ∧ V.cell? ⟨Ob, 0, none⟩ = some (.slice (some ⟨Bb, 0, none⟩) 24 kb) ∧ VA V Bw 0 (growL L0 D) ∧ V.cell? ⟨Ow, 0, none⟩ = some (.slice (some ⟨Bw, 0, none⟩) 24 kw) ∧ VA V Bv 0 (growL (shiftL L0 (modN i)) D) ∧ V.cell? ⟨Ov, 0, none⟩ = some (.slice (some ⟨Bv, 0, none⟩) 24 kv) ∧ VA V Bt 0 (shiftL (meetL L0 L1) (modN i)) ∧ V.cell? ⟨Ot, 0, none⟩ = some (.slice (some ⟨Bt, 0, none⟩) 24 kt) ∧ VA V Bu 0 (shiftL (growL L0 D) (modN i)) ∧ V.cell? ⟨Ou, 0, none⟩ = some (.slice (some ⟨Bu, 0, none⟩) 24 ku)) ⟨hE.trans (by first | exact hb | exact Ext.alloc hb _ | exact Ext.alloc (Ext.alloc hb _) _), Ext.cell (by first | exact hb | exact Ext.alloc hb _ | exact Ext.alloc (Ext.alloc hb _) _) cPx, Ext.cell (by first | exact hb | exact Ext.alloc hb _ | exact Ext.alloc (Ext.alloc hb _) _) cPy, vA0.ext (by first | exact hb | exact Ext.alloc hb _ | exact Ext.alloc (Ext.alloc hb _) _), Ext.cell (by first | exact hb | exact Ext.alloc hb _ | exact Ext.alloc (Ext.alloc hb _) _) cO0, vA1.ext (by first | exact hb | exact Ext.alloc hb _ | exact Ext.alloc (Ext.alloc hb _) _), Ext.cell (by first | exact hb | exact Ext.alloc hb _ | exact Ext.alloc (Ext.alloc hb _) _) cO1, vBp.ext (by first | exact hb | exact Ext.alloc hb _ | exact Ext.alloc (Ext.alloc hb _) _), Ext.cell (by first | exact hb | exact Ext.alloc hb _ | exact Ext.alloc (Ext.alloc hb _) _) cOp, vBq.ext (by first | exact hb | exact Ext.alloc hb _ | exact Ext.alloc (Ext.alloc hb _) _), Ext.cell (by first | exact hb | exact Ext.alloc hb _ | exact Ext.alloc (Ext.alloc hb _) _) cOq, vBr.ext (by first | exact hb | exact Ext.alloc hb _ | exact Ext.alloc (Ext.alloc hb _) _), Ext.cell (by first | exact hb | exact Ext.alloc hb _ | exact Ext.alloc (Ext.alloc hb _) _) cOr, vBs.ext (by first | exact hb | exact Ext.alloc hb _ | exact Ext.alloc (Ext.alloc hb _) _), Ext.cell (by first | exact hb | exact Ext.alloc hb _ | exact Ext.alloc (Ext.alloc hb _) _) cOs, vBm.ext (by first | exact hb | exact Ext.alloc hb _ | exact Ext.alloc (Ext.alloc hb _) _), Ext.cell (by first | exact hb | exact Ext.alloc hb _ | exact Ext.alloc (Ext.alloc hb _) _) cOm, vBb.ext (by first | exact hb | exact Ext.alloc hb _ | exact Ext.alloc (Ext.alloc hb _) _), Ext.cell (by first | exact hb | exact Ext.alloc hb _ | exact Ext.alloc (Ext.alloc hb _) _) cOb, vBw.ext (by first | exact hb | exact Ext.alloc hb _ | exact Ext.alloc (Ext.alloc hb _) _), Ext.cell (by first | exact hb | exact Ext.alloc hb _ | exact Ext.alloc (Ext.alloc hb _) _) cOw, vBv.ext (by first | exact hb | exact Ext.alloc hb _ | exact Ext.alloc (Ext.alloc hb _) _), Ext.cell (by first | exact hb | exact Ext.alloc hb _ | exact Ext.alloc (Ext.alloc hb _) _) cOv, vBt.ext (by first | exact hb | exact Ext.alloc hb _ | exact Ext.alloc (Ext.alloc hb _) _), Ext.cell (by first | exact hb | exact Ext.alloc hb _ | exact Ext.alloc (Ext.alloc hb _) _) cOt, vBu.ext (by first | exact hb | exact Ext.alloc hb _ | exact Ext.alloc (Ext.alloc hb _) _), Ext.cell (by first | exact hb | exact Ext.alloc hb _ | exact Ext.alloc (Ext.alloc hb _) _) cOu⟩ ?_
  clear hE cPx cPy vA0 cO0 vA1 cO1 vBp cOp vBq cOq vBr cOr vBs cOs vBm cOm vBb cOb vBw cOw vBv cOv vBt cOt vBu cOu lcPx lcPy lvA0 lcO0 lvA1 lcO1 lvBp lcOp lvBq lcOq lvBr lcOr lvBs lcOs lvBm lcOm lvBb lcOb lvBw lcOw lvBv lcOv lvBt lcOt lvBu lcOu hb hc hf hz ha
  rintro V ⟨hE, cPx, cPy, vA0, cO0, vA1, cO1, vBp, cOp, vBq, cOq, vBr, cOr, vBs, cOs, vBm, cOm, vBb, cOb, vBw, cOw, vBv, cOv, vBt, cOt, vBu, cOu⟩
  have lcPx := World.block_lt_of_cell? V _ cPx
  have lcPy := World.block_lt_of_cell? V _ cPy
  have lvA0 := vA0.lt
  have lcO0 := World.block_lt_of_cell? V _ cO0
  have lvA1 := vA1.lt
  have lcO1 := World.block_lt_of_cell? V _ cO1
  have lvBp := vBp.lt
  have lcOp := World.block_lt_of_cell? V _ cOp
  have lvBq := vBq.lt
  have lcOq := World.block_lt_of_cell? V _ cOq
  have lvBr := vBr.lt
  have lcOr := World.block_lt_of_cell? V _ cOr
  have lvBs := vBs.lt
  have lcOs := World.block_lt_of_cell? V _ cOs
  have lvBm := vBm.lt
  have lcOm := World.block_lt_of_cell? V _ cOm
  have lvBb := vBb.lt
  have lcOb := World.block_lt_of_cell? V _ cOb
  have lvBw := vBw.lt
  have lcOw := World.block_lt_of_cell? V _ cOw
  have lvBv := vBv.lt
  have lcOv := World.block_lt_of_cell? V _ cOv
  have lvBt := vBt.lt
  have lcOt := World.block_lt_of_cell? V _ cOt
  have lvBu := vBu.lt
  have lcOu := World.block_lt_of_cell? V _ cOu
  refine (rCell_c px py _ HI.out.1 HI.out.2).mono ?_
  rintro e w1 ⟨rfl, hb⟩
  have hc := hb.cellE; have hf := hb.frozenE; have hz := hb.size; have ha := alloc_keeps w1; (try simp only [World.size_alloc] at hc hf hz); (try simp only [World.size_setCell] at hc hf hz); (try simp only [World.size_drew] at hc hf hz)
  rw [HX.out.1, HX.out.2]
  go_wp2_with fail
  obtain ⟨Oz, hO⟩ : ∃ O, O = w1.heap.size := ⟨_, rfl⟩
  rw [← hO]
  refine wp_name (fun V => Ext w V ∧ VA V B0 0 L0 ∧ V.cell? ⟨O0, 0, none⟩ = some (.slice (some ⟨B0, 0, none⟩) 24 24) ∧ VA V B1 0 L1 ∧ V.cell? ⟨O1, 0, none⟩ = some (.slice (some ⟨B1, 0, none⟩) 24 24) ∧ VA V Bp 0 (shiftL L0 (modN i)) ∧ V.cell? ⟨Op, 0, none⟩ = some (.slice (some ⟨Bp, 0, none⟩) 24 kp) ∧ VA V Bq 0 (shiftL (shiftL L0 (modN i)) (modN k)) ∧ V.cell? ⟨Oq, 0, none⟩ = some (.slice (some ⟨Bq, 0, none⟩) 24 kq) ∧ VA V Br 0 (shiftL L0 (modN (i + k + 48))) ∧ V.cell? ⟨Or, 0, none⟩ = some (.slice (some ⟨Br, 0, none⟩) 24 kr) ∧ VA V Bs 0 (shiftL L1 (modN i)) ∧ V.cell? ⟨Os, 0, none⟩ = some (.slice (some ⟨Bs, 0, none⟩) 24 ks) ∧ VA V Bm 0 (meetL L0 L1) ∧ V.cell? ⟨Om, 0, none⟩ = some (.slice (some ⟨Bm, 0, none⟩) 24 km) ∧ VA V Bb 0 (meetL (shiftL L0 (modN i)) (shiftL L1 (modN i))) ∧ V.cell? ⟨Ob, 0, none⟩ = some (.slice (some ⟨Bb, 0, none⟩) 24 kb) ∧ VA V Bw 0 (growL L0 D) ∧ V.cell? ⟨Ow, 0, none⟩ = some (.slice (some ⟨Bw, 0, none⟩) 24 kw) ∧ VA V Bv 0 (growL (shiftL L0 (modN i)) D) ∧ V.cell? ⟨Ov, 0, none⟩ = some (.slice (some ⟨Bv, 0, none⟩) 24 kv) ∧ VA V Bt 0 (shiftL (meetL L0 L1) (modN i)) ∧ V.cell? ⟨Ot, 0, none⟩ = some (.slice (some ⟨Bt, 0, none⟩) 24 kt) ∧ VA V Bu 0 (shiftL (growL L0 D) (modN i)) ∧ V.cell? ⟨Ou, 0, none⟩ = some (.slice (some ⟨Bu, 0, none⟩) 24 ku) ∧ V.cell? ⟨Oz, 0, none⟩ = some (.int .i64 (X : Int)) ∧ V.cell? ⟨Oz, 1, none⟩ = some (.int .i64 (Y : Int))) ⟨hE.trans (by first | exact hb | exact Ext.alloc hb _ | exact Ext.alloc (Ext.alloc hb _) _), vA0.ext (by first | exact hb | exact Ext.alloc hb _ | exact Ext.alloc (Ext.alloc hb _) _), Ext.cell (by first | exact hb | exact Ext.alloc hb _ | exact Ext.alloc (Ext.alloc hb _) _) cO0, vA1.ext (by first | exact hb | exact Ext.alloc hb _ | exact Ext.alloc (Ext.alloc hb _) _), Ext.cell (by first | exact hb | exact Ext.alloc hb _ | exact Ext.alloc (Ext.alloc hb _) _) cO1, vBp.ext (by first | exact hb | exact Ext.alloc hb _ | exact Ext.alloc (Ext.alloc hb _) _), Ext.cell (by first | exact hb | exact Ext.alloc hb _ | exact Ext.alloc (Ext.alloc hb _) _) cOp, vBq.ext (by first | exact hb | exact Ext.alloc hb _ | exact Ext.alloc (Ext.alloc hb _) _), Ext.cell (by first | exact hb | exact Ext.alloc hb _ | exact Ext.alloc (Ext.alloc hb _) _) cOq, vBr.ext (by first | exact hb | exact Ext.alloc hb _ | exact Ext.alloc (Ext.alloc hb _) _), Ext.cell (by first | exact hb | exact Ext.alloc hb _ | exact Ext.alloc (Ext.alloc hb _) _) cOr, vBs.ext (by first | exact hb | exact Ext.alloc hb _ | exact Ext.alloc (Ext.alloc hb _) _), Ext.cell (by first | exact hb | exact Ext.alloc hb _ | exact Ext.alloc (Ext.alloc hb _) _) cOs, vBm.ext (by first | exact hb | exact Ext.alloc hb _ | exact Ext.alloc (Ext.alloc hb _) _), Ext.cell (by first | exact hb | exact Ext.alloc hb _ | exact Ext.alloc (Ext.alloc hb _) _) cOm, vBb.ext (by first | exact hb | exact Ext.alloc hb _ | exact Ext.alloc (Ext.alloc hb _) _), Ext.cell (by first | exact hb | exact Ext.alloc hb _ | exact Ext.alloc (Ext.alloc hb _) _) cOb, vBw.ext (by first | exact hb | exact Ext.alloc hb _ | exact Ext.alloc (Ext.alloc hb _) _), Ext.cell (by first | exact hb | exact Ext.alloc hb _ | exact Ext.alloc (Ext.alloc hb _) _) cOw, vBv.ext (by first | exact hb | exact Ext.alloc hb _ | exact Ext.alloc (Ext.alloc hb _) _), Ext.cell (by first | exact hb | exact Ext.alloc hb _ | exact Ext.alloc (Ext.alloc hb _) _) cOv, vBt.ext (by first | exact hb | exact Ext.alloc hb _ | exact Ext.alloc (Ext.alloc hb _) _), Ext.cell (by first | exact hb | exact Ext.alloc hb _ | exact Ext.alloc (Ext.alloc hb _) _) cOt, vBu.ext (by first | exact hb | exact Ext.alloc hb _ | exact Ext.alloc (Ext.alloc hb _) _), Ext.cell (by first | exact hb | exact Ext.alloc hb _ | exact Ext.alloc (Ext.alloc hb _) _) cOu, by rw [hO]; simp [go_sem], by rw [hO]; simp [go_sem]⟩ ?_
  clear hE cPx cPy vA0 cO0 vA1 cO1 vBp cOp vBq cOq vBr cOr vBs cOs vBm cOm vBb cOb vBw cOw vBv cOv vBt cOt vBu cOu lcPx lcPy lvA0 lcO0 lvA1 lcO1 lvBp lcOp lvBq lcOq lvBr lcOr lvBs lcOs lvBm lcOm lvBb lcOb lvBw lcOw lvBv lcOv lvBt lcOt lvBu lcOu hb hc hf hz ha hO
  rintro V ⟨hE, vA0, cO0, vA1, cO1, vBp, cOp, vBq, cOq, vBr, cOr, vBs, cOs, vBm, cOm, vBb, cOb, vBw, cOw, vBv, cOv, vBt, cOt, vBu, cOu, cOzx, cOzy⟩
  have lvA0 := vA0.lt
  have lcO0 := World.block_lt_of_cell? V _ cO0
  have lvA1 := vA1.lt
  have lcO1 := World.block_lt_of_cell? V _ cO1
  have lvBp := vBp.lt
  have lcOp := World.block_lt_of_cell? V _ cOp
  have lvBq := vBq.lt
  have lcOq := World.block_lt_of_cell? V _ cOq
  have lvBr := vBr.lt
  have lcOr := World.block_lt_of_cell? V _ cOr
  have lvBs := vBs.lt
  have lcOs := World.block_lt_of_cell? V _ cOs
  have lvBm := vBm.lt
  have lcOm := World.block_lt_of_cell? V _ cOm
  have lvBb := vBb.lt
  have lcOb := World.block_lt_of_cell? V _ cOb
  have lvBw := vBw.lt
  have lcOw := World.block_lt_of_cell? V _ cOw
  have lvBv := vBv.lt
  have lcOv := World.block_lt_of_cell? V _ cOv
  have lvBt := vBt.lt
  have lcOt := World.block_lt_of_cell? V _ cOt
  have lvBu := vBu.lt
  have lcOu := World.block_lt_of_cell? V _ cOu
  have lcOzx := World.block_lt_of_cell? V _ cOzx
  have lcOzy := World.block_lt_of_cell? V _ cOzy
  obtain ⟨X2, hX2⟩ : ∃ X2 : Nat, pickF ((X : Int) + i + 960) 48 = (X2 : Int) := ⟨(pickF ((X : Int) + i + 960) 48).toNat, by have := @pickF_bd ((X : Int) + i + 960) 48 (by omega); omega⟩
  have hX2b : X2 < 48 := by have := @pickF_bd ((X : Int) + i + 960) 48 (by omega); omega
  have hX2e : (X2 : Int) = ((X : Int) + i + 960) % 48 := by rw [← hX2, pickF_pos (by omega)]
  have Hh := Lib.hid (around_has vA0.2 hX48 hX2b hY24 hX2e)
  have k1 : IntKind.i64.wrap ((X : Int) + i) = (X : Int) + i := by rw [IntKind.wrap_i64]; omega
  have k2 : IntKind.i64.wrap ((X : Int) + i + 960) = (X : Int) + i + 960 := by rw [IntKind.wrap_i64]; omega
  have hII : IsI ((X : Int) + i + 960) := ⟨by omega, by omega⟩
  have K1 := Lib.hid k1; have K2 := Lib.hid k2; have HX2 := Lib.hid hX2; have HII := Lib.hid hII
  clear k1 k2 hX2 hX2e hII
  obtain ⟨r, hr⟩ : ∃ r, hasL L0 X Y = r := ⟨_, rfl⟩
  rw [hr] at Hh
  have Hr := Lib.hid hr; clear hr
  cases r
  all_goals
    refine wp_region_held_drew (S := fun w' => Ext V w' ∧ w'.cell? ⟨O0, 0, none⟩ = some (.slice (some ⟨B0, 0, none⟩) 24 24) ∧ w'.cell? ⟨Op, 0, none⟩ = some (.slice (some ⟨Bp, 0, none⟩) 24 kp) ∧ w'.cell? ⟨Oz, 0, none⟩ = some (.int .i64 (X : Int)) ∧ w'.cell? ⟨Oz, 1, none⟩ = some (.int .i64 (Y : Int))) (by kernel_rfl) ⟨Ext.drew (Ext.refl _), cO0, cOp, cOzx, cOzy⟩ (fun hHeld => ?_)
    (refine rg_take 0 (v := ?_) rfl (by kernel_rfl) (by kernel_rfl) (by kernel_rfl) (fun _ _ _ h => h) (by kernel_rfl) ?_ (by with_reducible assumption) ?_; rotate_left; (focus (intro w hSw; (try dsimp only at hSw); go_simp; (try with_reducible rfl))); (try simp only [Act.put, List.setIfInBounds_toArray, List.set_cons_zero, List.set_cons_succ]))
    (refine rg_take 1 (v := ?_) rfl (by kernel_rfl) (by kernel_rfl) (by kernel_rfl) (fun _ _ _ h => h) (by kernel_rfl) ?_ (by with_reducible assumption) ?_; rotate_left; (focus (intro w hSw; (try dsimp only at hSw); go_simp; (try with_reducible rfl))); (try simp only [Act.put, List.setIfInBounds_toArray, List.set_cons_zero, List.set_cons_succ]))
    (refine rg_take 2 (v := ?_) rfl (by kernel_rfl) (by kernel_rfl) (by kernel_rfl) (fun _ _ _ h => h) (by kernel_rfl) ?_ (by with_reducible assumption) ?_; rotate_left; (focus (intro w hSw; (try dsimp only at hSw); go_simp; (try with_reducible rfl))); (try simp only [Act.put, List.setIfInBounds_toArray, List.set_cons_zero, List.set_cons_succ]))
    (refine rg_take 3 (v := ?_) rfl (by kernel_rfl) (by kernel_rfl) (by kernel_rfl) (fun _ _ _ h => h) (by kernel_rfl) ?_ (by with_reducible assumption) ?_; rotate_left; (focus (intro w hSw; (try dsimp only at hSw); go_simp; (try with_reducible rfl))); (try simp only [Act.put, List.setIfInBounds_toArray, List.set_cons_zero, List.set_cons_succ]))
    (refine rg_take 5 (v := ?_) rfl (by kernel_rfl) (by kernel_rfl) (by kernel_rfl) (fun _ _ _ h => h) (by kernel_rfl) ?_ (by with_reducible assumption) ?_; rotate_left; (focus (intro w hSw; (try dsimp only at hSw); go_simp; (try with_reducible rfl))); (try simp only [Act.put, List.setIfInBounds_toArray, List.set_cons_zero, List.set_cons_succ]))
    (refine rg_take 6 (v := ?_) rfl (by kernel_rfl) (by kernel_rfl) (by kernel_rfl) (fun _ _ _ h => h) (by kernel_rfl) ?_ (by with_reducible assumption) ?_; rotate_left; (focus (intro w hSw; (try dsimp only at hSw); go_simp; (try with_reducible rfl))); (try simp only [Act.put, List.setIfInBounds_toArray, List.set_cons_zero, List.set_cons_succ]))
    (refine rg_take 7 (v := ?_) rfl (by kernel_rfl) (by kernel_rfl) (by kernel_rfl) (fun _ _ _ h => h) (by kernel_rfl) ?_ (by with_reducible assumption) ?_; rotate_left; (focus (intro w hSw; (try dsimp only at hSw); go_simp; (try with_reducible rfl))); (try simp only [Act.put, List.setIfInBounds_toArray, List.set_cons_zero, List.set_cons_succ]))
    (refine rg_take 8 (v := ?_) rfl (by kernel_rfl) (by kernel_rfl) (by kernel_rfl) (fun _ _ _ h => h) (by kernel_rfl) ?_ (by with_reducible assumption) ?_; rotate_left; (focus (intro w hSw; (try dsimp only at hSw); go_simp; (try with_reducible rfl))); (try simp only [Act.put, List.setIfInBounds_toArray, List.set_cons_zero, List.set_cons_succ]))
    (refine rg_take 9 (v := ?_) rfl (by kernel_rfl) (by kernel_rfl) (by kernel_rfl) (fun _ _ _ h => h) (by kernel_rfl) ?_ (by with_reducible assumption) ?_; rotate_left; (focus (intro w hSw; (try dsimp only at hSw); have k1 := K1.out; go_simp; (try with_reducible rfl))); (try simp only [Act.put, List.setIfInBounds_toArray, List.set_cons_zero, List.set_cons_succ]))
    (refine rg_take 10 (v := ?_) rfl (by kernel_rfl) (by kernel_rfl) (by kernel_rfl) (fun _ _ _ h => h) (by kernel_rfl) ?_ (by with_reducible assumption) ?_; rotate_left; (focus (intro w hSw; (try dsimp only at hSw); have k2 := K2.out; go_simp; (try with_reducible rfl))); (try simp only [Act.put, List.setIfInBounds_toArray, List.set_cons_zero, List.set_cons_succ]))
    (refine rg_take 12 (v := ?_) rfl (by kernel_rfl) (by kernel_rfl) (by kernel_rfl) (fun _ _ _ h => h) (by kernel_rfl) ?_ (by with_reducible assumption) ?_; rotate_left; (focus (intro w hSw; (try dsimp only at hSw); go_simp; (try with_reducible rfl))); (try simp only [Act.put, List.setIfInBounds_toArray, List.set_cons_zero, List.set_cons_succ]))
    (refine rg_take 13 (v := ?_) rfl (by kernel_rfl) (by kernel_rfl) (by kernel_rfl) (fun _ _ _ h => h) (by kernel_rfl) ?_ (by with_reducible assumption) ?_; rotate_left; (focus (intro w hSw; (try dsimp only at hSw); go_simp; (try with_reducible rfl))); (try simp only [Act.put, List.setIfInBounds_toArray, List.set_cons_zero, List.set_cons_succ]))
    (refine rg_step 4 rfl (by kernel_rfl) (by kernel_rfl) (fun K hK => ?_); go_simp; (go_at_call 31; refine (Has_r _ _ vA0 hHeld.1 hX48 hY24 Hr.out).mono ?_; rintro e w1 ⟨rfl, hb⟩); refine hK.out _ _ (⟨hHeld.1.trans hb, hb.cell hHeld.2.1, hb.cell hHeld.2.2.1, hb.cell hHeld.2.2.2.1, hb.cell hHeld.2.2.2.2⟩) (fun hHeld => ?_); clear hK K; (try simp only [Act.put, List.setIfInBounds_toArray, List.set_cons_zero, List.set_cons_succ]))
    (refine rg_step 11 rfl (by kernel_rfl) (by kernel_rfl) (fun K hK => ?_); go_simp; (go_at_call 12; refine (pick_c _ 48 _ HII.out (by decide) (by decide)).mono ?_; rintro e w1 ⟨rfl, rfl⟩; rw [HX2.out]); refine hK.out _ _ (hHeld) (fun hHeld => ?_); clear hK K; (try simp only [Act.put, List.setIfInBounds_toArray, List.set_cons_zero, List.set_cons_succ]))
    (refine rg_take 14 (v := ?_) rfl (by kernel_rfl) (by kernel_rfl) (by kernel_rfl) (fun _ _ _ h => h) (by kernel_rfl) ?_ (by with_reducible assumption) ?_; rotate_left; (focus (intro w hSw; (try dsimp only at hSw); go_simp; (try with_reducible rfl))); (try simp only [Act.put, List.setIfInBounds_toArray, List.set_cons_zero, List.set_cons_succ]))
    (refine rg_step 15 rfl (by kernel_rfl) (by kernel_rfl) (fun K hK => ?_); go_simp; (go_at_call 31; refine (Has_r _ _ vBp hHeld.1 hX2b hY24 Hh.out).mono ?_; rintro e w1 ⟨rfl, hb⟩); refine hK.out _ _ (⟨hHeld.1.trans hb, hb.cell hHeld.2.1, hb.cell hHeld.2.2.1, hb.cell hHeld.2.2.2.1, hb.cell hHeld.2.2.2.2⟩) (fun hHeld => ?_); clear hK K; (try simp only [Act.put, List.setIfInBounds_toArray, List.set_cons_zero, List.set_cons_succ]))
    (refine rg_take 16 (v := ?_) rfl (by kernel_rfl) (by kernel_rfl) (by kernel_rfl) (fun _ _ _ h => h) (by kernel_rfl) ?_ (by with_reducible assumption) ?_; rotate_left; (focus (intro w hSw; (try dsimp only at hSw); go_simp; (try with_reducible rfl))); (try simp only [Act.put, List.setIfInBounds_toArray, List.set_cons_zero, List.set_cons_succ]))
    (refine rg_take 17 (v := ?_) rfl (by kernel_rfl) (by kernel_rfl) (by kernel_rfl) (fun _ _ _ h => h) (by kernel_rfl) ?_ (by with_reducible assumption) ?_; rotate_left; (focus (intro w hSw; (try dsimp only at hSw); go_simp; (try with_reducible rfl))); (try simp only [Act.put, List.setIfInBounds_toArray, List.set_cons_zero, List.set_cons_succ]))
    (refine rg_take 18 (v := ?_) rfl (by kernel_rfl) (by kernel_rfl) (by kernel_rfl) (fun _ _ _ h => h) (by kernel_rfl) ?_ (by with_reducible assumption) ?_; rotate_left; (focus (intro w hSw; (try dsimp only at hSw); go_simp; (try with_reducible rfl))); (try simp only [Act.put, List.setIfInBounds_toArray, List.set_cons_zero, List.set_cons_succ]))
    refine wpAnyH_done (by kernel_rfl) ?_ _
    go_wp2
    have hE' := hHeld.1
    go_ret
    exact ⟨rfl, by (repeat' (first | (with_reducible assumption) | (with_reducible exact Ext.refl _) | (with_reducible refine Ext.alloc ?_ _) | (with_reducible refine Ext.drew ?_) | (with_reducible refine Ext.drewN ?_ _) | (with_reducible refine Ext.setCell ?_ ?_ _) | (with_reducible refine Ext.trans ?_ (by assumption)) | go_size))⟩

end Go.Proofs.YtnfknekbbdfdfaaDoor
