/- The walk of the law GlobeSets. -/
import Derived.Test.YtnfknekbbdfdfaaDoorYA
namespace Go.Proofs.YtnfknekbbdfdfaaDoor
open Go.RowKit
open Globe

set_option maxRecDepth 100000 in
set_option maxHeartbeats 8000000 in
theorem GlobeSets_walk (w : World) (v0 : Value) (o0 : Quads w v0) (v1 : Value) (o1 : Quads w v1) (v2 : Value) (o2 : Pair v2) (hT : Tab w) :
    Calls Tryd.prog 4 #[v0, v1, v2] w fun e w' => e = .returned (.bool true) ∧ Ext w w' := by
  obtain ⟨a0, n0, c0, q0, rfl, hn0, Q0⟩ := o0
  obtain ⟨a1, n1, c1, q1, rfl, hn1, Q1⟩ := o1
  obtain ⟨px, py, rfl, ix, iy⟩ := o2
  have HT := Lib.hid hT; clear hT
  obtain ⟨X, hX⟩ : ∃ X : Nat, pickF px 48 = (X : Int) := ⟨(pickF px 48).toNat, by have := @pickF_bd px 48 (by omega); omega⟩
  obtain ⟨Y, hY⟩ : ∃ Y : Nat, pickF py 24 = (Y : Int) := ⟨(pickF py 24).toNat, by have := @pickF_bd py 24 (by omega); omega⟩
  have hX48 : X < 48 := by have := @pickF_bd px 48 (by omega); omega
  have hY24 : Y < 24 := by have := @pickF_bd py 24 (by omega); omega
  have HX := Lib.hid (And.intro hX hY); clear hX hY
  have HI := Lib.hid (And.intro ix iy); clear ix iy
  go_enter Tryd.func4, Tryd.ntmps4
  go_wp2_with fail
  refine calls_name (fun V => Ext w V ∧ V.cell? ⟨w.heap.size, 0, none⟩ = some (.int .i64 px) ∧ V.cell? ⟨w.heap.size, 1, none⟩ = some (.int .i64 py)) ⟨by (repeat' (first | (with_reducible assumption) | (with_reducible exact Ext.refl _) | (with_reducible refine Ext.alloc ?_ _) | (with_reducible refine Ext.drew ?_) | (with_reducible refine Ext.drewN ?_ _) | (with_reducible refine Ext.setCell ?_ ?_ _) | (with_reducible refine Ext.trans ?_ (by assumption)) | go_size)), by simp [go_sem], by simp [go_sem]⟩ ?_
  rintro V ⟨hE, cPx, cPy⟩
  have lcPx := World.block_lt_of_cell? V _ cPx
  have lcPy := World.block_lt_of_cell? V _ cPy
  refine (sane_c _ (HT.out.ext hE)).mono ?_
  rintro e w1 ⟨rfl, hb⟩
  have hc := hb.cellE; have hf := hb.frozenE; have hz := hb.size; have ha := alloc_keeps w1; (try simp only [World.size_alloc] at hc hf hz); (try simp only [World.size_setCell] at hc hf hz); (try simp only [World.size_drew] at hc hf hz)
  go_wp2_with fail
  refine calls_name (fun V => Ext w V ∧ V.cell? ⟨w.heap.size, 0, none⟩ = some (.int .i64 px) ∧ V.cell? ⟨w.heap.size, 1, none⟩ = some (.int .i64 py)) ⟨hE.trans (by first | exact hb | exact Ext.alloc hb _ | exact Ext.alloc (Ext.alloc hb _) _), Ext.cell (by first | exact hb | exact Ext.alloc hb _ | exact Ext.alloc (Ext.alloc hb _) _) cPx, Ext.cell (by first | exact hb | exact Ext.alloc hb _ | exact Ext.alloc (Ext.alloc hb _) _) cPy⟩ ?_
  clear hE cPx cPy lcPx lcPy hb hc hf hz ha
  rintro V ⟨hE, cPx, cPy⟩
  have lcPx := World.block_lt_of_cell? V _ cPx
  have lcPy := World.block_lt_of_cell? V _ cPy
  refine (Made_c c0 _ (Q0) hE hn0).mono ?_
  rintro e w1 ⟨B0, L0, rfl, hB, hvl, hr, hv, hb⟩
  have hc := hb.cellE; have hf := hb.frozenE; have hz := hb.size; have ha := alloc_keeps w1; (try simp only [World.size_alloc] at hc hf hz); (try simp only [World.size_setCell] at hc hf hz); (try simp only [World.size_drew] at hc hf hz)
  clear hr hB hvl
  go_wp2_with fail
  obtain ⟨O0, hO⟩ : ∃ O, O = w1.heap.size := ⟨_, rfl⟩
  rw [← hO]
  refine calls_name (fun V => Ext w V ∧ V.cell? ⟨w.heap.size, 0, none⟩ = some (.int .i64 px) ∧ V.cell? ⟨w.heap.size, 1, none⟩ = some (.int .i64 py) ∧ VA V B0 0 L0 ∧ V.cell? ⟨O0, 0, none⟩ = some (.slice (some ⟨B0, 0, none⟩) 24 24)) ⟨hE.trans (by first | exact hb | exact Ext.alloc hb _ | exact Ext.alloc (Ext.alloc hb _) _), Ext.cell (by first | exact hb | exact Ext.alloc hb _ | exact Ext.alloc (Ext.alloc hb _) _) cPx, Ext.cell (by first | exact hb | exact Ext.alloc hb _ | exact Ext.alloc (Ext.alloc hb _) _) cPy, hv.ext (by first | exact Ext.refl _ | exact Ext.alloc (Ext.refl _) _ | exact Ext.alloc (Ext.alloc (Ext.refl _) _) _), by rw [hO]; simp [go_sem]⟩ ?_
  clear hE cPx cPy lcPx lcPy hb hc hf hz ha hO hv
  rintro V ⟨hE, cPx, cPy, vA0, cO0⟩
  have lcPx := World.block_lt_of_cell? V _ cPx
  have lcPy := World.block_lt_of_cell? V _ cPy
  have lvA0 := vA0.lt
  have lcO0 := World.block_lt_of_cell? V _ cO0
  refine (Made_c c1 _ (Q1) hE hn1).mono ?_
  rintro e w1 ⟨B1, L1, rfl, hB, hvl, hr, hv, hb⟩
  have hc := hb.cellE; have hf := hb.frozenE; have hz := hb.size; have ha := alloc_keeps w1; (try simp only [World.size_alloc] at hc hf hz); (try simp only [World.size_setCell] at hc hf hz); (try simp only [World.size_drew] at hc hf hz)
  clear hr hB hvl
  go_wp2_with fail
  obtain ⟨O1, hO⟩ : ∃ O, O = w1.heap.size := ⟨_, rfl⟩
  rw [← hO]
  refine calls_name (fun V => Ext w V ∧ V.cell? ⟨w.heap.size, 0, none⟩ = some (.int .i64 px) ∧ V.cell? ⟨w.heap.size, 1, none⟩ = some (.int .i64 py) ∧ VA V B0 0 L0 ∧ V.cell? ⟨O0, 0, none⟩ = some (.slice (some ⟨B0, 0, none⟩) 24 24) ∧ VA V B1 0 L1 ∧ V.cell? ⟨O1, 0, none⟩ = some (.slice (some ⟨B1, 0, none⟩) 24 24)) ⟨hE.trans (by first | exact hb | exact Ext.alloc hb _ | exact Ext.alloc (Ext.alloc hb _) _), Ext.cell (by first | exact hb | exact Ext.alloc hb _ | exact Ext.alloc (Ext.alloc hb _) _) cPx, Ext.cell (by first | exact hb | exact Ext.alloc hb _ | exact Ext.alloc (Ext.alloc hb _) _) cPy, vA0.ext (by first | exact hb | exact Ext.alloc hb _ | exact Ext.alloc (Ext.alloc hb _) _), Ext.cell (by first | exact hb | exact Ext.alloc hb _ | exact Ext.alloc (Ext.alloc hb _) _) cO0, hv.ext (by first | exact Ext.refl _ | exact Ext.alloc (Ext.refl _) _ | exact Ext.alloc (Ext.alloc (Ext.refl _) _) _), by rw [hO]; simp [go_sem]⟩ ?_
  clear hE cPx cPy vA0 cO0 lcPx lcPy lvA0 lcO0 hb hc hf hz ha hO hv
  rintro V ⟨hE, cPx, cPy, vA0, cO0, vA1, cO1⟩
  have lcPx := World.block_lt_of_cell? V _ cPx
  have lcPy := World.block_lt_of_cell? V _ cPy
  have lvA0 := vA0.lt
  have lcO0 := World.block_lt_of_cell? V _ cO0
  have lvA1 := vA1.lt
  have lcO1 := World.block_lt_of_cell? V _ cO1
  refine (Union_v 24 24 _ vA0 (Ext.refl _) vA1 (Ext.refl _)).mono ?_
  rintro e w1 ⟨Bu, ku, rfl, hB, hr, hv, hb⟩
  have hc := hb.cellE; have hf := hb.frozenE; have hz := hb.size; have ha := alloc_keeps w1; (try simp only [World.size_alloc] at hc hf hz); (try simp only [World.size_setCell] at hc hf hz); (try simp only [World.size_drew] at hc hf hz)
  clear hr hB
  go_wp2_with fail
  obtain ⟨Ou, hO⟩ : ∃ O, O = w1.heap.size := ⟨_, rfl⟩
  rw [← hO]
  refine calls_name (fun V => Ext w V ∧ V.cell? ⟨w.heap.size, 0, none⟩ = some (.int .i64 px) ∧ V.cell? ⟨w.heap.size, 1, none⟩ = some (.int .i64 py) ∧ VA V B0 0 L0 ∧ V.cell? ⟨O0, 0, none⟩ = some (.slice (some ⟨B0, 0, none⟩) 24 24) ∧ VA V B1 0 L1 ∧ V.cell? ⟨O1, 0, none⟩ = some (.slice (some ⟨B1, 0, none⟩) 24 24) ∧ VA V Bu 0 (unionL L0 L1) ∧ V.cell? ⟨Ou, 0, none⟩ = some (.slice (some ⟨Bu, 0, none⟩) 24 ku)) ⟨hE.trans (by first | exact hb | exact Ext.alloc hb _ | exact Ext.alloc (Ext.alloc hb _) _), Ext.cell (by first | exact hb | exact Ext.alloc hb _ | exact Ext.alloc (Ext.alloc hb _) _) cPx, Ext.cell (by first | exact hb | exact Ext.alloc hb _ | exact Ext.alloc (Ext.alloc hb _) _) cPy, vA0.ext (by first | exact hb | exact Ext.alloc hb _ | exact Ext.alloc (Ext.alloc hb _) _), Ext.cell (by first | exact hb | exact Ext.alloc hb _ | exact Ext.alloc (Ext.alloc hb _) _) cO0, vA1.ext (by first | exact hb | exact Ext.alloc hb _ | exact Ext.alloc (Ext.alloc hb _) _), Ext.cell (by first | exact hb | exact Ext.alloc hb _ | exact Ext.alloc (Ext.alloc hb _) _) cO1, hv.ext (by first | exact Ext.refl _ | exact Ext.alloc (Ext.refl _) _ | exact Ext.alloc (Ext.alloc (Ext.refl _) _) _), by rw [hO]; simp [go_sem]⟩ ?_
  clear hE cPx cPy vA0 cO0 vA1 cO1 lcPx lcPy lvA0 lcO0 lvA1 lcO1 hb hc hf hz ha hO hv
  rintro V ⟨hE, cPx, cPy, vA0, cO0, vA1, cO1, vBu, cOu⟩
  have lcPx := World.block_lt_of_cell? V _ cPx
  have lcPy := World.block_lt_of_cell? V _ cPy
  have lvA0 := vA0.lt
  have lcO0 := World.block_lt_of_cell? V _ cO0
  have lvA1 := vA1.lt
  have lcO1 := World.block_lt_of_cell? V _ cO1
  have lvBu := vBu.lt
  have lcOu := World.block_lt_of_cell? V _ cOu
  refine (Meet_v 24 24 _ vA0 (Ext.refl _) vA1 (Ext.refl _)).mono ?_
  rintro e w1 ⟨Bm, km, rfl, hB, hr, hv, hb⟩
  have hc := hb.cellE; have hf := hb.frozenE; have hz := hb.size; have ha := alloc_keeps w1; (try simp only [World.size_alloc] at hc hf hz); (try simp only [World.size_setCell] at hc hf hz); (try simp only [World.size_drew] at hc hf hz)
  clear hr hB
  go_wp2_with fail
  obtain ⟨Om, hO⟩ : ∃ O, O = w1.heap.size := ⟨_, rfl⟩
  rw [← hO]
  refine calls_name (fun V => Ext w V ∧ V.cell? ⟨w.heap.size, 0, none⟩ = some (.int .i64 px) ∧ V.cell? ⟨w.heap.size, 1, none⟩ = some (.int .i64 py) ∧ VA V B0 0 L0 ∧ V.cell? ⟨O0, 0, none⟩ = some (.slice (some ⟨B0, 0, none⟩) 24 24) ∧ VA V B1 0 L1 ∧ V.cell? ⟨O1, 0, none⟩ = some (.slice (some ⟨B1, 0, none⟩) 24 24) ∧ VA V Bu 0 (unionL L0 L1) ∧ V.cell? ⟨Ou, 0, none⟩ = some (.slice (some ⟨Bu, 0, none⟩) 24 ku) ∧ VA V Bm 0 (meetL L0 L1) ∧ V.cell? ⟨Om, 0, none⟩ = some (.slice (some ⟨Bm, 0, none⟩) 24 km)) ⟨hE.trans (by first | exact hb | exact Ext.alloc hb _ | exact Ext.alloc (Ext.alloc hb _) _), Ext.cell (by first | exact hb | exact Ext.alloc hb _ | exact Ext.alloc (Ext.alloc hb _) _) cPx, Ext.cell (by first | exact hb | exact Ext.alloc hb _ | exact Ext.alloc (Ext.alloc hb _) _) cPy, vA0.ext (by first | exact hb | exact Ext.alloc hb _ | exact Ext.alloc (Ext.alloc hb _) _), Ext.cell (by first | exact hb | exact Ext.alloc hb _ | exact Ext.alloc (Ext.alloc hb _) _) cO0, vA1.ext (by first | exact hb | exact Ext.alloc hb _ | exact Ext.alloc (Ext.alloc hb _) _), Ext.cell (by first | exact hb | exact Ext.alloc hb _ | exact Ext.alloc (Ext.alloc hb _) _) cO1, vBu.ext (by first | exact hb | exact Ext.alloc hb _ | exact Ext.alloc (Ext.alloc hb _) _), Ext.cell (by first | exact hb | exact Ext.alloc hb _ | exact Ext.alloc (Ext.alloc hb _) _) cOu, hv.ext (by first | exact Ext.refl _ | exact Ext.alloc (Ext.refl _) _ | exact Ext.alloc (Ext.alloc (Ext.refl _) _) _), by rw [hO]; simp [go_sem]⟩ ?_
  clear hE cPx cPy vA0 cO0 vA1 cO1 vBu cOu lcPx lcPy lvA0 lcO0 lvA1 lcO1 lvBu lcOu hb hc hf hz ha hO hv
  rintro V ⟨hE, cPx, cPy, vA0, cO0, vA1, cO1, vBu, cOu, vBm, cOm⟩
  have lcPx := World.block_lt_of_cell? V _ cPx
  have lcPy := World.block_lt_of_cell? V _ cPy
  have lvA0 := vA0.lt
  have lcO0 := World.block_lt_of_cell? V _ cO0
  have lvA1 := vA1.lt
  have lcO1 := World.block_lt_of_cell? V _ cO1
  have lvBu := vBu.lt
  have lcOu := World.block_lt_of_cell? V _ cOu
  have lvBm := vBm.lt
  have lcOm := World.block_lt_of_cell? V _ cOm
  refine (Less_v 24 24 _ vA0 (Ext.refl _) vA1 (Ext.refl _)).mono ?_
  rintro e w1 ⟨Bd, kd, rfl, hB, hr, hv, hb⟩
  have hc := hb.cellE; have hf := hb.frozenE; have hz := hb.size; have ha := alloc_keeps w1; (try simp only [World.size_alloc] at hc hf hz); (try simp only [World.size_setCell] at hc hf hz); (try simp only [World.size_drew] at hc hf hz)
  clear hr hB
  go_wp2_with fail
  obtain ⟨Od, hO⟩ : ∃ O, O = w1.heap.size := ⟨_, rfl⟩
  rw [← hO]
  refine calls_name (fun V => Ext w V ∧ V.cell? ⟨w.heap.size, 0, none⟩ = some (.int .i64 px) ∧ V.cell? ⟨w.heap.size, 1, none⟩ = some (.int .i64 py) ∧ VA V B0 0 L0 ∧ V.cell? ⟨O0, 0, none⟩ = some (.slice (some ⟨B0, 0, none⟩) 24 24) ∧ VA V B1 0 L1 ∧ V.cell? ⟨O1, 0, none⟩ = some (.slice (some ⟨B1, 0, none⟩) 24 24) ∧ VA V Bu 0 (unionL L0 L1) ∧ V.cell? ⟨Ou, 0, none⟩ = some (.slice (some ⟨Bu, 0, none⟩) 24 ku) ∧ VA V Bm 0 (meetL L0 L1) ∧ V.cell? ⟨Om, 0, none⟩ = some (.slice (some ⟨Bm, 0, none⟩) 24 km) ∧ VA V Bd 0 (lessL L0 L1) ∧ V.cell? ⟨Od, 0, none⟩ = some (.slice (some ⟨Bd, 0, none⟩) 24 kd)) ⟨hE.trans (by first | exact hb | exact Ext.alloc hb _ | exact Ext.alloc (Ext.alloc hb _) _), Ext.cell (by first | exact hb | exact Ext.alloc hb _ | exact Ext.alloc (Ext.alloc hb _) _) cPx, Ext.cell (by first | exact hb | exact Ext.alloc hb _ | exact Ext.alloc (Ext.alloc hb _) _) cPy, vA0.ext (by first | exact hb | exact Ext.alloc hb _ | exact Ext.alloc (Ext.alloc hb _) _), Ext.cell (by first | exact hb | exact Ext.alloc hb _ | exact Ext.alloc (Ext.alloc hb _) _) cO0, vA1.ext (by first | exact hb | exact Ext.alloc hb _ | exact Ext.alloc (Ext.alloc hb _) _), Ext.cell (by first | exact hb | exact Ext.alloc hb _ | exact Ext.alloc (Ext.alloc hb _) _) cO1, vBu.ext (by first | exact hb | exact Ext.alloc hb _ | exact Ext.alloc (Ext.alloc hb _) _), Ext.cell (by first | exact hb | exact Ext.alloc hb _ | exact Ext.alloc (Ext.alloc hb _) _) cOu, vBm.ext (by first | exact hb | exact Ext.alloc hb _ | exact Ext.alloc (Ext.alloc hb _) _), Ext.cell (by first | exact hb | exact Ext.alloc hb _ | exact Ext.alloc (Ext.alloc hb _) _) cOm, hv.ext (by first | exact Ext.refl _ | exact Ext.alloc (Ext.refl _) _ | exact Ext.alloc (Ext.alloc (Ext.refl _) _) _), by rw [hO]; simp [go_sem]⟩ ?_
  clear hE cPx cPy vA0 cO0 vA1 cO1 vBu cOu vBm cOm lcPx lcPy lvA0 lcO0 lvA1 lcO1 lvBu lcOu lvBm lcOm hb hc hf hz ha hO hv
  rintro V ⟨hE, cPx, cPy, vA0, cO0, vA1, cO1, vBu, cOu, vBm, cOm, vBd, cOd⟩
  have lcPx := World.block_lt_of_cell? V _ cPx
  have lcPy := World.block_lt_of_cell? V _ cPy
  have lvA0 := vA0.lt
  have lcO0 := World.block_lt_of_cell? V _ cO0
  have lvA1 := vA1.lt
  have lcO1 := World.block_lt_of_cell? V _ cO1
  have lvBu := vBu.lt
  have lcOu := World.block_lt_of_cell? V _ cOu
  have lvBm := vBm.lt
  have lcOm := World.block_lt_of_cell? V _ cOm
  have lvBd := vBd.lt
  have lcOd := World.block_lt_of_cell? V _ cOd
  refine (rCell_c px py _ HI.out.1 HI.out.2).mono ?_
  rintro e w1 ⟨rfl, hb⟩
  have hc := hb.cellE; have hf := hb.frozenE; have hz := hb.size; have ha := alloc_keeps w1; (try simp only [World.size_alloc] at hc hf hz); (try simp only [World.size_setCell] at hc hf hz); (try simp only [World.size_drew] at hc hf hz)
  rw [HX.out.1, HX.out.2]
  go_wp2_with fail
  obtain ⟨Op, hO⟩ : ∃ O, O = w1.heap.size := ⟨_, rfl⟩
  rw [← hO]
  refine calls_name (fun V => Ext w V ∧ VA V B0 0 L0 ∧ V.cell? ⟨O0, 0, none⟩ = some (.slice (some ⟨B0, 0, none⟩) 24 24) ∧ VA V B1 0 L1 ∧ V.cell? ⟨O1, 0, none⟩ = some (.slice (some ⟨B1, 0, none⟩) 24 24) ∧ VA V Bu 0 (unionL L0 L1) ∧ V.cell? ⟨Ou, 0, none⟩ = some (.slice (some ⟨Bu, 0, none⟩) 24 ku) ∧ VA V Bm 0 (meetL L0 L1) ∧ V.cell? ⟨Om, 0, none⟩ = some (.slice (some ⟨Bm, 0, none⟩) 24 km) ∧ VA V Bd 0 (lessL L0 L1) ∧ V.cell? ⟨Od, 0, none⟩ = some (.slice (some ⟨Bd, 0, none⟩) 24 kd) ∧ V.cell? ⟨Op, 0, none⟩ = some (.int .i64 (X : Int)) ∧ V.cell? ⟨Op, 1, none⟩ = some (.int .i64 (Y : Int))) ⟨hE.trans (by first | exact hb | exact Ext.alloc hb _ | exact Ext.alloc (Ext.alloc hb _) _), vA0.ext (by first | exact hb | exact Ext.alloc hb _ | exact Ext.alloc (Ext.alloc hb _) _), Ext.cell (by first | exact hb | exact Ext.alloc hb _ | exact Ext.alloc (Ext.alloc hb _) _) cO0, vA1.ext (by first | exact hb | exact Ext.alloc hb _ | exact Ext.alloc (Ext.alloc hb _) _), Ext.cell (by first | exact hb | exact Ext.alloc hb _ | exact Ext.alloc (Ext.alloc hb _) _) cO1, vBu.ext (by first | exact hb | exact Ext.alloc hb _ | exact Ext.alloc (Ext.alloc hb _) _), Ext.cell (by first | exact hb | exact Ext.alloc hb _ | exact Ext.alloc (Ext.alloc hb _) _) cOu, vBm.ext (by first | exact hb | exact Ext.alloc hb _ | exact Ext.alloc (Ext.alloc hb _) _), Ext.cell (by first | exact hb | exact Ext.alloc hb _ | exact Ext.alloc (Ext.alloc hb _) _) cOm, vBd.ext (by first | exact hb | exact Ext.alloc hb _ | exact Ext.alloc (Ext.alloc hb _) _), Ext.cell (by first | exact hb | exact Ext.alloc hb _ | exact Ext.alloc (Ext.alloc hb _) _) cOd, by rw [hO]; simp [go_sem], by rw [hO]; simp [go_sem]⟩ ?_
  clear hE cPx cPy vA0 cO0 vA1 cO1 vBu cOu vBm cOm vBd cOd lcPx lcPy lvA0 lcO0 lvA1 lcO1 lvBu lcOu lvBm lcOm lvBd lcOd hb hc hf hz ha hO
  rintro V ⟨hE, vA0, cO0, vA1, cO1, vBu, cOu, vBm, cOm, vBd, cOd, cOpx, cOpy⟩
  have lvA0 := vA0.lt
  have lcO0 := World.block_lt_of_cell? V _ cO0
  have lvA1 := vA1.lt
  have lcO1 := World.block_lt_of_cell? V _ cO1
  have lvBu := vBu.lt
  have lcOu := World.block_lt_of_cell? V _ cOu
  have lvBm := vBm.lt
  have lcOm := World.block_lt_of_cell? V _ cOm
  have lvBd := vBd.lt
  have lcOd := World.block_lt_of_cell? V _ cOd
  have lcOpx := World.block_lt_of_cell? V _ cOpx
  have lcOpy := World.block_lt_of_cell? V _ cOpy
  refine (Has_y B0 0 24 L0 X Y _ vA0.1 vA0.2 hX48 hY24).mono ?_
  rintro e w1 ⟨rfl, hb⟩
  have hc := hb.cellE; have hf := hb.frozenE; have hz := hb.size; have ha := alloc_keeps w1; (try simp only [World.size_alloc] at hc hf hz); (try simp only [World.size_setCell] at hc hf hz); (try simp only [World.size_drew] at hc hf hz)
  go_wp2_with fail
  refine calls_name (fun V => Ext w V ∧ VA V B0 0 L0 ∧ V.cell? ⟨O0, 0, none⟩ = some (.slice (some ⟨B0, 0, none⟩) 24 24) ∧ VA V B1 0 L1 ∧ V.cell? ⟨O1, 0, none⟩ = some (.slice (some ⟨B1, 0, none⟩) 24 24) ∧ VA V Bu 0 (unionL L0 L1) ∧ V.cell? ⟨Ou, 0, none⟩ = some (.slice (some ⟨Bu, 0, none⟩) 24 ku) ∧ VA V Bm 0 (meetL L0 L1) ∧ V.cell? ⟨Om, 0, none⟩ = some (.slice (some ⟨Bm, 0, none⟩) 24 km) ∧ VA V Bd 0 (lessL L0 L1) ∧ V.cell? ⟨Od, 0, none⟩ = some (.slice (some ⟨Bd, 0, none⟩) 24 kd) ∧ V.cell? ⟨Op, 0, none⟩ = some (.int .i64 (X : Int)) ∧ V.cell? ⟨Op, 1, none⟩ = some (.int .i64 (Y : Int))) ⟨hE.trans (by first | exact hb | exact Ext.alloc hb _ | exact Ext.alloc (Ext.alloc hb _) _), vA0.ext (by first | exact hb | exact Ext.alloc hb _ | exact Ext.alloc (Ext.alloc hb _) _), Ext.cell (by first | exact hb | exact Ext.alloc hb _ | exact Ext.alloc (Ext.alloc hb _) _) cO0, vA1.ext (by first | exact hb | exact Ext.alloc hb _ | exact Ext.alloc (Ext.alloc hb _) _), Ext.cell (by first | exact hb | exact Ext.alloc hb _ | exact Ext.alloc (Ext.alloc hb _) _) cO1, vBu.ext (by first | exact hb | exact Ext.alloc hb _ | exact Ext.alloc (Ext.alloc hb _) _), Ext.cell (by first | exact hb | exact Ext.alloc hb _ | exact Ext.alloc (Ext.alloc hb _) _) cOu, vBm.ext (by first | exact hb | exact Ext.alloc hb _ | exact Ext.alloc (Ext.alloc hb _) _), Ext.cell (by first | exact hb | exact Ext.alloc hb _ | exact Ext.alloc (Ext.alloc hb _) _) cOm, vBd.ext (by first | exact hb | exact Ext.alloc hb _ | exact Ext.alloc (Ext.alloc hb _) _), Ext.cell (by first | exact hb | exact Ext.alloc hb _ | exact Ext.alloc (Ext.alloc hb _) _) cOd, Ext.cell (by first | exact hb | exact Ext.alloc hb _ | exact Ext.alloc (Ext.alloc hb _) _) cOpx, Ext.cell (by first | exact hb | exact Ext.alloc hb _ | exact Ext.alloc (Ext.alloc hb _) _) cOpy⟩ ?_
  clear hE vA0 cO0 vA1 cO1 vBu cOu vBm cOm vBd cOd cOpx cOpy lvA0 lcO0 lvA1 lcO1 lvBu lcOu lvBm lcOm lvBd lcOd lcOpx lcOpy hb hc hf hz ha
  rintro V ⟨hE, vA0, cO0, vA1, cO1, vBu, cOu, vBm, cOm, vBd, cOd, cOpx, cOpy⟩
  have lvA0 := vA0.lt
  have lcO0 := World.block_lt_of_cell? V _ cO0
  have lvA1 := vA1.lt
  have lcO1 := World.block_lt_of_cell? V _ cO1
  have lvBu := vBu.lt
  have lcOu := World.block_lt_of_cell? V _ cOu
  have lvBm := vBm.lt
  have lcOm := World.block_lt_of_cell? V _ cOm
  have lvBd := vBd.lt
  have lcOd := World.block_lt_of_cell? V _ cOd
  have lcOpx := World.block_lt_of_cell? V _ cOpx
  have lcOpy := World.block_lt_of_cell? V _ cOpy
  refine (Has_y B1 0 24 L1 X Y _ vA1.1 vA1.2 hX48 hY24).mono ?_
  rintro e w1 ⟨rfl, hb⟩
  have hc := hb.cellE; have hf := hb.frozenE; have hz := hb.size; have ha := alloc_keeps w1; (try simp only [World.size_alloc] at hc hf hz); (try simp only [World.size_setCell] at hc hf hz); (try simp only [World.size_drew] at hc hf hz)
  have hu := @has_union L0 L1 X Y hY24
  have hm := @has_meet L0 L1 X Y hY24
  have hd := @has_less L0 L1 X Y hY24
  have Hu := Lib.hid hu; have Hm := Lib.hid hm; have Hd := Lib.hid hd
  clear hu hm hd
  go_upto_region 14 with fail
  go_cut [90] from 62 to 90 (fun s V => s = .bool false ∧ Ext w V ∧ VA V B0 0 L0 ∧ V.cell? ⟨O0, 0, none⟩ = some (.slice (some ⟨B0, 0, none⟩) 24 24) ∧ VA V B1 0 L1 ∧ V.cell? ⟨O1, 0, none⟩ = some (.slice (some ⟨B1, 0, none⟩) 24 24) ∧ VA V Bu 0 (unionL L0 L1) ∧ V.cell? ⟨Ou, 0, none⟩ = some (.slice (some ⟨Bu, 0, none⟩) 24 ku) ∧ VA V Bm 0 (meetL L0 L1) ∧ V.cell? ⟨Om, 0, none⟩ = some (.slice (some ⟨Bm, 0, none⟩) 24 km) ∧ VA V Bd 0 (lessL L0 L1) ∧ V.cell? ⟨Od, 0, none⟩ = some (.slice (some ⟨Bd, 0, none⟩) 24 kd) ∧ V.cell? ⟨Op, 0, none⟩ = some (.int .i64 (X : Int)) ∧ V.cell? ⟨Op, 1, none⟩ = some (.int .i64 (Y : Int)))
  case first =>
    have hu := Hu.out; have hm := Hm.out; have hd := Hd.out
    generalize hasL L0 X Y = A at *
    generalize hasL L1 X Y = B at *
    cases A <;> cases B
    all_goals
      simp only [Bool.or_false, Bool.or_true, Bool.and_false, Bool.and_true, Bool.not_true, Bool.not_false] at hu hm hd
      go_wp2_with (go_at_call 31; refine (Has_v _ _ (by assumption) (by (repeat' (first | (with_reducible assumption) | (with_reducible exact Ext.refl _) | (with_reducible refine Ext.alloc ?_ _) | (with_reducible refine Ext.drew ?_) | (with_reducible refine Ext.drewN ?_ _) | (with_reducible refine Ext.setCell ?_ ?_ _) | (with_reducible refine Ext.trans ?_ (by assumption)) | go_size))) hX48 hY24).mono ?_; rintro e w1 ⟨rfl, hb⟩; have hc := hb.cellE; have hf := hb.frozenE; have hz := hb.size; have ha := alloc_keeps w1; (try simp only [World.size_alloc] at hc hf hz); (try simp only [World.size_setCell] at hc hf hz); (try simp only [World.size_drew] at hc hf hz))
      go_meet
      refine ⟨rfl, ?_, ?_, ?_, ?_, ?_, ?_, ?_, ?_, ?_, ?_, ?_, ?_, ?_⟩ <;> (first | ((repeat' (first | (with_reducible assumption) | (with_reducible exact Ext.refl _) | (with_reducible refine Ext.alloc ?_ _) | (with_reducible refine Ext.drew ?_) | (with_reducible refine Ext.drewN ?_ _) | (with_reducible refine Ext.setCell ?_ ?_ _) | (with_reducible refine Ext.trans ?_ (by assumption)) | go_size)); done) | (with_reducible assumption) | (refine VA.ext (by with_reducible assumption) ?_; (repeat' (first | (with_reducible assumption) | (with_reducible exact Ext.refl _) | (with_reducible refine Ext.alloc ?_ _) | (with_reducible refine Ext.drew ?_) | (with_reducible refine Ext.drewN ?_ _) | (with_reducible refine Ext.setCell ?_ ?_ _) | (with_reducible refine Ext.trans ?_ (by assumption)) | go_size)); done) | ((repeat' (first | (with_reducible assumption) | (simp [go_sem]; done) | (with_reducible refine Ext.cell (Ext.alloc (Ext.refl _) _) ?_) | (with_reducible refine Ext.cell (by with_reducible assumption) ?_))); done) | ((repeat' (first | (with_reducible assumption) | (exact ⟨by simp [go_sem], by simp [go_sem]⟩) | (with_reducible refine BoxAt.ext (Ext.alloc (Ext.refl _) _) ?_) | (with_reducible refine BoxAt.ext (by with_reducible assumption) ?_))); done))
  case rest =>
  clear hE hb hc hf hz ha vA0 cO0 vA1 cO1 vBu cOu vBm cOm vBd cOd cOpx cOpy lvA0 lcO0 lvA1 lcO1 lvBu lcOu lvBm lcOm lvBd lcOd lcOpx lcOpy
  obtain ⟨rfl, hE, vA0, cO0, vA1, cO1, vBu, cOu, vBm, cOm, vBd, cOd, cOpx, cOpy⟩ := hcut

  have hcu := count_union L0 L1
  have hcd := count_less L0 L1
  have hcc := contains_count vA0.2 vA1.2
  have hc2 : containsB (unionL L0 L1) L1 = true := (contains_iff vBu.2 vA1.2).2 fun x y _ hy h => by rw [has_union hy, h, Bool.or_true]
  have hc3 : containsB L1 (meetL L0 L1) = true := (contains_iff vA1.2 vBm.2).2 fun x y _ hy h => by rw [has_meet hy] at h; exact (Bool.and_eq_true_iff.1 h).2
  obtain ⟨nu, hnu⟩ : ∃ n, (cellsTo (unionL L0 L1) 24).length = n := ⟨_, rfl⟩
  obtain ⟨nm, hnm⟩ : ∃ n, (cellsTo (meetL L0 L1) 24).length = n := ⟨_, rfl⟩
  obtain ⟨nd, hnd⟩ : ∃ n, (cellsTo (lessL L0 L1) 24).length = n := ⟨_, rfl⟩
  obtain ⟨na, hna⟩ : ∃ n, (cellsTo L0 24).length = n := ⟨_, rfl⟩
  obtain ⟨nb, hnb⟩ : ∃ n, (cellsTo L1 24).length = n := ⟨_, rfl⟩
  have ba : na ≤ 1152 := by rw [← hna]; exact cellsTo_len L0 24
  have bb : nb ≤ 1152 := by rw [← hnb]; exact cellsTo_len L1 24
  rw [hnu, hnm, hna, hnb] at hcu
  rw [hnd, hnm, hna] at hcd
  rw [hnm, hnb] at hcc
  have k1 : IntKind.i64.wrap ((na : Int) + (nb : Int)) = (na : Int) + (nb : Int) := by rw [IntKind.wrap_i64]; omega
  have k2 : IntKind.i64.wrap ((na : Int) + (nb : Int) - (nm : Int)) = (nu : Int) := by rw [IntKind.wrap_i64]; omega
  have k3 : IntKind.i64.wrap ((na : Int) - (nm : Int)) = (nd : Int) := by rw [IntKind.wrap_i64]; omega
  have K1 := Lib.hid k1; have K2 := Lib.hid k2; have K3 := Lib.hid k3
  have Hnu := Lib.hid hnu; have Hnm := Lib.hid hnm; have Hnd := Lib.hid hnd; have Hna := Lib.hid hna; have Hnb := Lib.hid hnb
  have Hcc := Lib.hid hcc; have Hc2 := Lib.hid hc2; have Hc3 := Lib.hid hc3
  clear k1 k2 k3 hnu hnm hnd hna hnb hcu hcd hcc hc2 hc3
  obtain ⟨V, rfl⟩ : ∃ V, V = wc := ⟨_, rfl⟩
  have HTV := Lib.hid (HT.out.ext hE)
  have fin : ∀ r, decide (nm = nb) = r → ((nm : Int) == (nb : Int)) = r → True := fun _ _ _ => trivial
  clear fin
  by_cases hq : nm = nb
  · have hcc : containsB L0 L1 = true := by rw [Hcc.out]; simpa using hq
    have hq' : ((nm : Int) == (nb : Int)) = true := by simp; omega
    have hq2 : (nm == nb) = true := by simpa using hq
    have hq3 : decide (nm = nb) = true := by simpa using hq
    have hq4 : decide ((nm : Int) = (nb : Int)) = true := by simp; omega
    clear Hcc hq
    go_wp2_with fail
    have k1 := K1.out; have k2 := K2.out; have k3 := K3.out
    refine wp_region_held_drew (S := fun w' => Ext V w' ∧ w'.cell? ⟨O0, 0, none⟩ = some (.slice (some ⟨B0, 0, none⟩) 24 24) ∧ w'.cell? ⟨O1, 0, none⟩ = some (.slice (some ⟨B1, 0, none⟩) 24 24) ∧ w'.cell? ⟨Ou, 0, none⟩ = some (.slice (some ⟨Bu, 0, none⟩) 24 ku) ∧ w'.cell? ⟨Om, 0, none⟩ = some (.slice (some ⟨Bm, 0, none⟩) 24 km) ∧ w'.cell? ⟨Od, 0, none⟩ = some (.slice (some ⟨Bd, 0, none⟩) 24 kd)) (by kernel_rfl) ⟨by (repeat' (first | (with_reducible assumption) | (with_reducible exact Ext.refl _) | (with_reducible refine Ext.alloc ?_ _) | (with_reducible refine Ext.drew ?_) | (with_reducible refine Ext.drewN ?_ _) | (with_reducible refine Ext.setCell ?_ ?_ _) | (with_reducible refine Ext.trans ?_ (by assumption)) | go_size)), cO0, cO1, cOu, cOm, cOd⟩ (fun hHeld => ?_)
    (refine rg_take 0 (v := ?_) rfl (by kernel_rfl) (by kernel_rfl) (by kernel_rfl) (fun _ _ _ h => h) (by kernel_rfl) ?_ (by with_reducible assumption) ?_; rotate_left; (focus (intro w hSw; (try dsimp only at hSw); go_simp; (try with_reducible rfl))); (try simp only [Act.put, List.setIfInBounds_toArray, List.set_cons_zero, List.set_cons_succ]))
    (refine rg_take 1 (v := ?_) rfl (by kernel_rfl) (by kernel_rfl) (by kernel_rfl) (fun _ _ _ h => h) (by kernel_rfl) ?_ (by with_reducible assumption) ?_; rotate_left; (focus (intro w hSw; (try dsimp only at hSw); go_simp; (try with_reducible rfl))); (try simp only [Act.put, List.setIfInBounds_toArray, List.set_cons_zero, List.set_cons_succ]))
    (refine rg_take 2 (v := ?_) rfl (by kernel_rfl) (by kernel_rfl) (by kernel_rfl) (fun _ _ _ h => h) (by kernel_rfl) ?_ (by with_reducible assumption) ?_; rotate_left; (focus (intro w hSw; (try dsimp only at hSw); go_simp; (try with_reducible rfl))); (try simp only [Act.put, List.setIfInBounds_toArray, List.set_cons_zero, List.set_cons_succ]))
    (refine rg_take 4 (v := ?_) rfl (by kernel_rfl) (by kernel_rfl) (by kernel_rfl) (fun _ _ _ h => h) (by kernel_rfl) ?_ (by with_reducible assumption) ?_; rotate_left; (focus (intro w hSw; (try dsimp only at hSw); go_simp; (try with_reducible rfl))); (try simp only [Act.put, List.setIfInBounds_toArray, List.set_cons_zero, List.set_cons_succ]))
    (refine rg_take 6 (v := ?_) rfl (by kernel_rfl) (by kernel_rfl) (by kernel_rfl) (fun _ _ _ h => h) (by kernel_rfl) ?_ (by with_reducible assumption) ?_; rotate_left; (focus (intro w hSw; (try dsimp only at hSw); go_simp; (try with_reducible rfl))); (try simp only [Act.put, List.setIfInBounds_toArray, List.set_cons_zero, List.set_cons_succ]))
    (refine rg_take 9 (v := ?_) rfl (by kernel_rfl) (by kernel_rfl) (by kernel_rfl) (fun _ _ _ h => h) (by kernel_rfl) ?_ (by with_reducible assumption) ?_; rotate_left; (focus (intro w hSw; (try dsimp only at hSw); go_simp; (try with_reducible rfl))); (try simp only [Act.put, List.setIfInBounds_toArray, List.set_cons_zero, List.set_cons_succ]))
    (refine rg_step 3 rfl (by kernel_rfl) (by kernel_rfl) (fun K hK => ?_); go_simp; (go_at_call 24; refine (Count_r _ _ (by with_reducible assumption) hHeld.1 (HTV.out.ext hHeld.1) Hnu.out).mono ?_; rintro e w1 ⟨rfl, hb⟩); refine hK.out _ _ (⟨hHeld.1.trans hb, hb.cell hHeld.2.1, hb.cell hHeld.2.2.1, hb.cell hHeld.2.2.2.1, hb.cell hHeld.2.2.2.2.1, hb.cell hHeld.2.2.2.2.2⟩) (fun hHeld => ?_); clear hK K; (try simp only [Act.put, List.setIfInBounds_toArray, List.set_cons_zero, List.set_cons_succ]))
    (refine rg_step 5 rfl (by kernel_rfl) (by kernel_rfl) (fun K hK => ?_); go_simp; (go_at_call 24; refine (Count_r _ _ (by with_reducible assumption) hHeld.1 (HTV.out.ext hHeld.1) Hna.out).mono ?_; rintro e w1 ⟨rfl, hb⟩); refine hK.out _ _ (⟨hHeld.1.trans hb, hb.cell hHeld.2.1, hb.cell hHeld.2.2.1, hb.cell hHeld.2.2.2.1, hb.cell hHeld.2.2.2.2.1, hb.cell hHeld.2.2.2.2.2⟩) (fun hHeld => ?_); clear hK K; (try simp only [Act.put, List.setIfInBounds_toArray, List.set_cons_zero, List.set_cons_succ]))
    (refine rg_step 7 rfl (by kernel_rfl) (by kernel_rfl) (fun K hK => ?_); go_simp; (go_at_call 24; refine (Count_r _ _ (by with_reducible assumption) hHeld.1 (HTV.out.ext hHeld.1) Hnb.out).mono ?_; rintro e w1 ⟨rfl, hb⟩); refine hK.out _ _ (⟨hHeld.1.trans hb, hb.cell hHeld.2.1, hb.cell hHeld.2.2.1, hb.cell hHeld.2.2.2.1, hb.cell hHeld.2.2.2.2.1, hb.cell hHeld.2.2.2.2.2⟩) (fun hHeld => ?_); clear hK K; (try simp only [Act.put, List.setIfInBounds_toArray, List.set_cons_zero, List.set_cons_succ]))
    (refine rg_take 8 (v := ?_) rfl (by kernel_rfl) (by kernel_rfl) (by kernel_rfl) (fun _ _ _ h => h) (by kernel_rfl) ?_ (by with_reducible assumption) ?_; rotate_left; (focus (intro w hSw; (try dsimp only at hSw); have k1 := K1.out; go_simp; (try with_reducible rfl))); (try simp only [Act.put, List.setIfInBounds_toArray, List.set_cons_zero, List.set_cons_succ]))
    (refine rg_step 10 rfl (by kernel_rfl) (by kernel_rfl) (fun K hK => ?_); go_simp; (go_at_call 24; refine (Count_r _ _ (by with_reducible assumption) hHeld.1 (HTV.out.ext hHeld.1) Hnm.out).mono ?_; rintro e w1 ⟨rfl, hb⟩); refine hK.out _ _ (⟨hHeld.1.trans hb, hb.cell hHeld.2.1, hb.cell hHeld.2.2.1, hb.cell hHeld.2.2.2.1, hb.cell hHeld.2.2.2.2.1, hb.cell hHeld.2.2.2.2.2⟩) (fun hHeld => ?_); clear hK K; (try simp only [Act.put, List.setIfInBounds_toArray, List.set_cons_zero, List.set_cons_succ]))
    (refine rg_take 11 (v := ?_) rfl (by kernel_rfl) (by kernel_rfl) (by kernel_rfl) (fun _ _ _ h => h) (by kernel_rfl) ?_ (by with_reducible assumption) ?_; rotate_left; (focus (intro w hSw; (try dsimp only at hSw); have k2 := K2.out; go_simp; (try with_reducible rfl))); (try simp only [Act.put, List.setIfInBounds_toArray, List.set_cons_zero, List.set_cons_succ]))
    (refine rg_take 12 (v := ?_) rfl (by kernel_rfl) (by kernel_rfl) (by kernel_rfl) (fun _ _ _ h => h) (by kernel_rfl) ?_ (by with_reducible assumption) ?_; rotate_left; (focus (intro w hSw; (try dsimp only at hSw); go_simp; (try with_reducible rfl))); (try simp only [Act.put, List.setIfInBounds_toArray, List.set_cons_zero, List.set_cons_succ]))
    (refine rg_take 13 (v := ?_) rfl (by kernel_rfl) (by kernel_rfl) (by kernel_rfl) (fun _ _ _ h => h) (by kernel_rfl) ?_ (by with_reducible assumption) ?_; rotate_left; (focus (intro w hSw; (try dsimp only at hSw); go_simp; (try with_reducible rfl))); (try simp only [Act.put, List.setIfInBounds_toArray, List.set_cons_zero, List.set_cons_succ]))
    (refine rg_take 14 (v := ?_) rfl (by kernel_rfl) (by kernel_rfl) (by kernel_rfl) (fun _ _ _ h => h) (by kernel_rfl) ?_ (by with_reducible assumption) ?_; rotate_left; (focus (intro w hSw; (try dsimp only at hSw); go_simp; (try with_reducible rfl))); (try simp only [Act.put, List.setIfInBounds_toArray, List.set_cons_zero, List.set_cons_succ]))
    (refine rg_take 15 (v := ?_) rfl (by kernel_rfl) (by kernel_rfl) (by kernel_rfl) (fun _ _ _ h => h) (by kernel_rfl) ?_ (by with_reducible assumption) ?_; rotate_left; (focus (intro w hSw; (try dsimp only at hSw); go_simp; (try with_reducible rfl))); (try simp only [Act.put, List.setIfInBounds_toArray, List.set_cons_zero, List.set_cons_succ]))
    (refine rg_take 17 (v := ?_) rfl (by kernel_rfl) (by kernel_rfl) (by kernel_rfl) (fun _ _ _ h => h) (by kernel_rfl) ?_ (by with_reducible assumption) ?_; rotate_left; (focus (intro w hSw; (try dsimp only at hSw); go_simp; (try with_reducible rfl))); (try simp only [Act.put, List.setIfInBounds_toArray, List.set_cons_zero, List.set_cons_succ]))
    (refine rg_take 19 (v := ?_) rfl (by kernel_rfl) (by kernel_rfl) (by kernel_rfl) (fun _ _ _ h => h) (by kernel_rfl) ?_ (by with_reducible assumption) ?_; rotate_left; (focus (intro w hSw; (try dsimp only at hSw); go_simp; (try with_reducible rfl))); (try simp only [Act.put, List.setIfInBounds_toArray, List.set_cons_zero, List.set_cons_succ]))
    (refine rg_step 16 rfl (by kernel_rfl) (by kernel_rfl) (fun K hK => ?_); go_simp; (go_at_call 24; refine (Count_r _ _ (by with_reducible assumption) hHeld.1 (HTV.out.ext hHeld.1) Hnd.out).mono ?_; rintro e w1 ⟨rfl, hb⟩); refine hK.out _ _ (⟨hHeld.1.trans hb, hb.cell hHeld.2.1, hb.cell hHeld.2.2.1, hb.cell hHeld.2.2.2.1, hb.cell hHeld.2.2.2.2.1, hb.cell hHeld.2.2.2.2.2⟩) (fun hHeld => ?_); clear hK K; (try simp only [Act.put, List.setIfInBounds_toArray, List.set_cons_zero, List.set_cons_succ]))
    (refine rg_step 18 rfl (by kernel_rfl) (by kernel_rfl) (fun K hK => ?_); go_simp; (go_at_call 24; refine (Count_r _ _ (by with_reducible assumption) hHeld.1 (HTV.out.ext hHeld.1) Hna.out).mono ?_; rintro e w1 ⟨rfl, hb⟩); refine hK.out _ _ (⟨hHeld.1.trans hb, hb.cell hHeld.2.1, hb.cell hHeld.2.2.1, hb.cell hHeld.2.2.2.1, hb.cell hHeld.2.2.2.2.1, hb.cell hHeld.2.2.2.2.2⟩) (fun hHeld => ?_); clear hK K; (try simp only [Act.put, List.setIfInBounds_toArray, List.set_cons_zero, List.set_cons_succ]))
    (refine rg_step 20 rfl (by kernel_rfl) (by kernel_rfl) (fun K hK => ?_); go_simp; (go_at_call 24; refine (Count_r _ _ (by with_reducible assumption) hHeld.1 (HTV.out.ext hHeld.1) Hnm.out).mono ?_; rintro e w1 ⟨rfl, hb⟩); refine hK.out _ _ (⟨hHeld.1.trans hb, hb.cell hHeld.2.1, hb.cell hHeld.2.2.1, hb.cell hHeld.2.2.2.1, hb.cell hHeld.2.2.2.2.1, hb.cell hHeld.2.2.2.2.2⟩) (fun hHeld => ?_); clear hK K; (try simp only [Act.put, List.setIfInBounds_toArray, List.set_cons_zero, List.set_cons_succ]))
    (refine rg_take 21 (v := ?_) rfl (by kernel_rfl) (by kernel_rfl) (by kernel_rfl) (fun _ _ _ h => h) (by kernel_rfl) ?_ (by with_reducible assumption) ?_; rotate_left; (focus (intro w hSw; (try dsimp only at hSw); have k3 := K3.out; go_simp; (try with_reducible rfl))); (try simp only [Act.put, List.setIfInBounds_toArray, List.set_cons_zero, List.set_cons_succ]))
    (refine rg_take 22 (v := ?_) rfl (by kernel_rfl) (by kernel_rfl) (by kernel_rfl) (fun _ _ _ h => h) (by kernel_rfl) ?_ (by with_reducible assumption) ?_; rotate_left; (focus (intro w hSw; (try dsimp only at hSw); go_simp; (try with_reducible rfl))); (try simp only [Act.put, List.setIfInBounds_toArray, List.set_cons_zero, List.set_cons_succ]))
    (refine rg_take 23 (v := ?_) rfl (by kernel_rfl) (by kernel_rfl) (by kernel_rfl) (fun _ _ _ h => h) (by kernel_rfl) ?_ (by with_reducible assumption) ?_; rotate_left; (focus (intro w hSw; (try dsimp only at hSw); go_simp; (try with_reducible rfl))); (try simp only [Act.put, List.setIfInBounds_toArray, List.set_cons_zero, List.set_cons_succ]))
    (refine rg_take 24 (v := ?_) rfl (by kernel_rfl) (by kernel_rfl) (by kernel_rfl) (fun _ _ _ h => h) (by kernel_rfl) ?_ (by with_reducible assumption) ?_; rotate_left; (focus (intro w hSw; (try dsimp only at hSw); go_simp; (try with_reducible rfl))); (try simp only [Act.put, List.setIfInBounds_toArray, List.set_cons_zero, List.set_cons_succ]))
    (refine rg_take 25 (v := ?_) rfl (by kernel_rfl) (by kernel_rfl) (by kernel_rfl) (fun _ _ _ h => h) (by kernel_rfl) ?_ (by with_reducible assumption) ?_; rotate_left; (focus (intro w hSw; (try dsimp only at hSw); go_simp; (try with_reducible rfl))); (try simp only [Act.put, List.setIfInBounds_toArray, List.set_cons_zero, List.set_cons_succ]))
    (refine rg_take 26 (v := ?_) rfl (by kernel_rfl) (by kernel_rfl) (by kernel_rfl) (fun _ _ _ h => h) (by kernel_rfl) ?_ (by with_reducible assumption) ?_; rotate_left; (focus (intro w hSw; (try dsimp only at hSw); go_simp; (try with_reducible rfl))); (try simp only [Act.put, List.setIfInBounds_toArray, List.set_cons_zero, List.set_cons_succ]))
    (refine rg_take 28 (v := ?_) rfl (by kernel_rfl) (by kernel_rfl) (by kernel_rfl) (fun _ _ _ h => h) (by kernel_rfl) ?_ (by with_reducible assumption) ?_; rotate_left; (focus (intro w hSw; (try dsimp only at hSw); go_simp; (try with_reducible rfl))); (try simp only [Act.put, List.setIfInBounds_toArray, List.set_cons_zero, List.set_cons_succ]))
    (refine rg_take 30 (v := ?_) rfl (by kernel_rfl) (by kernel_rfl) (by kernel_rfl) (fun _ _ _ h => h) (by kernel_rfl) ?_ (by with_reducible assumption) ?_; rotate_left; (focus (intro w hSw; (try dsimp only at hSw); go_simp; (try with_reducible rfl))); (try simp only [Act.put, List.setIfInBounds_toArray, List.set_cons_zero, List.set_cons_succ]))
    (refine rg_step 27 rfl (by kernel_rfl) (by kernel_rfl) (fun K hK => ?_); go_simp; (go_at_call 43; refine (Contains_r _ _ _ (by with_reducible assumption) hHeld.1 (by with_reducible assumption) hHeld.1 hcc).mono ?_; rintro e w1 ⟨rfl, hb⟩); refine hK.out _ _ (⟨hHeld.1.trans hb, hb.cell hHeld.2.1, hb.cell hHeld.2.2.1, hb.cell hHeld.2.2.2.1, hb.cell hHeld.2.2.2.2.1, hb.cell hHeld.2.2.2.2.2⟩) (fun hHeld => ?_); clear hK K; (try simp only [Act.put, List.setIfInBounds_toArray, List.set_cons_zero, List.set_cons_succ]))
    (refine rg_step 29 rfl (by kernel_rfl) (by kernel_rfl) (fun K hK => ?_); go_simp; (go_at_call 24; refine (Count_r _ _ (by with_reducible assumption) hHeld.1 (HTV.out.ext hHeld.1) Hnm.out).mono ?_; rintro e w1 ⟨rfl, hb⟩); refine hK.out _ _ (⟨hHeld.1.trans hb, hb.cell hHeld.2.1, hb.cell hHeld.2.2.1, hb.cell hHeld.2.2.2.1, hb.cell hHeld.2.2.2.2.1, hb.cell hHeld.2.2.2.2.2⟩) (fun hHeld => ?_); clear hK K; (try simp only [Act.put, List.setIfInBounds_toArray, List.set_cons_zero, List.set_cons_succ]))
    (refine rg_step 31 rfl (by kernel_rfl) (by kernel_rfl) (fun K hK => ?_); go_simp; (go_at_call 24; refine (Count_r _ _ (by with_reducible assumption) hHeld.1 (HTV.out.ext hHeld.1) Hnb.out).mono ?_; rintro e w1 ⟨rfl, hb⟩); refine hK.out _ _ (⟨hHeld.1.trans hb, hb.cell hHeld.2.1, hb.cell hHeld.2.2.1, hb.cell hHeld.2.2.2.1, hb.cell hHeld.2.2.2.2.1, hb.cell hHeld.2.2.2.2.2⟩) (fun hHeld => ?_); clear hK K; (try simp only [Act.put, List.setIfInBounds_toArray, List.set_cons_zero, List.set_cons_succ]))
    (refine rg_take 32 (v := ?_) rfl (by kernel_rfl) (by kernel_rfl) (by kernel_rfl) (fun _ _ _ h => h) (by kernel_rfl) ?_ (by with_reducible assumption) ?_; rotate_left; (focus (intro w hSw; (try dsimp only at hSw); go_simp; (try with_reducible rfl))); (try simp only [Act.put, List.setIfInBounds_toArray, List.set_cons_zero, List.set_cons_succ]))
    (refine rg_take 33 (v := ?_) rfl (by kernel_rfl) (by kernel_rfl) (by kernel_rfl) (fun _ _ _ h => h) (by kernel_rfl) ?_ (by with_reducible assumption) ?_; rotate_left; (focus (intro w hSw; (try dsimp only at hSw); go_simp; (try with_reducible rfl))); (try simp only [Act.put, List.setIfInBounds_toArray, List.set_cons_zero, List.set_cons_succ]))
    (refine rg_take 34 (v := ?_) rfl (by kernel_rfl) (by kernel_rfl) (by kernel_rfl) (fun _ _ _ h => h) (by kernel_rfl) ?_ (by with_reducible assumption) ?_; rotate_left; (focus (intro w hSw; (try dsimp only at hSw); go_simp; (try with_reducible rfl))); (try simp only [Act.put, List.setIfInBounds_toArray, List.set_cons_zero, List.set_cons_succ]))
    (refine rg_take 35 (v := ?_) rfl (by kernel_rfl) (by kernel_rfl) (by kernel_rfl) (fun _ _ _ h => h) (by kernel_rfl) ?_ (by with_reducible assumption) ?_; rotate_left; (focus (intro w hSw; (try dsimp only at hSw); go_simp; (try with_reducible rfl))); (try simp only [Act.put, List.setIfInBounds_toArray, List.set_cons_zero, List.set_cons_succ]))
    (refine rg_take 36 (v := ?_) rfl (by kernel_rfl) (by kernel_rfl) (by kernel_rfl) (fun _ _ _ h => h) (by kernel_rfl) ?_ (by with_reducible assumption) ?_; rotate_left; (focus (intro w hSw; (try dsimp only at hSw); go_simp; (try with_reducible rfl))); (try simp only [Act.put, List.setIfInBounds_toArray, List.set_cons_zero, List.set_cons_succ]))
    (refine rg_take 37 (v := ?_) rfl (by kernel_rfl) (by kernel_rfl) (by kernel_rfl) (fun _ _ _ h => h) (by kernel_rfl) ?_ (by with_reducible assumption) ?_; rotate_left; (focus (intro w hSw; (try dsimp only at hSw); go_simp; (try with_reducible rfl))); (try simp only [Act.put, List.setIfInBounds_toArray, List.set_cons_zero, List.set_cons_succ]))
    (refine rg_step 38 rfl (by kernel_rfl) (by kernel_rfl) (fun K hK => ?_); go_simp; (go_at_call 43; refine (Contains_r _ _ _ (by with_reducible assumption) hHeld.1 (by with_reducible assumption) hHeld.1 Hc2.out).mono ?_; rintro e w1 ⟨rfl, hb⟩); refine hK.out _ _ (⟨hHeld.1.trans hb, hb.cell hHeld.2.1, hb.cell hHeld.2.2.1, hb.cell hHeld.2.2.2.1, hb.cell hHeld.2.2.2.2.1, hb.cell hHeld.2.2.2.2.2⟩) (fun hHeld => ?_); clear hK K; (try simp only [Act.put, List.setIfInBounds_toArray, List.set_cons_zero, List.set_cons_succ]))
    (refine rg_take 39 (v := ?_) rfl (by kernel_rfl) (by kernel_rfl) (by kernel_rfl) (fun _ _ _ h => h) (by kernel_rfl) ?_ (by with_reducible assumption) ?_; rotate_left; (focus (intro w hSw; (try dsimp only at hSw); go_simp; (try with_reducible rfl))); (try simp only [Act.put, List.setIfInBounds_toArray, List.set_cons_zero, List.set_cons_succ]))
    (refine rg_take 40 (v := ?_) rfl (by kernel_rfl) (by kernel_rfl) (by kernel_rfl) (fun _ _ _ h => h) (by kernel_rfl) ?_ (by with_reducible assumption) ?_; rotate_left; (focus (intro w hSw; (try dsimp only at hSw); go_simp; (try with_reducible rfl))); (try simp only [Act.put, List.setIfInBounds_toArray, List.set_cons_zero, List.set_cons_succ]))
    (refine rg_take 41 (v := ?_) rfl (by kernel_rfl) (by kernel_rfl) (by kernel_rfl) (fun _ _ _ h => h) (by kernel_rfl) ?_ (by with_reducible assumption) ?_; rotate_left; (focus (intro w hSw; (try dsimp only at hSw); go_simp; (try with_reducible rfl))); (try simp only [Act.put, List.setIfInBounds_toArray, List.set_cons_zero, List.set_cons_succ]))
    (refine rg_take 42 (v := ?_) rfl (by kernel_rfl) (by kernel_rfl) (by kernel_rfl) (fun _ _ _ h => h) (by kernel_rfl) ?_ (by with_reducible assumption) ?_; rotate_left; (focus (intro w hSw; (try dsimp only at hSw); go_simp; (try with_reducible rfl))); (try simp only [Act.put, List.setIfInBounds_toArray, List.set_cons_zero, List.set_cons_succ]))
    (refine rg_step 43 rfl (by kernel_rfl) (by kernel_rfl) (fun K hK => ?_); go_simp; (go_at_call 43; refine (Contains_r _ _ _ (by with_reducible assumption) hHeld.1 (by with_reducible assumption) hHeld.1 Hc3.out).mono ?_; rintro e w1 ⟨rfl, hb⟩); refine hK.out _ _ (⟨hHeld.1.trans hb, hb.cell hHeld.2.1, hb.cell hHeld.2.2.1, hb.cell hHeld.2.2.2.1, hb.cell hHeld.2.2.2.2.1, hb.cell hHeld.2.2.2.2.2⟩) (fun hHeld => ?_); clear hK K; (try simp only [Act.put, List.setIfInBounds_toArray, List.set_cons_zero, List.set_cons_succ]))
    (refine rg_take 44 (v := ?_) rfl (by kernel_rfl) (by kernel_rfl) (by kernel_rfl) (fun _ _ _ h => h) (by kernel_rfl) ?_ (by with_reducible assumption) ?_; rotate_left; (focus (intro w hSw; (try dsimp only at hSw); go_simp; (try with_reducible rfl))); (try simp only [Act.put, List.setIfInBounds_toArray, List.set_cons_zero, List.set_cons_succ]))
    (refine rg_take 45 (v := ?_) rfl (by kernel_rfl) (by kernel_rfl) (by kernel_rfl) (fun _ _ _ h => h) (by kernel_rfl) ?_ (by with_reducible assumption) ?_; rotate_left; (focus (intro w hSw; (try dsimp only at hSw); go_simp; (try with_reducible rfl))); (try simp only [Act.put, List.setIfInBounds_toArray, List.set_cons_zero, List.set_cons_succ]))
    refine wpAnyH_done (by kernel_rfl) ?_ _
    go_wp2
    have hE' := hHeld.1
    go_ret
    exact ⟨rfl, by (repeat' (first | (with_reducible assumption) | (with_reducible exact Ext.refl _) | (with_reducible refine Ext.alloc ?_ _) | (with_reducible refine Ext.drew ?_) | (with_reducible refine Ext.drewN ?_ _) | (with_reducible refine Ext.setCell ?_ ?_ _) | (with_reducible refine Ext.trans ?_ (by assumption)) | go_size))⟩
  · have hcc : containsB L0 L1 = false := by rw [Hcc.out]; simpa using hq
    have hq' : ((nm : Int) == (nb : Int)) = false := by simp; omega
    have hq2 : (nm == nb) = false := by simpa using hq
    have hq3 : decide (nm = nb) = false := by simpa using hq
    have hq4 : decide ((nm : Int) = (nb : Int)) = false := by simp; omega
    clear Hcc
    go_wp2_with fail
    have k1 := K1.out; have k2 := K2.out; have k3 := K3.out
    refine wp_region_held_drew (S := fun w' => Ext V w' ∧ w'.cell? ⟨O0, 0, none⟩ = some (.slice (some ⟨B0, 0, none⟩) 24 24) ∧ w'.cell? ⟨O1, 0, none⟩ = some (.slice (some ⟨B1, 0, none⟩) 24 24) ∧ w'.cell? ⟨Ou, 0, none⟩ = some (.slice (some ⟨Bu, 0, none⟩) 24 ku) ∧ w'.cell? ⟨Om, 0, none⟩ = some (.slice (some ⟨Bm, 0, none⟩) 24 km) ∧ w'.cell? ⟨Od, 0, none⟩ = some (.slice (some ⟨Bd, 0, none⟩) 24 kd)) (by kernel_rfl) ⟨by (repeat' (first | (with_reducible assumption) | (with_reducible exact Ext.refl _) | (with_reducible refine Ext.alloc ?_ _) | (with_reducible refine Ext.drew ?_) | (with_reducible refine Ext.drewN ?_ _) | (with_reducible refine Ext.setCell ?_ ?_ _) | (with_reducible refine Ext.trans ?_ (by assumption)) | go_size)), cO0, cO1, cOu, cOm, cOd⟩ (fun hHeld => ?_)
    (refine rg_take 0 (v := ?_) rfl (by kernel_rfl) (by kernel_rfl) (by kernel_rfl) (fun _ _ _ h => h) (by kernel_rfl) ?_ (by with_reducible assumption) ?_; rotate_left; (focus (intro w hSw; (try dsimp only at hSw); go_simp; (try with_reducible rfl))); (try simp only [Act.put, List.setIfInBounds_toArray, List.set_cons_zero, List.set_cons_succ]))
    (refine rg_take 1 (v := ?_) rfl (by kernel_rfl) (by kernel_rfl) (by kernel_rfl) (fun _ _ _ h => h) (by kernel_rfl) ?_ (by with_reducible assumption) ?_; rotate_left; (focus (intro w hSw; (try dsimp only at hSw); go_simp; (try with_reducible rfl))); (try simp only [Act.put, List.setIfInBounds_toArray, List.set_cons_zero, List.set_cons_succ]))
    (refine rg_take 2 (v := ?_) rfl (by kernel_rfl) (by kernel_rfl) (by kernel_rfl) (fun _ _ _ h => h) (by kernel_rfl) ?_ (by with_reducible assumption) ?_; rotate_left; (focus (intro w hSw; (try dsimp only at hSw); go_simp; (try with_reducible rfl))); (try simp only [Act.put, List.setIfInBounds_toArray, List.set_cons_zero, List.set_cons_succ]))
    (refine rg_take 4 (v := ?_) rfl (by kernel_rfl) (by kernel_rfl) (by kernel_rfl) (fun _ _ _ h => h) (by kernel_rfl) ?_ (by with_reducible assumption) ?_; rotate_left; (focus (intro w hSw; (try dsimp only at hSw); go_simp; (try with_reducible rfl))); (try simp only [Act.put, List.setIfInBounds_toArray, List.set_cons_zero, List.set_cons_succ]))
    (refine rg_take 6 (v := ?_) rfl (by kernel_rfl) (by kernel_rfl) (by kernel_rfl) (fun _ _ _ h => h) (by kernel_rfl) ?_ (by with_reducible assumption) ?_; rotate_left; (focus (intro w hSw; (try dsimp only at hSw); go_simp; (try with_reducible rfl))); (try simp only [Act.put, List.setIfInBounds_toArray, List.set_cons_zero, List.set_cons_succ]))
    (refine rg_take 9 (v := ?_) rfl (by kernel_rfl) (by kernel_rfl) (by kernel_rfl) (fun _ _ _ h => h) (by kernel_rfl) ?_ (by with_reducible assumption) ?_; rotate_left; (focus (intro w hSw; (try dsimp only at hSw); go_simp; (try with_reducible rfl))); (try simp only [Act.put, List.setIfInBounds_toArray, List.set_cons_zero, List.set_cons_succ]))
    (refine rg_step 3 rfl (by kernel_rfl) (by kernel_rfl) (fun K hK => ?_); go_simp; (go_at_call 24; refine (Count_r _ _ (by with_reducible assumption) hHeld.1 (HTV.out.ext hHeld.1) Hnu.out).mono ?_; rintro e w1 ⟨rfl, hb⟩); refine hK.out _ _ (⟨hHeld.1.trans hb, hb.cell hHeld.2.1, hb.cell hHeld.2.2.1, hb.cell hHeld.2.2.2.1, hb.cell hHeld.2.2.2.2.1, hb.cell hHeld.2.2.2.2.2⟩) (fun hHeld => ?_); clear hK K; (try simp only [Act.put, List.setIfInBounds_toArray, List.set_cons_zero, List.set_cons_succ]))
    (refine rg_step 5 rfl (by kernel_rfl) (by kernel_rfl) (fun K hK => ?_); go_simp; (go_at_call 24; refine (Count_r _ _ (by with_reducible assumption) hHeld.1 (HTV.out.ext hHeld.1) Hna.out).mono ?_; rintro e w1 ⟨rfl, hb⟩); refine hK.out _ _ (⟨hHeld.1.trans hb, hb.cell hHeld.2.1, hb.cell hHeld.2.2.1, hb.cell hHeld.2.2.2.1, hb.cell hHeld.2.2.2.2.1, hb.cell hHeld.2.2.2.2.2⟩) (fun hHeld => ?_); clear hK K; (try simp only [Act.put, List.setIfInBounds_toArray, List.set_cons_zero, List.set_cons_succ]))
    (refine rg_step 7 rfl (by kernel_rfl) (by kernel_rfl) (fun K hK => ?_); go_simp; (go_at_call 24; refine (Count_r _ _ (by with_reducible assumption) hHeld.1 (HTV.out.ext hHeld.1) Hnb.out).mono ?_; rintro e w1 ⟨rfl, hb⟩); refine hK.out _ _ (⟨hHeld.1.trans hb, hb.cell hHeld.2.1, hb.cell hHeld.2.2.1, hb.cell hHeld.2.2.2.1, hb.cell hHeld.2.2.2.2.1, hb.cell hHeld.2.2.2.2.2⟩) (fun hHeld => ?_); clear hK K; (try simp only [Act.put, List.setIfInBounds_toArray, List.set_cons_zero, List.set_cons_succ]))
    (refine rg_take 8 (v := ?_) rfl (by kernel_rfl) (by kernel_rfl) (by kernel_rfl) (fun _ _ _ h => h) (by kernel_rfl) ?_ (by with_reducible assumption) ?_; rotate_left; (focus (intro w hSw; (try dsimp only at hSw); have k1 := K1.out; go_simp; (try with_reducible rfl))); (try simp only [Act.put, List.setIfInBounds_toArray, List.set_cons_zero, List.set_cons_succ]))
    (refine rg_step 10 rfl (by kernel_rfl) (by kernel_rfl) (fun K hK => ?_); go_simp; (go_at_call 24; refine (Count_r _ _ (by with_reducible assumption) hHeld.1 (HTV.out.ext hHeld.1) Hnm.out).mono ?_; rintro e w1 ⟨rfl, hb⟩); refine hK.out _ _ (⟨hHeld.1.trans hb, hb.cell hHeld.2.1, hb.cell hHeld.2.2.1, hb.cell hHeld.2.2.2.1, hb.cell hHeld.2.2.2.2.1, hb.cell hHeld.2.2.2.2.2⟩) (fun hHeld => ?_); clear hK K; (try simp only [Act.put, List.setIfInBounds_toArray, List.set_cons_zero, List.set_cons_succ]))
    (refine rg_take 11 (v := ?_) rfl (by kernel_rfl) (by kernel_rfl) (by kernel_rfl) (fun _ _ _ h => h) (by kernel_rfl) ?_ (by with_reducible assumption) ?_; rotate_left; (focus (intro w hSw; (try dsimp only at hSw); have k2 := K2.out; go_simp; (try with_reducible rfl))); (try simp only [Act.put, List.setIfInBounds_toArray, List.set_cons_zero, List.set_cons_succ]))
    (refine rg_take 12 (v := ?_) rfl (by kernel_rfl) (by kernel_rfl) (by kernel_rfl) (fun _ _ _ h => h) (by kernel_rfl) ?_ (by with_reducible assumption) ?_; rotate_left; (focus (intro w hSw; (try dsimp only at hSw); go_simp; (try with_reducible rfl))); (try simp only [Act.put, List.setIfInBounds_toArray, List.set_cons_zero, List.set_cons_succ]))
    (refine rg_take 13 (v := ?_) rfl (by kernel_rfl) (by kernel_rfl) (by kernel_rfl) (fun _ _ _ h => h) (by kernel_rfl) ?_ (by with_reducible assumption) ?_; rotate_left; (focus (intro w hSw; (try dsimp only at hSw); go_simp; (try with_reducible rfl))); (try simp only [Act.put, List.setIfInBounds_toArray, List.set_cons_zero, List.set_cons_succ]))
    (refine rg_take 14 (v := ?_) rfl (by kernel_rfl) (by kernel_rfl) (by kernel_rfl) (fun _ _ _ h => h) (by kernel_rfl) ?_ (by with_reducible assumption) ?_; rotate_left; (focus (intro w hSw; (try dsimp only at hSw); go_simp; (try with_reducible rfl))); (try simp only [Act.put, List.setIfInBounds_toArray, List.set_cons_zero, List.set_cons_succ]))
    (refine rg_take 15 (v := ?_) rfl (by kernel_rfl) (by kernel_rfl) (by kernel_rfl) (fun _ _ _ h => h) (by kernel_rfl) ?_ (by with_reducible assumption) ?_; rotate_left; (focus (intro w hSw; (try dsimp only at hSw); go_simp; (try with_reducible rfl))); (try simp only [Act.put, List.setIfInBounds_toArray, List.set_cons_zero, List.set_cons_succ]))
    (refine rg_take 17 (v := ?_) rfl (by kernel_rfl) (by kernel_rfl) (by kernel_rfl) (fun _ _ _ h => h) (by kernel_rfl) ?_ (by with_reducible assumption) ?_; rotate_left; (focus (intro w hSw; (try dsimp only at hSw); go_simp; (try with_reducible rfl))); (try simp only [Act.put, List.setIfInBounds_toArray, List.set_cons_zero, List.set_cons_succ]))
    (refine rg_take 19 (v := ?_) rfl (by kernel_rfl) (by kernel_rfl) (by kernel_rfl) (fun _ _ _ h => h) (by kernel_rfl) ?_ (by with_reducible assumption) ?_; rotate_left; (focus (intro w hSw; (try dsimp only at hSw); go_simp; (try with_reducible rfl))); (try simp only [Act.put, List.setIfInBounds_toArray, List.set_cons_zero, List.set_cons_succ]))
    (refine rg_step 16 rfl (by kernel_rfl) (by kernel_rfl) (fun K hK => ?_); go_simp; (go_at_call 24; refine (Count_r _ _ (by with_reducible assumption) hHeld.1 (HTV.out.ext hHeld.1) Hnd.out).mono ?_; rintro e w1 ⟨rfl, hb⟩); refine hK.out _ _ (⟨hHeld.1.trans hb, hb.cell hHeld.2.1, hb.cell hHeld.2.2.1, hb.cell hHeld.2.2.2.1, hb.cell hHeld.2.2.2.2.1, hb.cell hHeld.2.2.2.2.2⟩) (fun hHeld => ?_); clear hK K; (try simp only [Act.put, List.setIfInBounds_toArray, List.set_cons_zero, List.set_cons_succ]))
    (refine rg_step 18 rfl (by kernel_rfl) (by kernel_rfl) (fun K hK => ?_); go_simp; (go_at_call 24; refine (Count_r _ _ (by with_reducible assumption) hHeld.1 (HTV.out.ext hHeld.1) Hna.out).mono ?_; rintro e w1 ⟨rfl, hb⟩); refine hK.out _ _ (⟨hHeld.1.trans hb, hb.cell hHeld.2.1, hb.cell hHeld.2.2.1, hb.cell hHeld.2.2.2.1, hb.cell hHeld.2.2.2.2.1, hb.cell hHeld.2.2.2.2.2⟩) (fun hHeld => ?_); clear hK K; (try simp only [Act.put, List.setIfInBounds_toArray, List.set_cons_zero, List.set_cons_succ]))
    (refine rg_step 20 rfl (by kernel_rfl) (by kernel_rfl) (fun K hK => ?_); go_simp; (go_at_call 24; refine (Count_r _ _ (by with_reducible assumption) hHeld.1 (HTV.out.ext hHeld.1) Hnm.out).mono ?_; rintro e w1 ⟨rfl, hb⟩); refine hK.out _ _ (⟨hHeld.1.trans hb, hb.cell hHeld.2.1, hb.cell hHeld.2.2.1, hb.cell hHeld.2.2.2.1, hb.cell hHeld.2.2.2.2.1, hb.cell hHeld.2.2.2.2.2⟩) (fun hHeld => ?_); clear hK K; (try simp only [Act.put, List.setIfInBounds_toArray, List.set_cons_zero, List.set_cons_succ]))
    (refine rg_take 21 (v := ?_) rfl (by kernel_rfl) (by kernel_rfl) (by kernel_rfl) (fun _ _ _ h => h) (by kernel_rfl) ?_ (by with_reducible assumption) ?_; rotate_left; (focus (intro w hSw; (try dsimp only at hSw); have k3 := K3.out; go_simp; (try with_reducible rfl))); (try simp only [Act.put, List.setIfInBounds_toArray, List.set_cons_zero, List.set_cons_succ]))
    (refine rg_take 22 (v := ?_) rfl (by kernel_rfl) (by kernel_rfl) (by kernel_rfl) (fun _ _ _ h => h) (by kernel_rfl) ?_ (by with_reducible assumption) ?_; rotate_left; (focus (intro w hSw; (try dsimp only at hSw); go_simp; (try with_reducible rfl))); (try simp only [Act.put, List.setIfInBounds_toArray, List.set_cons_zero, List.set_cons_succ]))
    (refine rg_take 23 (v := ?_) rfl (by kernel_rfl) (by kernel_rfl) (by kernel_rfl) (fun _ _ _ h => h) (by kernel_rfl) ?_ (by with_reducible assumption) ?_; rotate_left; (focus (intro w hSw; (try dsimp only at hSw); go_simp; (try with_reducible rfl))); (try simp only [Act.put, List.setIfInBounds_toArray, List.set_cons_zero, List.set_cons_succ]))
    (refine rg_take 24 (v := ?_) rfl (by kernel_rfl) (by kernel_rfl) (by kernel_rfl) (fun _ _ _ h => h) (by kernel_rfl) ?_ (by with_reducible assumption) ?_; rotate_left; (focus (intro w hSw; (try dsimp only at hSw); go_simp; (try with_reducible rfl))); (try simp only [Act.put, List.setIfInBounds_toArray, List.set_cons_zero, List.set_cons_succ]))
    (refine rg_take 25 (v := ?_) rfl (by kernel_rfl) (by kernel_rfl) (by kernel_rfl) (fun _ _ _ h => h) (by kernel_rfl) ?_ (by with_reducible assumption) ?_; rotate_left; (focus (intro w hSw; (try dsimp only at hSw); go_simp; (try with_reducible rfl))); (try simp only [Act.put, List.setIfInBounds_toArray, List.set_cons_zero, List.set_cons_succ]))
    (refine rg_take 26 (v := ?_) rfl (by kernel_rfl) (by kernel_rfl) (by kernel_rfl) (fun _ _ _ h => h) (by kernel_rfl) ?_ (by with_reducible assumption) ?_; rotate_left; (focus (intro w hSw; (try dsimp only at hSw); go_simp; (try with_reducible rfl))); (try simp only [Act.put, List.setIfInBounds_toArray, List.set_cons_zero, List.set_cons_succ]))
    (refine rg_take 28 (v := ?_) rfl (by kernel_rfl) (by kernel_rfl) (by kernel_rfl) (fun _ _ _ h => h) (by kernel_rfl) ?_ (by with_reducible assumption) ?_; rotate_left; (focus (intro w hSw; (try dsimp only at hSw); go_simp; (try with_reducible rfl))); (try simp only [Act.put, List.setIfInBounds_toArray, List.set_cons_zero, List.set_cons_succ]))
    (refine rg_take 30 (v := ?_) rfl (by kernel_rfl) (by kernel_rfl) (by kernel_rfl) (fun _ _ _ h => h) (by kernel_rfl) ?_ (by with_reducible assumption) ?_; rotate_left; (focus (intro w hSw; (try dsimp only at hSw); go_simp; (try with_reducible rfl))); (try simp only [Act.put, List.setIfInBounds_toArray, List.set_cons_zero, List.set_cons_succ]))
    (refine rg_step 27 rfl (by kernel_rfl) (by kernel_rfl) (fun K hK => ?_); go_simp; (go_at_call 43; refine (Contains_r _ _ _ (by with_reducible assumption) hHeld.1 (by with_reducible assumption) hHeld.1 hcc).mono ?_; rintro e w1 ⟨rfl, hb⟩); refine hK.out _ _ (⟨hHeld.1.trans hb, hb.cell hHeld.2.1, hb.cell hHeld.2.2.1, hb.cell hHeld.2.2.2.1, hb.cell hHeld.2.2.2.2.1, hb.cell hHeld.2.2.2.2.2⟩) (fun hHeld => ?_); clear hK K; (try simp only [Act.put, List.setIfInBounds_toArray, List.set_cons_zero, List.set_cons_succ]))
    (refine rg_step 29 rfl (by kernel_rfl) (by kernel_rfl) (fun K hK => ?_); go_simp; (go_at_call 24; refine (Count_r _ _ (by with_reducible assumption) hHeld.1 (HTV.out.ext hHeld.1) Hnm.out).mono ?_; rintro e w1 ⟨rfl, hb⟩); refine hK.out _ _ (⟨hHeld.1.trans hb, hb.cell hHeld.2.1, hb.cell hHeld.2.2.1, hb.cell hHeld.2.2.2.1, hb.cell hHeld.2.2.2.2.1, hb.cell hHeld.2.2.2.2.2⟩) (fun hHeld => ?_); clear hK K; (try simp only [Act.put, List.setIfInBounds_toArray, List.set_cons_zero, List.set_cons_succ]))
    (refine rg_step 31 rfl (by kernel_rfl) (by kernel_rfl) (fun K hK => ?_); go_simp; (go_at_call 24; refine (Count_r _ _ (by with_reducible assumption) hHeld.1 (HTV.out.ext hHeld.1) Hnb.out).mono ?_; rintro e w1 ⟨rfl, hb⟩); refine hK.out _ _ (⟨hHeld.1.trans hb, hb.cell hHeld.2.1, hb.cell hHeld.2.2.1, hb.cell hHeld.2.2.2.1, hb.cell hHeld.2.2.2.2.1, hb.cell hHeld.2.2.2.2.2⟩) (fun hHeld => ?_); clear hK K; (try simp only [Act.put, List.setIfInBounds_toArray, List.set_cons_zero, List.set_cons_succ]))
    (refine rg_take 32 (v := ?_) rfl (by kernel_rfl) (by kernel_rfl) (by kernel_rfl) (fun _ _ _ h => h) (by kernel_rfl) ?_ (by with_reducible assumption) ?_; rotate_left; (focus (intro w hSw; (try dsimp only at hSw); go_simp; (try with_reducible rfl))); (try simp only [Act.put, List.setIfInBounds_toArray, List.set_cons_zero, List.set_cons_succ]))
    (refine rg_take 33 (v := ?_) rfl (by kernel_rfl) (by kernel_rfl) (by kernel_rfl) (fun _ _ _ h => h) (by kernel_rfl) ?_ (by with_reducible assumption) ?_; rotate_left; (focus (intro w hSw; (try dsimp only at hSw); go_simp; (try with_reducible rfl))); (try simp only [Act.put, List.setIfInBounds_toArray, List.set_cons_zero, List.set_cons_succ]))
    (refine rg_take 34 (v := ?_) rfl (by kernel_rfl) (by kernel_rfl) (by kernel_rfl) (fun _ _ _ h => h) (by kernel_rfl) ?_ (by with_reducible assumption) ?_; rotate_left; (focus (intro w hSw; (try dsimp only at hSw); go_simp; (try with_reducible rfl))); (try simp only [Act.put, List.setIfInBounds_toArray, List.set_cons_zero, List.set_cons_succ]))
    (refine rg_take 35 (v := ?_) rfl (by kernel_rfl) (by kernel_rfl) (by kernel_rfl) (fun _ _ _ h => h) (by kernel_rfl) ?_ (by with_reducible assumption) ?_; rotate_left; (focus (intro w hSw; (try dsimp only at hSw); go_simp; (try with_reducible rfl))); (try simp only [Act.put, List.setIfInBounds_toArray, List.set_cons_zero, List.set_cons_succ]))
    (refine rg_take 36 (v := ?_) rfl (by kernel_rfl) (by kernel_rfl) (by kernel_rfl) (fun _ _ _ h => h) (by kernel_rfl) ?_ (by with_reducible assumption) ?_; rotate_left; (focus (intro w hSw; (try dsimp only at hSw); go_simp; (try with_reducible rfl))); (try simp only [Act.put, List.setIfInBounds_toArray, List.set_cons_zero, List.set_cons_succ]))
    (refine rg_take 37 (v := ?_) rfl (by kernel_rfl) (by kernel_rfl) (by kernel_rfl) (fun _ _ _ h => h) (by kernel_rfl) ?_ (by with_reducible assumption) ?_; rotate_left; (focus (intro w hSw; (try dsimp only at hSw); go_simp; (try with_reducible rfl))); (try simp only [Act.put, List.setIfInBounds_toArray, List.set_cons_zero, List.set_cons_succ]))
    (refine rg_step 38 rfl (by kernel_rfl) (by kernel_rfl) (fun K hK => ?_); go_simp; (go_at_call 43; refine (Contains_r _ _ _ (by with_reducible assumption) hHeld.1 (by with_reducible assumption) hHeld.1 Hc2.out).mono ?_; rintro e w1 ⟨rfl, hb⟩); refine hK.out _ _ (⟨hHeld.1.trans hb, hb.cell hHeld.2.1, hb.cell hHeld.2.2.1, hb.cell hHeld.2.2.2.1, hb.cell hHeld.2.2.2.2.1, hb.cell hHeld.2.2.2.2.2⟩) (fun hHeld => ?_); clear hK K; (try simp only [Act.put, List.setIfInBounds_toArray, List.set_cons_zero, List.set_cons_succ]))
    (refine rg_take 39 (v := ?_) rfl (by kernel_rfl) (by kernel_rfl) (by kernel_rfl) (fun _ _ _ h => h) (by kernel_rfl) ?_ (by with_reducible assumption) ?_; rotate_left; (focus (intro w hSw; (try dsimp only at hSw); go_simp; (try with_reducible rfl))); (try simp only [Act.put, List.setIfInBounds_toArray, List.set_cons_zero, List.set_cons_succ]))
    (refine rg_take 40 (v := ?_) rfl (by kernel_rfl) (by kernel_rfl) (by kernel_rfl) (fun _ _ _ h => h) (by kernel_rfl) ?_ (by with_reducible assumption) ?_; rotate_left; (focus (intro w hSw; (try dsimp only at hSw); go_simp; (try with_reducible rfl))); (try simp only [Act.put, List.setIfInBounds_toArray, List.set_cons_zero, List.set_cons_succ]))
    (refine rg_take 41 (v := ?_) rfl (by kernel_rfl) (by kernel_rfl) (by kernel_rfl) (fun _ _ _ h => h) (by kernel_rfl) ?_ (by with_reducible assumption) ?_; rotate_left; (focus (intro w hSw; (try dsimp only at hSw); go_simp; (try with_reducible rfl))); (try simp only [Act.put, List.setIfInBounds_toArray, List.set_cons_zero, List.set_cons_succ]))
    (refine rg_take 42 (v := ?_) rfl (by kernel_rfl) (by kernel_rfl) (by kernel_rfl) (fun _ _ _ h => h) (by kernel_rfl) ?_ (by with_reducible assumption) ?_; rotate_left; (focus (intro w hSw; (try dsimp only at hSw); go_simp; (try with_reducible rfl))); (try simp only [Act.put, List.setIfInBounds_toArray, List.set_cons_zero, List.set_cons_succ]))
    (refine rg_step 43 rfl (by kernel_rfl) (by kernel_rfl) (fun K hK => ?_); go_simp; (go_at_call 43; refine (Contains_r _ _ _ (by with_reducible assumption) hHeld.1 (by with_reducible assumption) hHeld.1 Hc3.out).mono ?_; rintro e w1 ⟨rfl, hb⟩); refine hK.out _ _ (⟨hHeld.1.trans hb, hb.cell hHeld.2.1, hb.cell hHeld.2.2.1, hb.cell hHeld.2.2.2.1, hb.cell hHeld.2.2.2.2.1, hb.cell hHeld.2.2.2.2.2⟩) (fun hHeld => ?_); clear hK K; (try simp only [Act.put, List.setIfInBounds_toArray, List.set_cons_zero, List.set_cons_succ]))
    (refine rg_take 44 (v := ?_) rfl (by kernel_rfl) (by kernel_rfl) (by kernel_rfl) (fun _ _ _ h => h) (by kernel_rfl) ?_ (by with_reducible assumption) ?_; rotate_left; (focus (intro w hSw; (try dsimp only at hSw); go_simp; (try with_reducible rfl))); (try simp only [Act.put, List.setIfInBounds_toArray, List.set_cons_zero, List.set_cons_succ]))
    (refine rg_take 45 (v := ?_) rfl (by kernel_rfl) (by kernel_rfl) (by kernel_rfl) (fun _ _ _ h => h) (by kernel_rfl) ?_ (by with_reducible assumption) ?_; rotate_left; (focus (intro w hSw; (try dsimp only at hSw); go_simp; (try with_reducible rfl))); (try simp only [Act.put, List.setIfInBounds_toArray, List.set_cons_zero, List.set_cons_succ]))
    refine wpAnyH_done (by kernel_rfl) ?_ _
    go_wp2
    have hE' := hHeld.1
    go_ret
    exact ⟨rfl, by (repeat' (first | (with_reducible assumption) | (with_reducible exact Ext.refl _) | (with_reducible refine Ext.alloc ?_ _) | (with_reducible refine Ext.drew ?_) | (with_reducible refine Ext.drewN ?_ _) | (with_reducible refine Ext.setCell ?_ ?_ _) | (with_reducible refine Ext.trans ?_ (by assumption)) | go_size))⟩


end Go.Proofs.YtnfknekbbdfdfaaDoor
