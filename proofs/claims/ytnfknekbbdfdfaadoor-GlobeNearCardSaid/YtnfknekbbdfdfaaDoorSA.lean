/- The chapter's examples: 'sane' of chapter 5 returns true. -/
import Derived.Test.YtnfknekbbdfdfaaDoorGC
import Derived.Test.YtnfknekbbdfdfaaDoorGE
import Derived.Test.YtnfknekbbdfdfaaDoorGF
import Derived.Test.YtnfknekbbdfdfaaDoorGG
import Derived.Test.YtnfknekbbdfdfaaDoorGS
import Derived.Test.YtnfknekbbdfdfaaDoorG8
import Derived.Test.YtnfknekbbdfdfaaDoorG9
namespace Go.Proofs.YtnfknekbbdfdfaaDoor
open Go.RowKit
open Globe

def exB : List Int := boxL 46 3 4 2
def exS : List Int := shiftL exB 3
def exO : List Int := putL zeroL 0 0
def exW : List Int := growL exO 2
def exU : List Int := unionL exB exS
def exM : List Int := meetL exB exS
def exD : List Int := lessL exB exS
theorem exB_v : validL exB = true := box_valid _ _ _ _
theorem exS_v : validL exS = true := shift_valid _ _
theorem exO_v : validL exO = true := valid_put valid_zero (by decide)
theorem exW_v : validL exW = true := growL_valid exO_v 2
theorem exU_v : validL exU = true := union_valid exB_v exS_v
theorem exM_v : validL exM = true := meet_valid exB_v
theorem exD_v : validL exD = true := less_valid exB_v
theorem exB_3 : nth exB 3 = 211106232532995 := by decide +kernel
theorem exB_4 : nth exB 4 = 211106232532995 := by decide +kernel
theorem exB_5 : nth exB 5 = 0 := by decide +kernel
theorem exS_3 : nth exS 3 = 30 := by decide +kernel
theorem exS_4 : nth exS 4 = 30 := by decide +kernel
theorem exB_n : (cellsTo exB 24).length = 8 := by decide +kernel
theorem exW_n : (cellsTo exW 24).length = 15 := by decide +kernel
theorem exU_n : (cellsTo exU 24).length = 14 := by decide +kernel
theorem exM_n : (cellsTo exM 24).length = 2 := by decide +kernel
theorem exD_n : (cellsTo exD 24).length = 6 := by decide +kernel
theorem ex_c1 : containsB exU exB = true := by decide +kernel
theorem ex_c2 : containsB exB exU = false := by decide +kernel
theorem ex_h1 : hasL exB 0 4 = true := by decide +kernel
theorem ex_h2 : hasL exB 2 4 = false := by decide +kernel
theorem ex_ne : decide (exB = exS) = false := by decide +kernel
theorem ex_n1 : nearI 46 3 1 5 = 3 := by decide +kernel
theorem ex_n2 : nearI 0 0 24 0 = 24 := by decide +kernel
theorem ex_n3 : nearI 48 0 0 0 = -1 := by decide +kernel

set_option maxRecDepth 100000 in
set_option maxHeartbeats 8000000 in
theorem sane_c (w : World) (hT : Tab w) : Calls Tryd.prog 10 #[] w fun e w' => e = .returned (.bool true) ∧ Ext w w' := by
  have HT := Lib.hid hT; clear hT
  go_enter Tryd.func10, Tryd.ntmps10
  go_wp2_with fail
  refine calls_name (fun V => Ext w V) (by (repeat' (first | (with_reducible assumption) | (with_reducible exact Ext.refl _) | (with_reducible refine Ext.alloc ?_ _) | (with_reducible refine Ext.drew ?_) | (with_reducible refine Ext.drewN ?_ _) | (with_reducible refine Ext.setCell ?_ ?_ _) | (with_reducible refine Ext.trans ?_ (by assumption)) | go_size))) ?_
  intro V hE
  refine (Box_v 46 3 4 2 _ (by decide)).mono ?_
  rintro e w1 ⟨B1, k1, rfl, hB, hr, hv, hb⟩
  have hc := hb.cellE; have hf := hb.frozenE; have hz := hb.size; have ha := alloc_keeps w1; (try simp only [World.size_alloc] at hc hf hz); (try simp only [World.size_setCell] at hc hf hz); (try simp only [World.size_drew] at hc hf hz)
  replace hv : VA w1 B1 0 exB := hv
  replace hr : RowsAt w1 B1 exB := hr
  have q3 := hr.cell (i := 3) (by omega)
  rw [exB_3] at q3
  have q4 := hr.cell (i := 4) (by omega)
  rw [exB_4] at q4
  have q5 := hr.cell (i := 5) (by omega)
  rw [exB_5] at q5
  clear hr hB
  go_wp2_with fail
  obtain ⟨O1, hO⟩ : ∃ O, O = w1.heap.size := ⟨_, rfl⟩
  rw [← hO]
  refine calls_name (fun V => Ext w V ∧ VA V B1 0 exB ∧ V.cell? ⟨B1, 3, none⟩ = some (.int .i64 211106232532995) ∧ V.cell? ⟨B1, 4, none⟩ = some (.int .i64 211106232532995) ∧ V.cell? ⟨B1, 5, none⟩ = some (.int .i64 0) ∧ V.cell? ⟨O1, 0, none⟩ = some (.slice (some ⟨B1, 0, none⟩) 24 k1)) ⟨hE.trans (by first | exact hb | exact Ext.alloc hb _ | exact Ext.alloc (Ext.alloc hb _) _), hv.ext (by first | exact Ext.refl _ | exact Ext.alloc (Ext.refl _) _ | exact Ext.alloc (Ext.alloc (Ext.refl _) _) _), Ext.cell (by first | exact Ext.refl _ | exact Ext.alloc (Ext.refl _) _ | exact Ext.alloc (Ext.alloc (Ext.refl _) _) _) q3, Ext.cell (by first | exact Ext.refl _ | exact Ext.alloc (Ext.refl _) _ | exact Ext.alloc (Ext.alloc (Ext.refl _) _) _) q4, Ext.cell (by first | exact Ext.refl _ | exact Ext.alloc (Ext.refl _) _ | exact Ext.alloc (Ext.alloc (Ext.refl _) _) _) q5, by rw [hO]; simp [go_sem]⟩ ?_
  clear hE  hb hc hf hz ha hO hv q3 q4 q5
  rintro V ⟨hE, vB, b3, b4, b5, cO1⟩
  have lvB := vB.lt
  have lcO1 := World.block_lt_of_cell? V _ cO1
  refine (Shifted_v k1 3 _ vB (Ext.refl _)).mono ?_
  rintro e w1 ⟨B2, k2, rfl, hB, hr, hv, hb⟩
  have hc := hb.cellE; have hf := hb.frozenE; have hz := hb.size; have ha := alloc_keeps w1; (try simp only [World.size_alloc] at hc hf hz); (try simp only [World.size_setCell] at hc hf hz); (try simp only [World.size_drew] at hc hf hz)
  replace hv : VA w1 B2 0 exS := hv
  replace hr : RowsAt w1 B2 exS := hr
  have q3 := hr.cell (i := 3) (by omega)
  rw [exS_3] at q3
  have q4 := hr.cell (i := 4) (by omega)
  rw [exS_4] at q4
  clear hr hB
  go_wp2_with fail
  obtain ⟨O2, hO⟩ : ∃ O, O = w1.heap.size := ⟨_, rfl⟩
  rw [← hO]
  refine calls_name (fun V => Ext w V ∧ VA V B1 0 exB ∧ V.cell? ⟨B1, 3, none⟩ = some (.int .i64 211106232532995) ∧ V.cell? ⟨B1, 4, none⟩ = some (.int .i64 211106232532995) ∧ V.cell? ⟨B1, 5, none⟩ = some (.int .i64 0) ∧ V.cell? ⟨O1, 0, none⟩ = some (.slice (some ⟨B1, 0, none⟩) 24 k1) ∧ VA V B2 0 exS ∧ V.cell? ⟨B2, 3, none⟩ = some (.int .i64 30) ∧ V.cell? ⟨B2, 4, none⟩ = some (.int .i64 30) ∧ V.cell? ⟨O2, 0, none⟩ = some (.slice (some ⟨B2, 0, none⟩) 24 k2)) ⟨hE.trans (by first | exact hb | exact Ext.alloc hb _ | exact Ext.alloc (Ext.alloc hb _) _), vB.ext (by first | exact hb | exact Ext.alloc hb _ | exact Ext.alloc (Ext.alloc hb _) _), Ext.cell (by first | exact hb | exact Ext.alloc hb _ | exact Ext.alloc (Ext.alloc hb _) _) b3, Ext.cell (by first | exact hb | exact Ext.alloc hb _ | exact Ext.alloc (Ext.alloc hb _) _) b4, Ext.cell (by first | exact hb | exact Ext.alloc hb _ | exact Ext.alloc (Ext.alloc hb _) _) b5, Ext.cell (by first | exact hb | exact Ext.alloc hb _ | exact Ext.alloc (Ext.alloc hb _) _) cO1, hv.ext (by first | exact Ext.refl _ | exact Ext.alloc (Ext.refl _) _ | exact Ext.alloc (Ext.alloc (Ext.refl _) _) _), Ext.cell (by first | exact Ext.refl _ | exact Ext.alloc (Ext.refl _) _ | exact Ext.alloc (Ext.alloc (Ext.refl _) _) _) q3, Ext.cell (by first | exact Ext.refl _ | exact Ext.alloc (Ext.refl _) _ | exact Ext.alloc (Ext.alloc (Ext.refl _) _) _) q4, by rw [hO]; simp [go_sem]⟩ ?_
  clear hE vB b3 b4 b5 cO1 lvB lcO1 hb hc hf hz ha hO hv q3 q4
  rintro V ⟨hE, vB, b3, b4, b5, cO1, vS, s3, s4, cO2⟩
  have lvB := vB.lt
  have lcO1 := World.block_lt_of_cell? V _ cO1
  have lvS := vS.lt
  have lcO2 := World.block_lt_of_cell? V _ cO2
  refine (Empty_c _).mono ?_
  rintro e w1 ⟨B3, rfl, hB, hr, hb⟩
  have hc := hb.cellE; have hf := hb.frozenE; have hz := hb.size; have ha := alloc_keeps w1; (try simp only [World.size_alloc] at hc hf hz); (try simp only [World.size_setCell] at hc hf hz); (try simp only [World.size_drew] at hc hf hz)
  have hv := hr.va valid_zero
  clear hr hB
  go_wp2_with fail
  refine calls_name (fun V => Ext w V ∧ VA V B1 0 exB ∧ V.cell? ⟨B1, 3, none⟩ = some (.int .i64 211106232532995) ∧ V.cell? ⟨B1, 4, none⟩ = some (.int .i64 211106232532995) ∧ V.cell? ⟨B1, 5, none⟩ = some (.int .i64 0) ∧ V.cell? ⟨O1, 0, none⟩ = some (.slice (some ⟨B1, 0, none⟩) 24 k1) ∧ VA V B2 0 exS ∧ V.cell? ⟨B2, 3, none⟩ = some (.int .i64 30) ∧ V.cell? ⟨B2, 4, none⟩ = some (.int .i64 30) ∧ V.cell? ⟨O2, 0, none⟩ = some (.slice (some ⟨B2, 0, none⟩) 24 k2) ∧ VA V B3 0 zeroL) ⟨hE.trans (by first | exact hb | exact Ext.alloc hb _ | exact Ext.alloc (Ext.alloc hb _) _), vB.ext (by first | exact hb | exact Ext.alloc hb _ | exact Ext.alloc (Ext.alloc hb _) _), Ext.cell (by first | exact hb | exact Ext.alloc hb _ | exact Ext.alloc (Ext.alloc hb _) _) b3, Ext.cell (by first | exact hb | exact Ext.alloc hb _ | exact Ext.alloc (Ext.alloc hb _) _) b4, Ext.cell (by first | exact hb | exact Ext.alloc hb _ | exact Ext.alloc (Ext.alloc hb _) _) b5, Ext.cell (by first | exact hb | exact Ext.alloc hb _ | exact Ext.alloc (Ext.alloc hb _) _) cO1, vS.ext (by first | exact hb | exact Ext.alloc hb _ | exact Ext.alloc (Ext.alloc hb _) _), Ext.cell (by first | exact hb | exact Ext.alloc hb _ | exact Ext.alloc (Ext.alloc hb _) _) s3, Ext.cell (by first | exact hb | exact Ext.alloc hb _ | exact Ext.alloc (Ext.alloc hb _) _) s4, Ext.cell (by first | exact hb | exact Ext.alloc hb _ | exact Ext.alloc (Ext.alloc hb _) _) cO2, hv.ext (by first | exact Ext.refl _ | exact Ext.alloc (Ext.refl _) _ | exact Ext.alloc (Ext.alloc (Ext.refl _) _) _)⟩ ?_
  clear hE vB b3 b4 b5 cO1 vS s3 s4 cO2 lvB lcO1 lvS lcO2 hb hc hf hz ha hv
  rintro V ⟨hE, vB, b3, b4, b5, cO1, vS, s3, s4, cO2, vZ⟩
  have lvB := vB.lt
  have lcO1 := World.block_lt_of_cell? V _ cO1
  have lvS := vS.lt
  have lcO2 := World.block_lt_of_cell? V _ cO2
  have lvZ := vZ.lt
  refine (With_v 24 0 0 _ vZ (Ext.refl _) (by decide) (by decide)).mono ?_
  rintro e w1 ⟨B4, k4, rfl, hB, hr, hv, hb⟩
  have hc := hb.cellE; have hf := hb.frozenE; have hz := hb.size; have ha := alloc_keeps w1; (try simp only [World.size_alloc] at hc hf hz); (try simp only [World.size_setCell] at hc hf hz); (try simp only [World.size_drew] at hc hf hz)
  replace hv : VA w1 B4 0 exO := hv
  clear hr hB
  go_wp2_with fail
  obtain ⟨O3, hO⟩ : ∃ O, O = w1.heap.size := ⟨_, rfl⟩
  rw [← hO]
  refine calls_name (fun V => Ext w V ∧ VA V B1 0 exB ∧ V.cell? ⟨B1, 3, none⟩ = some (.int .i64 211106232532995) ∧ V.cell? ⟨B1, 4, none⟩ = some (.int .i64 211106232532995) ∧ V.cell? ⟨B1, 5, none⟩ = some (.int .i64 0) ∧ V.cell? ⟨O1, 0, none⟩ = some (.slice (some ⟨B1, 0, none⟩) 24 k1) ∧ VA V B2 0 exS ∧ V.cell? ⟨B2, 3, none⟩ = some (.int .i64 30) ∧ V.cell? ⟨B2, 4, none⟩ = some (.int .i64 30) ∧ V.cell? ⟨O2, 0, none⟩ = some (.slice (some ⟨B2, 0, none⟩) 24 k2) ∧ VA V B4 0 exO ∧ V.cell? ⟨O3, 0, none⟩ = some (.slice (some ⟨B4, 0, none⟩) 24 k4)) ⟨hE.trans (by first | exact hb | exact Ext.alloc hb _ | exact Ext.alloc (Ext.alloc hb _) _), vB.ext (by first | exact hb | exact Ext.alloc hb _ | exact Ext.alloc (Ext.alloc hb _) _), Ext.cell (by first | exact hb | exact Ext.alloc hb _ | exact Ext.alloc (Ext.alloc hb _) _) b3, Ext.cell (by first | exact hb | exact Ext.alloc hb _ | exact Ext.alloc (Ext.alloc hb _) _) b4, Ext.cell (by first | exact hb | exact Ext.alloc hb _ | exact Ext.alloc (Ext.alloc hb _) _) b5, Ext.cell (by first | exact hb | exact Ext.alloc hb _ | exact Ext.alloc (Ext.alloc hb _) _) cO1, vS.ext (by first | exact hb | exact Ext.alloc hb _ | exact Ext.alloc (Ext.alloc hb _) _), Ext.cell (by first | exact hb | exact Ext.alloc hb _ | exact Ext.alloc (Ext.alloc hb _) _) s3, Ext.cell (by first | exact hb | exact Ext.alloc hb _ | exact Ext.alloc (Ext.alloc hb _) _) s4, Ext.cell (by first | exact hb | exact Ext.alloc hb _ | exact Ext.alloc (Ext.alloc hb _) _) cO2, hv.ext (by first | exact Ext.refl _ | exact Ext.alloc (Ext.refl _) _ | exact Ext.alloc (Ext.alloc (Ext.refl _) _) _), by rw [hO]; simp [go_sem]⟩ ?_
  clear hE vB b3 b4 b5 cO1 vS s3 s4 cO2 vZ lvB lcO1 lvS lcO2 lvZ hb hc hf hz ha hO hv
  rintro V ⟨hE, vB, b3, b4, b5, cO1, vS, s3, s4, cO2, vO, cO3⟩
  have lvB := vB.lt
  have lcO1 := World.block_lt_of_cell? V _ cO1
  have lvS := vS.lt
  have lcO2 := World.block_lt_of_cell? V _ cO2
  have lvO := vO.lt
  have lcO3 := World.block_lt_of_cell? V _ cO3
  refine (Grown_v k4 2 _ vO (Ext.refl _) (by decide)).mono ?_
  rintro e w1 ⟨B5, k5, rfl, hB, hr, hv, hb⟩
  have hc := hb.cellE; have hf := hb.frozenE; have hz := hb.size; have ha := alloc_keeps w1; (try simp only [World.size_alloc] at hc hf hz); (try simp only [World.size_setCell] at hc hf hz); (try simp only [World.size_drew] at hc hf hz)
  replace hv : VA w1 B5 0 exW := hv
  clear hr hB
  go_wp2_with fail
  obtain ⟨O4, hO⟩ : ∃ O, O = w1.heap.size := ⟨_, rfl⟩
  rw [← hO]
  refine calls_name (fun V => Ext w V ∧ VA V B1 0 exB ∧ V.cell? ⟨B1, 3, none⟩ = some (.int .i64 211106232532995) ∧ V.cell? ⟨B1, 4, none⟩ = some (.int .i64 211106232532995) ∧ V.cell? ⟨B1, 5, none⟩ = some (.int .i64 0) ∧ V.cell? ⟨O1, 0, none⟩ = some (.slice (some ⟨B1, 0, none⟩) 24 k1) ∧ VA V B2 0 exS ∧ V.cell? ⟨B2, 3, none⟩ = some (.int .i64 30) ∧ V.cell? ⟨B2, 4, none⟩ = some (.int .i64 30) ∧ V.cell? ⟨O2, 0, none⟩ = some (.slice (some ⟨B2, 0, none⟩) 24 k2) ∧ VA V B4 0 exO ∧ V.cell? ⟨O3, 0, none⟩ = some (.slice (some ⟨B4, 0, none⟩) 24 k4) ∧ VA V B5 0 exW ∧ V.cell? ⟨O4, 0, none⟩ = some (.slice (some ⟨B5, 0, none⟩) 24 k5)) ⟨hE.trans (by first | exact hb | exact Ext.alloc hb _ | exact Ext.alloc (Ext.alloc hb _) _), vB.ext (by first | exact hb | exact Ext.alloc hb _ | exact Ext.alloc (Ext.alloc hb _) _), Ext.cell (by first | exact hb | exact Ext.alloc hb _ | exact Ext.alloc (Ext.alloc hb _) _) b3, Ext.cell (by first | exact hb | exact Ext.alloc hb _ | exact Ext.alloc (Ext.alloc hb _) _) b4, Ext.cell (by first | exact hb | exact Ext.alloc hb _ | exact Ext.alloc (Ext.alloc hb _) _) b5, Ext.cell (by first | exact hb | exact Ext.alloc hb _ | exact Ext.alloc (Ext.alloc hb _) _) cO1, vS.ext (by first | exact hb | exact Ext.alloc hb _ | exact Ext.alloc (Ext.alloc hb _) _), Ext.cell (by first | exact hb | exact Ext.alloc hb _ | exact Ext.alloc (Ext.alloc hb _) _) s3, Ext.cell (by first | exact hb | exact Ext.alloc hb _ | exact Ext.alloc (Ext.alloc hb _) _) s4, Ext.cell (by first | exact hb | exact Ext.alloc hb _ | exact Ext.alloc (Ext.alloc hb _) _) cO2, vO.ext (by first | exact hb | exact Ext.alloc hb _ | exact Ext.alloc (Ext.alloc hb _) _), Ext.cell (by first | exact hb | exact Ext.alloc hb _ | exact Ext.alloc (Ext.alloc hb _) _) cO3, hv.ext (by first | exact Ext.refl _ | exact Ext.alloc (Ext.refl _) _ | exact Ext.alloc (Ext.alloc (Ext.refl _) _) _), by rw [hO]; simp [go_sem]⟩ ?_
  clear hE vB b3 b4 b5 cO1 vS s3 s4 cO2 vO cO3 lvB lcO1 lvS lcO2 lvO lcO3 hb hc hf hz ha hO hv
  rintro V ⟨hE, vB, b3, b4, b5, cO1, vS, s3, s4, cO2, vO, cO3, vW, cO4⟩
  have lvB := vB.lt
  have lcO1 := World.block_lt_of_cell? V _ cO1
  have lvS := vS.lt
  have lcO2 := World.block_lt_of_cell? V _ cO2
  have lvO := vO.lt
  have lcO3 := World.block_lt_of_cell? V _ cO3
  have lvW := vW.lt
  have lcO4 := World.block_lt_of_cell? V _ cO4
  refine (Box_n 0 23 1 2 _ (by decide)).mono ?_
  rintro e w1 ⟨rfl, hb⟩
  have hc := hb.cellE; have hf := hb.frozenE; have hz := hb.size; have ha := alloc_keeps w1; (try simp only [World.size_alloc] at hc hf hz); (try simp only [World.size_setCell] at hc hf hz); (try simp only [World.size_drew] at hc hf hz)
  go_wp2_with fail
  refine calls_name (fun V => Ext w V ∧ VA V B1 0 exB ∧ V.cell? ⟨B1, 3, none⟩ = some (.int .i64 211106232532995) ∧ V.cell? ⟨B1, 4, none⟩ = some (.int .i64 211106232532995) ∧ V.cell? ⟨B1, 5, none⟩ = some (.int .i64 0) ∧ V.cell? ⟨O1, 0, none⟩ = some (.slice (some ⟨B1, 0, none⟩) 24 k1) ∧ VA V B2 0 exS ∧ V.cell? ⟨B2, 3, none⟩ = some (.int .i64 30) ∧ V.cell? ⟨B2, 4, none⟩ = some (.int .i64 30) ∧ V.cell? ⟨O2, 0, none⟩ = some (.slice (some ⟨B2, 0, none⟩) 24 k2) ∧ VA V B4 0 exO ∧ V.cell? ⟨O3, 0, none⟩ = some (.slice (some ⟨B4, 0, none⟩) 24 k4) ∧ VA V B5 0 exW ∧ V.cell? ⟨O4, 0, none⟩ = some (.slice (some ⟨B5, 0, none⟩) 24 k5)) ⟨hE.trans (by first | exact hb | exact Ext.alloc hb _ | exact Ext.alloc (Ext.alloc hb _) _), vB.ext (by first | exact hb | exact Ext.alloc hb _ | exact Ext.alloc (Ext.alloc hb _) _), Ext.cell (by first | exact hb | exact Ext.alloc hb _ | exact Ext.alloc (Ext.alloc hb _) _) b3, Ext.cell (by first | exact hb | exact Ext.alloc hb _ | exact Ext.alloc (Ext.alloc hb _) _) b4, Ext.cell (by first | exact hb | exact Ext.alloc hb _ | exact Ext.alloc (Ext.alloc hb _) _) b5, Ext.cell (by first | exact hb | exact Ext.alloc hb _ | exact Ext.alloc (Ext.alloc hb _) _) cO1, vS.ext (by first | exact hb | exact Ext.alloc hb _ | exact Ext.alloc (Ext.alloc hb _) _), Ext.cell (by first | exact hb | exact Ext.alloc hb _ | exact Ext.alloc (Ext.alloc hb _) _) s3, Ext.cell (by first | exact hb | exact Ext.alloc hb _ | exact Ext.alloc (Ext.alloc hb _) _) s4, Ext.cell (by first | exact hb | exact Ext.alloc hb _ | exact Ext.alloc (Ext.alloc hb _) _) cO2, vO.ext (by first | exact hb | exact Ext.alloc hb _ | exact Ext.alloc (Ext.alloc hb _) _), Ext.cell (by first | exact hb | exact Ext.alloc hb _ | exact Ext.alloc (Ext.alloc hb _) _) cO3, vW.ext (by first | exact hb | exact Ext.alloc hb _ | exact Ext.alloc (Ext.alloc hb _) _), Ext.cell (by first | exact hb | exact Ext.alloc hb _ | exact Ext.alloc (Ext.alloc hb _) _) cO4⟩ ?_
  clear hE vB b3 b4 b5 cO1 vS s3 s4 cO2 vO cO3 vW cO4 lvB lcO1 lvS lcO2 lvO lcO3 lvW lcO4 hb hc hf hz ha
  rintro V ⟨hE, vB, b3, b4, b5, cO1, vS, s3, s4, cO2, vO, cO3, vW, cO4⟩
  have lvB := vB.lt
  have lcO1 := World.block_lt_of_cell? V _ cO1
  have lvS := vS.lt
  have lcO2 := World.block_lt_of_cell? V _ cO2
  have lvO := vO.lt
  have lcO3 := World.block_lt_of_cell? V _ cO3
  have lvW := vW.lt
  have lcO4 := World.block_lt_of_cell? V _ cO4
  refine (Grown_n _ exO 24 k4 true 25 _ vO.aa (by decide)).mono ?_
  rintro e w1 ⟨rfl, hb⟩
  have hc := hb.cellE; have hf := hb.frozenE; have hz := hb.size; have ha := alloc_keeps w1; (try simp only [World.size_alloc] at hc hf hz); (try simp only [World.size_setCell] at hc hf hz); (try simp only [World.size_drew] at hc hf hz)
  go_wp2_with fail
  refine calls_name (fun V => Ext w V ∧ VA V B1 0 exB ∧ V.cell? ⟨B1, 3, none⟩ = some (.int .i64 211106232532995) ∧ V.cell? ⟨B1, 4, none⟩ = some (.int .i64 211106232532995) ∧ V.cell? ⟨B1, 5, none⟩ = some (.int .i64 0) ∧ V.cell? ⟨O1, 0, none⟩ = some (.slice (some ⟨B1, 0, none⟩) 24 k1) ∧ VA V B2 0 exS ∧ V.cell? ⟨B2, 3, none⟩ = some (.int .i64 30) ∧ V.cell? ⟨B2, 4, none⟩ = some (.int .i64 30) ∧ V.cell? ⟨O2, 0, none⟩ = some (.slice (some ⟨B2, 0, none⟩) 24 k2) ∧ VA V B5 0 exW ∧ V.cell? ⟨O4, 0, none⟩ = some (.slice (some ⟨B5, 0, none⟩) 24 k5)) ⟨hE.trans (by first | exact hb | exact Ext.alloc hb _ | exact Ext.alloc (Ext.alloc hb _) _), vB.ext (by first | exact hb | exact Ext.alloc hb _ | exact Ext.alloc (Ext.alloc hb _) _), Ext.cell (by first | exact hb | exact Ext.alloc hb _ | exact Ext.alloc (Ext.alloc hb _) _) b3, Ext.cell (by first | exact hb | exact Ext.alloc hb _ | exact Ext.alloc (Ext.alloc hb _) _) b4, Ext.cell (by first | exact hb | exact Ext.alloc hb _ | exact Ext.alloc (Ext.alloc hb _) _) b5, Ext.cell (by first | exact hb | exact Ext.alloc hb _ | exact Ext.alloc (Ext.alloc hb _) _) cO1, vS.ext (by first | exact hb | exact Ext.alloc hb _ | exact Ext.alloc (Ext.alloc hb _) _), Ext.cell (by first | exact hb | exact Ext.alloc hb _ | exact Ext.alloc (Ext.alloc hb _) _) s3, Ext.cell (by first | exact hb | exact Ext.alloc hb _ | exact Ext.alloc (Ext.alloc hb _) _) s4, Ext.cell (by first | exact hb | exact Ext.alloc hb _ | exact Ext.alloc (Ext.alloc hb _) _) cO2, vW.ext (by first | exact hb | exact Ext.alloc hb _ | exact Ext.alloc (Ext.alloc hb _) _), Ext.cell (by first | exact hb | exact Ext.alloc hb _ | exact Ext.alloc (Ext.alloc hb _) _) cO4⟩ ?_
  clear hE vB b3 b4 b5 cO1 vS s3 s4 cO2 vO cO3 vW cO4 lvB lcO1 lvS lcO2 lvO lcO3 lvW lcO4 hb hc hf hz ha
  rintro V ⟨hE, vB, b3, b4, b5, cO1, vS, s3, s4, cO2, vW, cO4⟩
  have lvB := vB.lt
  have lcO1 := World.block_lt_of_cell? V _ cO1
  have lvS := vS.lt
  have lcO2 := World.block_lt_of_cell? V _ cO2
  have lvW := vW.lt
  have lcO4 := World.block_lt_of_cell? V _ cO4
  refine (Near_c 46 3 1 5 _).mono ?_
  rintro e w1 ⟨rfl, hb⟩
  have hc := hb.cellE; have hf := hb.frozenE; have hz := hb.size; have ha := alloc_keeps w1; (try simp only [World.size_alloc] at hc hf hz); (try simp only [World.size_setCell] at hc hf hz); (try simp only [World.size_drew] at hc hf hz)
  rw [ex_n1]
  go_wp2_with fail
  refine calls_name (fun V => Ext w V ∧ VA V B1 0 exB ∧ V.cell? ⟨B1, 3, none⟩ = some (.int .i64 211106232532995) ∧ V.cell? ⟨B1, 4, none⟩ = some (.int .i64 211106232532995) ∧ V.cell? ⟨B1, 5, none⟩ = some (.int .i64 0) ∧ V.cell? ⟨O1, 0, none⟩ = some (.slice (some ⟨B1, 0, none⟩) 24 k1) ∧ VA V B2 0 exS ∧ V.cell? ⟨B2, 3, none⟩ = some (.int .i64 30) ∧ V.cell? ⟨B2, 4, none⟩ = some (.int .i64 30) ∧ V.cell? ⟨O2, 0, none⟩ = some (.slice (some ⟨B2, 0, none⟩) 24 k2) ∧ VA V B5 0 exW ∧ V.cell? ⟨O4, 0, none⟩ = some (.slice (some ⟨B5, 0, none⟩) 24 k5)) ⟨hE.trans (by first | exact hb | exact Ext.alloc hb _ | exact Ext.alloc (Ext.alloc hb _) _), vB.ext (by first | exact hb | exact Ext.alloc hb _ | exact Ext.alloc (Ext.alloc hb _) _), Ext.cell (by first | exact hb | exact Ext.alloc hb _ | exact Ext.alloc (Ext.alloc hb _) _) b3, Ext.cell (by first | exact hb | exact Ext.alloc hb _ | exact Ext.alloc (Ext.alloc hb _) _) b4, Ext.cell (by first | exact hb | exact Ext.alloc hb _ | exact Ext.alloc (Ext.alloc hb _) _) b5, Ext.cell (by first | exact hb | exact Ext.alloc hb _ | exact Ext.alloc (Ext.alloc hb _) _) cO1, vS.ext (by first | exact hb | exact Ext.alloc hb _ | exact Ext.alloc (Ext.alloc hb _) _), Ext.cell (by first | exact hb | exact Ext.alloc hb _ | exact Ext.alloc (Ext.alloc hb _) _) s3, Ext.cell (by first | exact hb | exact Ext.alloc hb _ | exact Ext.alloc (Ext.alloc hb _) _) s4, Ext.cell (by first | exact hb | exact Ext.alloc hb _ | exact Ext.alloc (Ext.alloc hb _) _) cO2, vW.ext (by first | exact hb | exact Ext.alloc hb _ | exact Ext.alloc (Ext.alloc hb _) _), Ext.cell (by first | exact hb | exact Ext.alloc hb _ | exact Ext.alloc (Ext.alloc hb _) _) cO4⟩ ?_
  clear hE vB b3 b4 b5 cO1 vS s3 s4 cO2 vW cO4 lvB lcO1 lvS lcO2 lvW lcO4 hb hc hf hz ha
  rintro V ⟨hE, vB, b3, b4, b5, cO1, vS, s3, s4, cO2, vW, cO4⟩
  have lvB := vB.lt
  have lcO1 := World.block_lt_of_cell? V _ cO1
  have lvS := vS.lt
  have lcO2 := World.block_lt_of_cell? V _ cO2
  have lvW := vW.lt
  have lcO4 := World.block_lt_of_cell? V _ cO4
  refine (Near_c 0 0 24 0 _).mono ?_
  rintro e w1 ⟨rfl, hb⟩
  have hc := hb.cellE; have hf := hb.frozenE; have hz := hb.size; have ha := alloc_keeps w1; (try simp only [World.size_alloc] at hc hf hz); (try simp only [World.size_setCell] at hc hf hz); (try simp only [World.size_drew] at hc hf hz)
  rw [ex_n2]
  go_wp2_with fail
  refine calls_name (fun V => Ext w V ∧ VA V B1 0 exB ∧ V.cell? ⟨B1, 3, none⟩ = some (.int .i64 211106232532995) ∧ V.cell? ⟨B1, 4, none⟩ = some (.int .i64 211106232532995) ∧ V.cell? ⟨B1, 5, none⟩ = some (.int .i64 0) ∧ V.cell? ⟨O1, 0, none⟩ = some (.slice (some ⟨B1, 0, none⟩) 24 k1) ∧ VA V B2 0 exS ∧ V.cell? ⟨B2, 3, none⟩ = some (.int .i64 30) ∧ V.cell? ⟨B2, 4, none⟩ = some (.int .i64 30) ∧ V.cell? ⟨O2, 0, none⟩ = some (.slice (some ⟨B2, 0, none⟩) 24 k2) ∧ VA V B5 0 exW ∧ V.cell? ⟨O4, 0, none⟩ = some (.slice (some ⟨B5, 0, none⟩) 24 k5)) ⟨hE.trans (by first | exact hb | exact Ext.alloc hb _ | exact Ext.alloc (Ext.alloc hb _) _), vB.ext (by first | exact hb | exact Ext.alloc hb _ | exact Ext.alloc (Ext.alloc hb _) _), Ext.cell (by first | exact hb | exact Ext.alloc hb _ | exact Ext.alloc (Ext.alloc hb _) _) b3, Ext.cell (by first | exact hb | exact Ext.alloc hb _ | exact Ext.alloc (Ext.alloc hb _) _) b4, Ext.cell (by first | exact hb | exact Ext.alloc hb _ | exact Ext.alloc (Ext.alloc hb _) _) b5, Ext.cell (by first | exact hb | exact Ext.alloc hb _ | exact Ext.alloc (Ext.alloc hb _) _) cO1, vS.ext (by first | exact hb | exact Ext.alloc hb _ | exact Ext.alloc (Ext.alloc hb _) _), Ext.cell (by first | exact hb | exact Ext.alloc hb _ | exact Ext.alloc (Ext.alloc hb _) _) s3, Ext.cell (by first | exact hb | exact Ext.alloc hb _ | exact Ext.alloc (Ext.alloc hb _) _) s4, Ext.cell (by first | exact hb | exact Ext.alloc hb _ | exact Ext.alloc (Ext.alloc hb _) _) cO2, vW.ext (by first | exact hb | exact Ext.alloc hb _ | exact Ext.alloc (Ext.alloc hb _) _), Ext.cell (by first | exact hb | exact Ext.alloc hb _ | exact Ext.alloc (Ext.alloc hb _) _) cO4⟩ ?_
  clear hE vB b3 b4 b5 cO1 vS s3 s4 cO2 vW cO4 lvB lcO1 lvS lcO2 lvW lcO4 hb hc hf hz ha
  rintro V ⟨hE, vB, b3, b4, b5, cO1, vS, s3, s4, cO2, vW, cO4⟩
  have lvB := vB.lt
  have lcO1 := World.block_lt_of_cell? V _ cO1
  have lvS := vS.lt
  have lcO2 := World.block_lt_of_cell? V _ cO2
  have lvW := vW.lt
  have lcO4 := World.block_lt_of_cell? V _ cO4
  refine (Near_c 48 0 0 0 _).mono ?_
  rintro e w1 ⟨rfl, hb⟩
  have hc := hb.cellE; have hf := hb.frozenE; have hz := hb.size; have ha := alloc_keeps w1; (try simp only [World.size_alloc] at hc hf hz); (try simp only [World.size_setCell] at hc hf hz); (try simp only [World.size_drew] at hc hf hz)
  rw [ex_n3]
  go_wp2_with fail
  refine calls_name (fun V => Ext w V ∧ VA V B1 0 exB ∧ V.cell? ⟨B1, 3, none⟩ = some (.int .i64 211106232532995) ∧ V.cell? ⟨B1, 4, none⟩ = some (.int .i64 211106232532995) ∧ V.cell? ⟨B1, 5, none⟩ = some (.int .i64 0) ∧ V.cell? ⟨O1, 0, none⟩ = some (.slice (some ⟨B1, 0, none⟩) 24 k1) ∧ VA V B2 0 exS ∧ V.cell? ⟨B2, 3, none⟩ = some (.int .i64 30) ∧ V.cell? ⟨B2, 4, none⟩ = some (.int .i64 30) ∧ V.cell? ⟨O2, 0, none⟩ = some (.slice (some ⟨B2, 0, none⟩) 24 k2) ∧ VA V B5 0 exW ∧ V.cell? ⟨O4, 0, none⟩ = some (.slice (some ⟨B5, 0, none⟩) 24 k5)) ⟨hE.trans (by first | exact hb | exact Ext.alloc hb _ | exact Ext.alloc (Ext.alloc hb _) _), vB.ext (by first | exact hb | exact Ext.alloc hb _ | exact Ext.alloc (Ext.alloc hb _) _), Ext.cell (by first | exact hb | exact Ext.alloc hb _ | exact Ext.alloc (Ext.alloc hb _) _) b3, Ext.cell (by first | exact hb | exact Ext.alloc hb _ | exact Ext.alloc (Ext.alloc hb _) _) b4, Ext.cell (by first | exact hb | exact Ext.alloc hb _ | exact Ext.alloc (Ext.alloc hb _) _) b5, Ext.cell (by first | exact hb | exact Ext.alloc hb _ | exact Ext.alloc (Ext.alloc hb _) _) cO1, vS.ext (by first | exact hb | exact Ext.alloc hb _ | exact Ext.alloc (Ext.alloc hb _) _), Ext.cell (by first | exact hb | exact Ext.alloc hb _ | exact Ext.alloc (Ext.alloc hb _) _) s3, Ext.cell (by first | exact hb | exact Ext.alloc hb _ | exact Ext.alloc (Ext.alloc hb _) _) s4, Ext.cell (by first | exact hb | exact Ext.alloc hb _ | exact Ext.alloc (Ext.alloc hb _) _) cO2, vW.ext (by first | exact hb | exact Ext.alloc hb _ | exact Ext.alloc (Ext.alloc hb _) _), Ext.cell (by first | exact hb | exact Ext.alloc hb _ | exact Ext.alloc (Ext.alloc hb _) _) cO4⟩ ?_
  clear hE vB b3 b4 b5 cO1 vS s3 s4 cO2 vW cO4 lvB lcO1 lvS lcO2 lvW lcO4 hb hc hf hz ha
  rintro V ⟨hE, vB, b3, b4, b5, cO1, vS, s3, s4, cO2, vW, cO4⟩
  have lvB := vB.lt
  have lcO1 := World.block_lt_of_cell? V _ cO1
  have lvS := vS.lt
  have lcO2 := World.block_lt_of_cell? V _ cO2
  have lvW := vW.lt
  have lcO4 := World.block_lt_of_cell? V _ cO4
  refine (Union_v k1 k2 _ vB (Ext.refl _) vS (Ext.refl _)).mono ?_
  rintro e w1 ⟨B6, k6, rfl, hB, hr, hv, hb⟩
  have hc := hb.cellE; have hf := hb.frozenE; have hz := hb.size; have ha := alloc_keeps w1; (try simp only [World.size_alloc] at hc hf hz); (try simp only [World.size_setCell] at hc hf hz); (try simp only [World.size_drew] at hc hf hz)
  replace hv : VA w1 B6 0 exU := hv
  clear hr hB
  go_wp2_with fail
  obtain ⟨O5, hO⟩ : ∃ O, O = w1.heap.size := ⟨_, rfl⟩
  rw [← hO]
  refine calls_name (fun V => Ext w V ∧ VA V B1 0 exB ∧ V.cell? ⟨O1, 0, none⟩ = some (.slice (some ⟨B1, 0, none⟩) 24 k1) ∧ VA V B2 0 exS ∧ V.cell? ⟨O2, 0, none⟩ = some (.slice (some ⟨B2, 0, none⟩) 24 k2) ∧ VA V B5 0 exW ∧ V.cell? ⟨O4, 0, none⟩ = some (.slice (some ⟨B5, 0, none⟩) 24 k5) ∧ VA V B6 0 exU ∧ V.cell? ⟨O5, 0, none⟩ = some (.slice (some ⟨B6, 0, none⟩) 24 k6)) ⟨hE.trans (by first | exact hb | exact Ext.alloc hb _ | exact Ext.alloc (Ext.alloc hb _) _), vB.ext (by first | exact hb | exact Ext.alloc hb _ | exact Ext.alloc (Ext.alloc hb _) _), Ext.cell (by first | exact hb | exact Ext.alloc hb _ | exact Ext.alloc (Ext.alloc hb _) _) cO1, vS.ext (by first | exact hb | exact Ext.alloc hb _ | exact Ext.alloc (Ext.alloc hb _) _), Ext.cell (by first | exact hb | exact Ext.alloc hb _ | exact Ext.alloc (Ext.alloc hb _) _) cO2, vW.ext (by first | exact hb | exact Ext.alloc hb _ | exact Ext.alloc (Ext.alloc hb _) _), Ext.cell (by first | exact hb | exact Ext.alloc hb _ | exact Ext.alloc (Ext.alloc hb _) _) cO4, hv.ext (by first | exact Ext.refl _ | exact Ext.alloc (Ext.refl _) _ | exact Ext.alloc (Ext.alloc (Ext.refl _) _) _), by rw [hO]; simp [go_sem]⟩ ?_
  clear hE vB b3 b4 b5 cO1 vS s3 s4 cO2 vW cO4 lvB lcO1 lvS lcO2 lvW lcO4 hb hc hf hz ha hO hv
  rintro V ⟨hE, vB, cO1, vS, cO2, vW, cO4, vU, cO5⟩
  have lvB := vB.lt
  have lcO1 := World.block_lt_of_cell? V _ cO1
  have lvS := vS.lt
  have lcO2 := World.block_lt_of_cell? V _ cO2
  have lvW := vW.lt
  have lcO4 := World.block_lt_of_cell? V _ cO4
  have lvU := vU.lt
  have lcO5 := World.block_lt_of_cell? V _ cO5
  refine (Meet_v k1 k2 _ vB (Ext.refl _) vS (Ext.refl _)).mono ?_
  rintro e w1 ⟨B7, k7, rfl, hB, hr, hv, hb⟩
  have hc := hb.cellE; have hf := hb.frozenE; have hz := hb.size; have ha := alloc_keeps w1; (try simp only [World.size_alloc] at hc hf hz); (try simp only [World.size_setCell] at hc hf hz); (try simp only [World.size_drew] at hc hf hz)
  replace hv : VA w1 B7 0 exM := hv
  clear hr hB
  go_wp2_with fail
  obtain ⟨O6, hO⟩ : ∃ O, O = w1.heap.size := ⟨_, rfl⟩
  rw [← hO]
  refine calls_name (fun V => Ext w V ∧ VA V B1 0 exB ∧ V.cell? ⟨O1, 0, none⟩ = some (.slice (some ⟨B1, 0, none⟩) 24 k1) ∧ VA V B2 0 exS ∧ V.cell? ⟨O2, 0, none⟩ = some (.slice (some ⟨B2, 0, none⟩) 24 k2) ∧ VA V B5 0 exW ∧ V.cell? ⟨O4, 0, none⟩ = some (.slice (some ⟨B5, 0, none⟩) 24 k5) ∧ VA V B6 0 exU ∧ V.cell? ⟨O5, 0, none⟩ = some (.slice (some ⟨B6, 0, none⟩) 24 k6) ∧ VA V B7 0 exM ∧ V.cell? ⟨O6, 0, none⟩ = some (.slice (some ⟨B7, 0, none⟩) 24 k7)) ⟨hE.trans (by first | exact hb | exact Ext.alloc hb _ | exact Ext.alloc (Ext.alloc hb _) _), vB.ext (by first | exact hb | exact Ext.alloc hb _ | exact Ext.alloc (Ext.alloc hb _) _), Ext.cell (by first | exact hb | exact Ext.alloc hb _ | exact Ext.alloc (Ext.alloc hb _) _) cO1, vS.ext (by first | exact hb | exact Ext.alloc hb _ | exact Ext.alloc (Ext.alloc hb _) _), Ext.cell (by first | exact hb | exact Ext.alloc hb _ | exact Ext.alloc (Ext.alloc hb _) _) cO2, vW.ext (by first | exact hb | exact Ext.alloc hb _ | exact Ext.alloc (Ext.alloc hb _) _), Ext.cell (by first | exact hb | exact Ext.alloc hb _ | exact Ext.alloc (Ext.alloc hb _) _) cO4, vU.ext (by first | exact hb | exact Ext.alloc hb _ | exact Ext.alloc (Ext.alloc hb _) _), Ext.cell (by first | exact hb | exact Ext.alloc hb _ | exact Ext.alloc (Ext.alloc hb _) _) cO5, hv.ext (by first | exact Ext.refl _ | exact Ext.alloc (Ext.refl _) _ | exact Ext.alloc (Ext.alloc (Ext.refl _) _) _), by rw [hO]; simp [go_sem]⟩ ?_
  clear hE vB cO1 vS cO2 vW cO4 vU cO5 lvB lcO1 lvS lcO2 lvW lcO4 lvU lcO5 hb hc hf hz ha hO hv
  rintro V ⟨hE, vB, cO1, vS, cO2, vW, cO4, vU, cO5, vM, cO6⟩
  have lvB := vB.lt
  have lcO1 := World.block_lt_of_cell? V _ cO1
  have lvS := vS.lt
  have lcO2 := World.block_lt_of_cell? V _ cO2
  have lvW := vW.lt
  have lcO4 := World.block_lt_of_cell? V _ cO4
  have lvU := vU.lt
  have lcO5 := World.block_lt_of_cell? V _ cO5
  have lvM := vM.lt
  have lcO6 := World.block_lt_of_cell? V _ cO6
  refine (Less_v k1 k2 _ vB (Ext.refl _) vS (Ext.refl _)).mono ?_
  rintro e w1 ⟨B8, k8, rfl, hB, hr, hv, hb⟩
  have hc := hb.cellE; have hf := hb.frozenE; have hz := hb.size; have ha := alloc_keeps w1; (try simp only [World.size_alloc] at hc hf hz); (try simp only [World.size_setCell] at hc hf hz); (try simp only [World.size_drew] at hc hf hz)
  replace hv : VA w1 B8 0 exD := hv
  clear hr hB
  go_wp2_with fail
  obtain ⟨O7, hO⟩ : ∃ O, O = w1.heap.size := ⟨_, rfl⟩
  rw [← hO]
  refine calls_name (fun V => Ext w V ∧ VA V B1 0 exB ∧ V.cell? ⟨O1, 0, none⟩ = some (.slice (some ⟨B1, 0, none⟩) 24 k1) ∧ VA V B2 0 exS ∧ V.cell? ⟨O2, 0, none⟩ = some (.slice (some ⟨B2, 0, none⟩) 24 k2) ∧ VA V B5 0 exW ∧ V.cell? ⟨O4, 0, none⟩ = some (.slice (some ⟨B5, 0, none⟩) 24 k5) ∧ VA V B6 0 exU ∧ V.cell? ⟨O5, 0, none⟩ = some (.slice (some ⟨B6, 0, none⟩) 24 k6) ∧ VA V B7 0 exM ∧ V.cell? ⟨O6, 0, none⟩ = some (.slice (some ⟨B7, 0, none⟩) 24 k7) ∧ VA V B8 0 exD ∧ V.cell? ⟨O7, 0, none⟩ = some (.slice (some ⟨B8, 0, none⟩) 24 k8)) ⟨hE.trans (by first | exact hb | exact Ext.alloc hb _ | exact Ext.alloc (Ext.alloc hb _) _), vB.ext (by first | exact hb | exact Ext.alloc hb _ | exact Ext.alloc (Ext.alloc hb _) _), Ext.cell (by first | exact hb | exact Ext.alloc hb _ | exact Ext.alloc (Ext.alloc hb _) _) cO1, vS.ext (by first | exact hb | exact Ext.alloc hb _ | exact Ext.alloc (Ext.alloc hb _) _), Ext.cell (by first | exact hb | exact Ext.alloc hb _ | exact Ext.alloc (Ext.alloc hb _) _) cO2, vW.ext (by first | exact hb | exact Ext.alloc hb _ | exact Ext.alloc (Ext.alloc hb _) _), Ext.cell (by first | exact hb | exact Ext.alloc hb _ | exact Ext.alloc (Ext.alloc hb _) _) cO4, vU.ext (by first | exact hb | exact Ext.alloc hb _ | exact Ext.alloc (Ext.alloc hb _) _), Ext.cell (by first | exact hb | exact Ext.alloc hb _ | exact Ext.alloc (Ext.alloc hb _) _) cO5, vM.ext (by first | exact hb | exact Ext.alloc hb _ | exact Ext.alloc (Ext.alloc hb _) _), Ext.cell (by first | exact hb | exact Ext.alloc hb _ | exact Ext.alloc (Ext.alloc hb _) _) cO6, hv.ext (by first | exact Ext.refl _ | exact Ext.alloc (Ext.refl _) _ | exact Ext.alloc (Ext.alloc (Ext.refl _) _) _), by rw [hO]; simp [go_sem]⟩ ?_
  clear hE vB cO1 vS cO2 vW cO4 vU cO5 vM cO6 lvB lcO1 lvS lcO2 lvW lcO4 lvU lcO5 lvM lcO6 hb hc hf hz ha hO hv
  rintro V ⟨hE, vB, cO1, vS, cO2, vW, cO4, vU, cO5, vM, cO6, vD, cO7⟩
  have lvB := vB.lt
  have lcO1 := World.block_lt_of_cell? V _ cO1
  have lvS := vS.lt
  have lcO2 := World.block_lt_of_cell? V _ cO2
  have lvW := vW.lt
  have lcO4 := World.block_lt_of_cell? V _ cO4
  have lvU := vU.lt
  have lcO5 := World.block_lt_of_cell? V _ cO5
  have lvM := vM.lt
  have lcO6 := World.block_lt_of_cell? V _ cO6
  have lvD := vD.lt
  have lcO7 := World.block_lt_of_cell? V _ cO7
  refine (Count_v k1 _ vB (Ext.refl _) (HT.out.ext hE)).mono ?_
  rintro e w1 ⟨rfl, hb⟩
  have hc := hb.cellE; have hf := hb.frozenE; have hz := hb.size; have ha := alloc_keeps w1; (try simp only [World.size_alloc] at hc hf hz); (try simp only [World.size_setCell] at hc hf hz); (try simp only [World.size_drew] at hc hf hz)
  rw [exB_n]
  go_wp2_with fail
  refine calls_name (fun V => Ext w V ∧ VA V B1 0 exB ∧ V.cell? ⟨O1, 0, none⟩ = some (.slice (some ⟨B1, 0, none⟩) 24 k1) ∧ VA V B2 0 exS ∧ V.cell? ⟨O2, 0, none⟩ = some (.slice (some ⟨B2, 0, none⟩) 24 k2) ∧ VA V B5 0 exW ∧ V.cell? ⟨O4, 0, none⟩ = some (.slice (some ⟨B5, 0, none⟩) 24 k5) ∧ VA V B6 0 exU ∧ V.cell? ⟨O5, 0, none⟩ = some (.slice (some ⟨B6, 0, none⟩) 24 k6) ∧ VA V B7 0 exM ∧ V.cell? ⟨O6, 0, none⟩ = some (.slice (some ⟨B7, 0, none⟩) 24 k7) ∧ VA V B8 0 exD ∧ V.cell? ⟨O7, 0, none⟩ = some (.slice (some ⟨B8, 0, none⟩) 24 k8)) ⟨hE.trans (by first | exact hb | exact Ext.alloc hb _ | exact Ext.alloc (Ext.alloc hb _) _), vB.ext (by first | exact hb | exact Ext.alloc hb _ | exact Ext.alloc (Ext.alloc hb _) _), Ext.cell (by first | exact hb | exact Ext.alloc hb _ | exact Ext.alloc (Ext.alloc hb _) _) cO1, vS.ext (by first | exact hb | exact Ext.alloc hb _ | exact Ext.alloc (Ext.alloc hb _) _), Ext.cell (by first | exact hb | exact Ext.alloc hb _ | exact Ext.alloc (Ext.alloc hb _) _) cO2, vW.ext (by first | exact hb | exact Ext.alloc hb _ | exact Ext.alloc (Ext.alloc hb _) _), Ext.cell (by first | exact hb | exact Ext.alloc hb _ | exact Ext.alloc (Ext.alloc hb _) _) cO4, vU.ext (by first | exact hb | exact Ext.alloc hb _ | exact Ext.alloc (Ext.alloc hb _) _), Ext.cell (by first | exact hb | exact Ext.alloc hb _ | exact Ext.alloc (Ext.alloc hb _) _) cO5, vM.ext (by first | exact hb | exact Ext.alloc hb _ | exact Ext.alloc (Ext.alloc hb _) _), Ext.cell (by first | exact hb | exact Ext.alloc hb _ | exact Ext.alloc (Ext.alloc hb _) _) cO6, vD.ext (by first | exact hb | exact Ext.alloc hb _ | exact Ext.alloc (Ext.alloc hb _) _), Ext.cell (by first | exact hb | exact Ext.alloc hb _ | exact Ext.alloc (Ext.alloc hb _) _) cO7⟩ ?_
  clear hE vB cO1 vS cO2 vW cO4 vU cO5 vM cO6 vD cO7 lvB lcO1 lvS lcO2 lvW lcO4 lvU lcO5 lvM lcO6 lvD lcO7 hb hc hf hz ha
  rintro V ⟨hE, vB, cO1, vS, cO2, vW, cO4, vU, cO5, vM, cO6, vD, cO7⟩
  have lvB := vB.lt
  have lcO1 := World.block_lt_of_cell? V _ cO1
  have lvS := vS.lt
  have lcO2 := World.block_lt_of_cell? V _ cO2
  have lvW := vW.lt
  have lcO4 := World.block_lt_of_cell? V _ cO4
  have lvU := vU.lt
  have lcO5 := World.block_lt_of_cell? V _ cO5
  have lvM := vM.lt
  have lcO6 := World.block_lt_of_cell? V _ cO6
  have lvD := vD.lt
  have lcO7 := World.block_lt_of_cell? V _ cO7
  refine (Count_v k5 _ vW (Ext.refl _) (HT.out.ext hE)).mono ?_
  rintro e w1 ⟨rfl, hb⟩
  have hc := hb.cellE; have hf := hb.frozenE; have hz := hb.size; have ha := alloc_keeps w1; (try simp only [World.size_alloc] at hc hf hz); (try simp only [World.size_setCell] at hc hf hz); (try simp only [World.size_drew] at hc hf hz)
  rw [exW_n]
  go_wp2_with fail
  refine calls_name (fun V => Ext w V ∧ VA V B1 0 exB ∧ V.cell? ⟨O1, 0, none⟩ = some (.slice (some ⟨B1, 0, none⟩) 24 k1) ∧ VA V B2 0 exS ∧ V.cell? ⟨O2, 0, none⟩ = some (.slice (some ⟨B2, 0, none⟩) 24 k2) ∧ VA V B5 0 exW ∧ V.cell? ⟨O4, 0, none⟩ = some (.slice (some ⟨B5, 0, none⟩) 24 k5) ∧ VA V B6 0 exU ∧ V.cell? ⟨O5, 0, none⟩ = some (.slice (some ⟨B6, 0, none⟩) 24 k6) ∧ VA V B7 0 exM ∧ V.cell? ⟨O6, 0, none⟩ = some (.slice (some ⟨B7, 0, none⟩) 24 k7) ∧ VA V B8 0 exD ∧ V.cell? ⟨O7, 0, none⟩ = some (.slice (some ⟨B8, 0, none⟩) 24 k8)) ⟨hE.trans (by first | exact hb | exact Ext.alloc hb _ | exact Ext.alloc (Ext.alloc hb _) _), vB.ext (by first | exact hb | exact Ext.alloc hb _ | exact Ext.alloc (Ext.alloc hb _) _), Ext.cell (by first | exact hb | exact Ext.alloc hb _ | exact Ext.alloc (Ext.alloc hb _) _) cO1, vS.ext (by first | exact hb | exact Ext.alloc hb _ | exact Ext.alloc (Ext.alloc hb _) _), Ext.cell (by first | exact hb | exact Ext.alloc hb _ | exact Ext.alloc (Ext.alloc hb _) _) cO2, vW.ext (by first | exact hb | exact Ext.alloc hb _ | exact Ext.alloc (Ext.alloc hb _) _), Ext.cell (by first | exact hb | exact Ext.alloc hb _ | exact Ext.alloc (Ext.alloc hb _) _) cO4, vU.ext (by first | exact hb | exact Ext.alloc hb _ | exact Ext.alloc (Ext.alloc hb _) _), Ext.cell (by first | exact hb | exact Ext.alloc hb _ | exact Ext.alloc (Ext.alloc hb _) _) cO5, vM.ext (by first | exact hb | exact Ext.alloc hb _ | exact Ext.alloc (Ext.alloc hb _) _), Ext.cell (by first | exact hb | exact Ext.alloc hb _ | exact Ext.alloc (Ext.alloc hb _) _) cO6, vD.ext (by first | exact hb | exact Ext.alloc hb _ | exact Ext.alloc (Ext.alloc hb _) _), Ext.cell (by first | exact hb | exact Ext.alloc hb _ | exact Ext.alloc (Ext.alloc hb _) _) cO7⟩ ?_
  clear hE vB cO1 vS cO2 vW cO4 vU cO5 vM cO6 vD cO7 lvB lcO1 lvS lcO2 lvW lcO4 lvU lcO5 lvM lcO6 lvD lcO7 hb hc hf hz ha
  rintro V ⟨hE, vB, cO1, vS, cO2, vW, cO4, vU, cO5, vM, cO6, vD, cO7⟩
  have lvB := vB.lt
  have lcO1 := World.block_lt_of_cell? V _ cO1
  have lvS := vS.lt
  have lcO2 := World.block_lt_of_cell? V _ cO2
  have lvW := vW.lt
  have lcO4 := World.block_lt_of_cell? V _ cO4
  have lvU := vU.lt
  have lcO5 := World.block_lt_of_cell? V _ cO5
  have lvM := vM.lt
  have lcO6 := World.block_lt_of_cell? V _ cO6
  have lvD := vD.lt
  have lcO7 := World.block_lt_of_cell? V _ cO7
  refine (Count_v k6 _ vU (Ext.refl _) (HT.out.ext hE)).mono ?_
  rintro e w1 ⟨rfl, hb⟩
  have hc := hb.cellE; have hf := hb.frozenE; have hz := hb.size; have ha := alloc_keeps w1; (try simp only [World.size_alloc] at hc hf hz); (try simp only [World.size_setCell] at hc hf hz); (try simp only [World.size_drew] at hc hf hz)
  rw [exU_n]
  go_wp2_with fail
  refine calls_name (fun V => Ext w V ∧ VA V B1 0 exB ∧ V.cell? ⟨O1, 0, none⟩ = some (.slice (some ⟨B1, 0, none⟩) 24 k1) ∧ VA V B2 0 exS ∧ V.cell? ⟨O2, 0, none⟩ = some (.slice (some ⟨B2, 0, none⟩) 24 k2) ∧ VA V B5 0 exW ∧ V.cell? ⟨O4, 0, none⟩ = some (.slice (some ⟨B5, 0, none⟩) 24 k5) ∧ VA V B6 0 exU ∧ V.cell? ⟨O5, 0, none⟩ = some (.slice (some ⟨B6, 0, none⟩) 24 k6) ∧ VA V B7 0 exM ∧ V.cell? ⟨O6, 0, none⟩ = some (.slice (some ⟨B7, 0, none⟩) 24 k7) ∧ VA V B8 0 exD ∧ V.cell? ⟨O7, 0, none⟩ = some (.slice (some ⟨B8, 0, none⟩) 24 k8)) ⟨hE.trans (by first | exact hb | exact Ext.alloc hb _ | exact Ext.alloc (Ext.alloc hb _) _), vB.ext (by first | exact hb | exact Ext.alloc hb _ | exact Ext.alloc (Ext.alloc hb _) _), Ext.cell (by first | exact hb | exact Ext.alloc hb _ | exact Ext.alloc (Ext.alloc hb _) _) cO1, vS.ext (by first | exact hb | exact Ext.alloc hb _ | exact Ext.alloc (Ext.alloc hb _) _), Ext.cell (by first | exact hb | exact Ext.alloc hb _ | exact Ext.alloc (Ext.alloc hb _) _) cO2, vW.ext (by first | exact hb | exact Ext.alloc hb _ | exact Ext.alloc (Ext.alloc hb _) _), Ext.cell (by first | exact hb | exact Ext.alloc hb _ | exact Ext.alloc (Ext.alloc hb _) _) cO4, vU.ext (by first | exact hb | exact Ext.alloc hb _ | exact Ext.alloc (Ext.alloc hb _) _), Ext.cell (by first | exact hb | exact Ext.alloc hb _ | exact Ext.alloc (Ext.alloc hb _) _) cO5, vM.ext (by first | exact hb | exact Ext.alloc hb _ | exact Ext.alloc (Ext.alloc hb _) _), Ext.cell (by first | exact hb | exact Ext.alloc hb _ | exact Ext.alloc (Ext.alloc hb _) _) cO6, vD.ext (by first | exact hb | exact Ext.alloc hb _ | exact Ext.alloc (Ext.alloc hb _) _), Ext.cell (by first | exact hb | exact Ext.alloc hb _ | exact Ext.alloc (Ext.alloc hb _) _) cO7⟩ ?_
  clear hE vB cO1 vS cO2 vW cO4 vU cO5 vM cO6 vD cO7 lvB lcO1 lvS lcO2 lvW lcO4 lvU lcO5 lvM lcO6 lvD lcO7 hb hc hf hz ha
  rintro V ⟨hE, vB, cO1, vS, cO2, vW, cO4, vU, cO5, vM, cO6, vD, cO7⟩
  have lvB := vB.lt
  have lcO1 := World.block_lt_of_cell? V _ cO1
  have lvS := vS.lt
  have lcO2 := World.block_lt_of_cell? V _ cO2
  have lvW := vW.lt
  have lcO4 := World.block_lt_of_cell? V _ cO4
  have lvU := vU.lt
  have lcO5 := World.block_lt_of_cell? V _ cO5
  have lvM := vM.lt
  have lcO6 := World.block_lt_of_cell? V _ cO6
  have lvD := vD.lt
  have lcO7 := World.block_lt_of_cell? V _ cO7
  refine (Count_v k7 _ vM (Ext.refl _) (HT.out.ext hE)).mono ?_
  rintro e w1 ⟨rfl, hb⟩
  have hc := hb.cellE; have hf := hb.frozenE; have hz := hb.size; have ha := alloc_keeps w1; (try simp only [World.size_alloc] at hc hf hz); (try simp only [World.size_setCell] at hc hf hz); (try simp only [World.size_drew] at hc hf hz)
  rw [exM_n]
  go_wp2_with fail
  refine calls_name (fun V => Ext w V ∧ VA V B1 0 exB ∧ V.cell? ⟨O1, 0, none⟩ = some (.slice (some ⟨B1, 0, none⟩) 24 k1) ∧ VA V B2 0 exS ∧ V.cell? ⟨O2, 0, none⟩ = some (.slice (some ⟨B2, 0, none⟩) 24 k2) ∧ VA V B5 0 exW ∧ V.cell? ⟨O4, 0, none⟩ = some (.slice (some ⟨B5, 0, none⟩) 24 k5) ∧ VA V B6 0 exU ∧ V.cell? ⟨O5, 0, none⟩ = some (.slice (some ⟨B6, 0, none⟩) 24 k6) ∧ VA V B7 0 exM ∧ V.cell? ⟨O6, 0, none⟩ = some (.slice (some ⟨B7, 0, none⟩) 24 k7) ∧ VA V B8 0 exD ∧ V.cell? ⟨O7, 0, none⟩ = some (.slice (some ⟨B8, 0, none⟩) 24 k8)) ⟨hE.trans (by first | exact hb | exact Ext.alloc hb _ | exact Ext.alloc (Ext.alloc hb _) _), vB.ext (by first | exact hb | exact Ext.alloc hb _ | exact Ext.alloc (Ext.alloc hb _) _), Ext.cell (by first | exact hb | exact Ext.alloc hb _ | exact Ext.alloc (Ext.alloc hb _) _) cO1, vS.ext (by first | exact hb | exact Ext.alloc hb _ | exact Ext.alloc (Ext.alloc hb _) _), Ext.cell (by first | exact hb | exact Ext.alloc hb _ | exact Ext.alloc (Ext.alloc hb _) _) cO2, vW.ext (by first | exact hb | exact Ext.alloc hb _ | exact Ext.alloc (Ext.alloc hb _) _), Ext.cell (by first | exact hb | exact Ext.alloc hb _ | exact Ext.alloc (Ext.alloc hb _) _) cO4, vU.ext (by first | exact hb | exact Ext.alloc hb _ | exact Ext.alloc (Ext.alloc hb _) _), Ext.cell (by first | exact hb | exact Ext.alloc hb _ | exact Ext.alloc (Ext.alloc hb _) _) cO5, vM.ext (by first | exact hb | exact Ext.alloc hb _ | exact Ext.alloc (Ext.alloc hb _) _), Ext.cell (by first | exact hb | exact Ext.alloc hb _ | exact Ext.alloc (Ext.alloc hb _) _) cO6, vD.ext (by first | exact hb | exact Ext.alloc hb _ | exact Ext.alloc (Ext.alloc hb _) _), Ext.cell (by first | exact hb | exact Ext.alloc hb _ | exact Ext.alloc (Ext.alloc hb _) _) cO7⟩ ?_
  clear hE vB cO1 vS cO2 vW cO4 vU cO5 vM cO6 vD cO7 lvB lcO1 lvS lcO2 lvW lcO4 lvU lcO5 lvM lcO6 lvD lcO7 hb hc hf hz ha
  rintro V ⟨hE, vB, cO1, vS, cO2, vW, cO4, vU, cO5, vM, cO6, vD, cO7⟩
  have lvB := vB.lt
  have lcO1 := World.block_lt_of_cell? V _ cO1
  have lvS := vS.lt
  have lcO2 := World.block_lt_of_cell? V _ cO2
  have lvW := vW.lt
  have lcO4 := World.block_lt_of_cell? V _ cO4
  have lvU := vU.lt
  have lcO5 := World.block_lt_of_cell? V _ cO5
  have lvM := vM.lt
  have lcO6 := World.block_lt_of_cell? V _ cO6
  have lvD := vD.lt
  have lcO7 := World.block_lt_of_cell? V _ cO7
  refine (Count_v k8 _ vD (Ext.refl _) (HT.out.ext hE)).mono ?_
  rintro e w1 ⟨rfl, hb⟩
  have hc := hb.cellE; have hf := hb.frozenE; have hz := hb.size; have ha := alloc_keeps w1; (try simp only [World.size_alloc] at hc hf hz); (try simp only [World.size_setCell] at hc hf hz); (try simp only [World.size_drew] at hc hf hz)
  rw [exD_n]
  go_wp2_with fail
  refine calls_name (fun V => Ext w V ∧ VA V B1 0 exB ∧ V.cell? ⟨O1, 0, none⟩ = some (.slice (some ⟨B1, 0, none⟩) 24 k1) ∧ VA V B2 0 exS ∧ V.cell? ⟨O2, 0, none⟩ = some (.slice (some ⟨B2, 0, none⟩) 24 k2) ∧ VA V B5 0 exW ∧ V.cell? ⟨O4, 0, none⟩ = some (.slice (some ⟨B5, 0, none⟩) 24 k5) ∧ VA V B6 0 exU ∧ V.cell? ⟨O5, 0, none⟩ = some (.slice (some ⟨B6, 0, none⟩) 24 k6) ∧ VA V B7 0 exM ∧ V.cell? ⟨O6, 0, none⟩ = some (.slice (some ⟨B7, 0, none⟩) 24 k7) ∧ VA V B8 0 exD ∧ V.cell? ⟨O7, 0, none⟩ = some (.slice (some ⟨B8, 0, none⟩) 24 k8)) ⟨hE.trans (by first | exact hb | exact Ext.alloc hb _ | exact Ext.alloc (Ext.alloc hb _) _), vB.ext (by first | exact hb | exact Ext.alloc hb _ | exact Ext.alloc (Ext.alloc hb _) _), Ext.cell (by first | exact hb | exact Ext.alloc hb _ | exact Ext.alloc (Ext.alloc hb _) _) cO1, vS.ext (by first | exact hb | exact Ext.alloc hb _ | exact Ext.alloc (Ext.alloc hb _) _), Ext.cell (by first | exact hb | exact Ext.alloc hb _ | exact Ext.alloc (Ext.alloc hb _) _) cO2, vW.ext (by first | exact hb | exact Ext.alloc hb _ | exact Ext.alloc (Ext.alloc hb _) _), Ext.cell (by first | exact hb | exact Ext.alloc hb _ | exact Ext.alloc (Ext.alloc hb _) _) cO4, vU.ext (by first | exact hb | exact Ext.alloc hb _ | exact Ext.alloc (Ext.alloc hb _) _), Ext.cell (by first | exact hb | exact Ext.alloc hb _ | exact Ext.alloc (Ext.alloc hb _) _) cO5, vM.ext (by first | exact hb | exact Ext.alloc hb _ | exact Ext.alloc (Ext.alloc hb _) _), Ext.cell (by first | exact hb | exact Ext.alloc hb _ | exact Ext.alloc (Ext.alloc hb _) _) cO6, vD.ext (by first | exact hb | exact Ext.alloc hb _ | exact Ext.alloc (Ext.alloc hb _) _), Ext.cell (by first | exact hb | exact Ext.alloc hb _ | exact Ext.alloc (Ext.alloc hb _) _) cO7⟩ ?_
  clear hE vB cO1 vS cO2 vW cO4 vU cO5 vM cO6 vD cO7 lvB lcO1 lvS lcO2 lvW lcO4 lvU lcO5 lvM lcO6 lvD lcO7 hb hc hf hz ha
  rintro V ⟨hE, vB, cO1, vS, cO2, vW, cO4, vU, cO5, vM, cO6, vD, cO7⟩
  have lvB := vB.lt
  have lcO1 := World.block_lt_of_cell? V _ cO1
  have lvS := vS.lt
  have lcO2 := World.block_lt_of_cell? V _ cO2
  have lvW := vW.lt
  have lcO4 := World.block_lt_of_cell? V _ cO4
  have lvU := vU.lt
  have lcO5 := World.block_lt_of_cell? V _ cO5
  have lvM := vM.lt
  have lcO6 := World.block_lt_of_cell? V _ cO6
  have lvD := vD.lt
  have lcO7 := World.block_lt_of_cell? V _ cO7
  refine (Cells_v k1 _ vB (Ext.refl _) (HT.out.ext hE)).mono ?_
  rintro e w1 ⟨a9, k9, rfl, hcs, hb⟩
  have hc := hb.cellE; have hf := hb.frozenE; have hz := hb.size; have ha := alloc_keeps w1; (try simp only [World.size_alloc] at hc hf hz); (try simp only [World.size_setCell] at hc hf hz); (try simp only [World.size_drew] at hc hf hz)
  rw [exB_n]
  clear hcs
  go_wp2_with fail
  refine calls_name (fun V => Ext w V ∧ VA V B1 0 exB ∧ V.cell? ⟨O1, 0, none⟩ = some (.slice (some ⟨B1, 0, none⟩) 24 k1) ∧ VA V B2 0 exS ∧ V.cell? ⟨O2, 0, none⟩ = some (.slice (some ⟨B2, 0, none⟩) 24 k2) ∧ VA V B6 0 exU ∧ V.cell? ⟨O5, 0, none⟩ = some (.slice (some ⟨B6, 0, none⟩) 24 k6)) ⟨hE.trans (by first | exact hb | exact Ext.alloc hb _ | exact Ext.alloc (Ext.alloc hb _) _), vB.ext (by first | exact hb | exact Ext.alloc hb _ | exact Ext.alloc (Ext.alloc hb _) _), Ext.cell (by first | exact hb | exact Ext.alloc hb _ | exact Ext.alloc (Ext.alloc hb _) _) cO1, vS.ext (by first | exact hb | exact Ext.alloc hb _ | exact Ext.alloc (Ext.alloc hb _) _), Ext.cell (by first | exact hb | exact Ext.alloc hb _ | exact Ext.alloc (Ext.alloc hb _) _) cO2, vU.ext (by first | exact hb | exact Ext.alloc hb _ | exact Ext.alloc (Ext.alloc hb _) _), Ext.cell (by first | exact hb | exact Ext.alloc hb _ | exact Ext.alloc (Ext.alloc hb _) _) cO5⟩ ?_
  clear hE vB cO1 vS cO2 vW cO4 vU cO5 vM cO6 vD cO7 lvB lcO1 lvS lcO2 lvW lcO4 lvU lcO5 lvM lcO6 lvD lcO7 hb hc hf hz ha
  rintro V ⟨hE, vB, cO1, vS, cO2, vU, cO5⟩
  have lvB := vB.lt
  have lcO1 := World.block_lt_of_cell? V _ cO1
  have lvS := vS.lt
  have lcO2 := World.block_lt_of_cell? V _ cO2
  have lvU := vU.lt
  have lcO5 := World.block_lt_of_cell? V _ cO5
  refine (Has_y B1 0 k1 exB 0 4 _ vB.1 vB.2 (by decide) (by decide)).mono ?_
  rintro e w1 ⟨rfl, hb⟩
  have hc := hb.cellE; have hf := hb.frozenE; have hz := hb.size; have ha := alloc_keeps w1; (try simp only [World.size_alloc] at hc hf hz); (try simp only [World.size_setCell] at hc hf hz); (try simp only [World.size_drew] at hc hf hz)
  rw [ex_h1]
  go_wp2_with fail
  refine calls_name (fun V => Ext w V ∧ VA V B1 0 exB ∧ V.cell? ⟨O1, 0, none⟩ = some (.slice (some ⟨B1, 0, none⟩) 24 k1) ∧ VA V B2 0 exS ∧ V.cell? ⟨O2, 0, none⟩ = some (.slice (some ⟨B2, 0, none⟩) 24 k2) ∧ VA V B6 0 exU ∧ V.cell? ⟨O5, 0, none⟩ = some (.slice (some ⟨B6, 0, none⟩) 24 k6)) ⟨hE.trans (by first | exact hb | exact Ext.alloc hb _ | exact Ext.alloc (Ext.alloc hb _) _), vB.ext (by first | exact hb | exact Ext.alloc hb _ | exact Ext.alloc (Ext.alloc hb _) _), Ext.cell (by first | exact hb | exact Ext.alloc hb _ | exact Ext.alloc (Ext.alloc hb _) _) cO1, vS.ext (by first | exact hb | exact Ext.alloc hb _ | exact Ext.alloc (Ext.alloc hb _) _), Ext.cell (by first | exact hb | exact Ext.alloc hb _ | exact Ext.alloc (Ext.alloc hb _) _) cO2, vU.ext (by first | exact hb | exact Ext.alloc hb _ | exact Ext.alloc (Ext.alloc hb _) _), Ext.cell (by first | exact hb | exact Ext.alloc hb _ | exact Ext.alloc (Ext.alloc hb _) _) cO5⟩ ?_
  clear hE vB cO1 vS cO2 vU cO5 lvB lcO1 lvS lcO2 lvU lcO5 hb hc hf hz ha
  rintro V ⟨hE, vB, cO1, vS, cO2, vU, cO5⟩
  have lvB := vB.lt
  have lcO1 := World.block_lt_of_cell? V _ cO1
  have lvS := vS.lt
  have lcO2 := World.block_lt_of_cell? V _ cO2
  have lvU := vU.lt
  have lcO5 := World.block_lt_of_cell? V _ cO5
  refine (Has_y B1 0 k1 exB 2 4 _ vB.1 vB.2 (by decide) (by decide)).mono ?_
  rintro e w1 ⟨rfl, hb⟩
  have hc := hb.cellE; have hf := hb.frozenE; have hz := hb.size; have ha := alloc_keeps w1; (try simp only [World.size_alloc] at hc hf hz); (try simp only [World.size_setCell] at hc hf hz); (try simp only [World.size_drew] at hc hf hz)
  rw [ex_h2]
  go_wp2_with fail
  refine calls_name (fun V => Ext w V ∧ VA V B1 0 exB ∧ V.cell? ⟨O1, 0, none⟩ = some (.slice (some ⟨B1, 0, none⟩) 24 k1) ∧ VA V B2 0 exS ∧ V.cell? ⟨O2, 0, none⟩ = some (.slice (some ⟨B2, 0, none⟩) 24 k2) ∧ VA V B6 0 exU ∧ V.cell? ⟨O5, 0, none⟩ = some (.slice (some ⟨B6, 0, none⟩) 24 k6)) ⟨hE.trans (by first | exact hb | exact Ext.alloc hb _ | exact Ext.alloc (Ext.alloc hb _) _), vB.ext (by first | exact hb | exact Ext.alloc hb _ | exact Ext.alloc (Ext.alloc hb _) _), Ext.cell (by first | exact hb | exact Ext.alloc hb _ | exact Ext.alloc (Ext.alloc hb _) _) cO1, vS.ext (by first | exact hb | exact Ext.alloc hb _ | exact Ext.alloc (Ext.alloc hb _) _), Ext.cell (by first | exact hb | exact Ext.alloc hb _ | exact Ext.alloc (Ext.alloc hb _) _) cO2, vU.ext (by first | exact hb | exact Ext.alloc hb _ | exact Ext.alloc (Ext.alloc hb _) _), Ext.cell (by first | exact hb | exact Ext.alloc hb _ | exact Ext.alloc (Ext.alloc hb _) _) cO5⟩ ?_
  clear hE vB cO1 vS cO2 vU cO5 lvB lcO1 lvS lcO2 lvU lcO5 hb hc hf hz ha
  rintro V ⟨hE, vB, cO1, vS, cO2, vU, cO5⟩
  have lvB := vB.lt
  have lcO1 := World.block_lt_of_cell? V _ cO1
  have lvS := vS.lt
  have lcO2 := World.block_lt_of_cell? V _ cO2
  have lvU := vU.lt
  have lcO5 := World.block_lt_of_cell? V _ cO5
  refine (Contains_v k6 k1 _ vU (Ext.refl _) vB (Ext.refl _)).mono ?_
  rintro e w1 ⟨rfl, hb⟩
  have hc := hb.cellE; have hf := hb.frozenE; have hz := hb.size; have ha := alloc_keeps w1; (try simp only [World.size_alloc] at hc hf hz); (try simp only [World.size_setCell] at hc hf hz); (try simp only [World.size_drew] at hc hf hz)
  rw [ex_c1]
  go_wp2_with fail
  refine calls_name (fun V => Ext w V ∧ VA V B1 0 exB ∧ V.cell? ⟨O1, 0, none⟩ = some (.slice (some ⟨B1, 0, none⟩) 24 k1) ∧ VA V B2 0 exS ∧ V.cell? ⟨O2, 0, none⟩ = some (.slice (some ⟨B2, 0, none⟩) 24 k2) ∧ VA V B6 0 exU ∧ V.cell? ⟨O5, 0, none⟩ = some (.slice (some ⟨B6, 0, none⟩) 24 k6)) ⟨hE.trans (by first | exact hb | exact Ext.alloc hb _ | exact Ext.alloc (Ext.alloc hb _) _), vB.ext (by first | exact hb | exact Ext.alloc hb _ | exact Ext.alloc (Ext.alloc hb _) _), Ext.cell (by first | exact hb | exact Ext.alloc hb _ | exact Ext.alloc (Ext.alloc hb _) _) cO1, vS.ext (by first | exact hb | exact Ext.alloc hb _ | exact Ext.alloc (Ext.alloc hb _) _), Ext.cell (by first | exact hb | exact Ext.alloc hb _ | exact Ext.alloc (Ext.alloc hb _) _) cO2, vU.ext (by first | exact hb | exact Ext.alloc hb _ | exact Ext.alloc (Ext.alloc hb _) _), Ext.cell (by first | exact hb | exact Ext.alloc hb _ | exact Ext.alloc (Ext.alloc hb _) _) cO5⟩ ?_
  clear hE vB cO1 vS cO2 vU cO5 lvB lcO1 lvS lcO2 lvU lcO5 hb hc hf hz ha
  rintro V ⟨hE, vB, cO1, vS, cO2, vU, cO5⟩
  have lvB := vB.lt
  have lcO1 := World.block_lt_of_cell? V _ cO1
  have lvS := vS.lt
  have lcO2 := World.block_lt_of_cell? V _ cO2
  have lvU := vU.lt
  have lcO5 := World.block_lt_of_cell? V _ cO5
  refine (Contains_v k1 k6 _ vB (Ext.refl _) vU (Ext.refl _)).mono ?_
  rintro e w1 ⟨rfl, hb⟩
  have hc := hb.cellE; have hf := hb.frozenE; have hz := hb.size; have ha := alloc_keeps w1; (try simp only [World.size_alloc] at hc hf hz); (try simp only [World.size_setCell] at hc hf hz); (try simp only [World.size_drew] at hc hf hz)
  rw [ex_c2]
  go_wp2_with fail
  refine calls_name (fun V => Ext w V ∧ VA V B1 0 exB ∧ V.cell? ⟨O1, 0, none⟩ = some (.slice (some ⟨B1, 0, none⟩) 24 k1) ∧ VA V B2 0 exS ∧ V.cell? ⟨O2, 0, none⟩ = some (.slice (some ⟨B2, 0, none⟩) 24 k2) ∧ VA V B6 0 exU ∧ V.cell? ⟨O5, 0, none⟩ = some (.slice (some ⟨B6, 0, none⟩) 24 k6)) ⟨hE.trans (by first | exact hb | exact Ext.alloc hb _ | exact Ext.alloc (Ext.alloc hb _) _), vB.ext (by first | exact hb | exact Ext.alloc hb _ | exact Ext.alloc (Ext.alloc hb _) _), Ext.cell (by first | exact hb | exact Ext.alloc hb _ | exact Ext.alloc (Ext.alloc hb _) _) cO1, vS.ext (by first | exact hb | exact Ext.alloc hb _ | exact Ext.alloc (Ext.alloc hb _) _), Ext.cell (by first | exact hb | exact Ext.alloc hb _ | exact Ext.alloc (Ext.alloc hb _) _) cO2, vU.ext (by first | exact hb | exact Ext.alloc hb _ | exact Ext.alloc (Ext.alloc hb _) _), Ext.cell (by first | exact hb | exact Ext.alloc hb _ | exact Ext.alloc (Ext.alloc hb _) _) cO5⟩ ?_
  clear hE vB cO1 vS cO2 vU cO5 lvB lcO1 lvS lcO2 lvU lcO5 hb hc hf hz ha
  rintro V ⟨hE, vB, cO1, vS, cO2, vU, cO5⟩
  have lvB := vB.lt
  have lcO1 := World.block_lt_of_cell? V _ cO1
  have lvS := vS.lt
  have lcO2 := World.block_lt_of_cell? V _ cO2
  have lvU := vU.lt
  have lcO5 := World.block_lt_of_cell? V _ cO5
  refine (Valid_v _ exB 24 k1 _ vB.aa.1 vB.aa.2.1 vB.aa.2.2.1 vB.2).mono ?_
  rintro e w1 ⟨rfl, hb⟩
  have hc := hb.cellE; have hf := hb.frozenE; have hz := hb.size; have ha := alloc_keeps w1; (try simp only [World.size_alloc] at hc hf hz); (try simp only [World.size_setCell] at hc hf hz); (try simp only [World.size_drew] at hc hf hz)
  go_wp2_with fail
  refine calls_name (fun V => Ext w V ∧ VA V B1 0 exB ∧ V.cell? ⟨O1, 0, none⟩ = some (.slice (some ⟨B1, 0, none⟩) 24 k1) ∧ VA V B2 0 exS ∧ V.cell? ⟨O2, 0, none⟩ = some (.slice (some ⟨B2, 0, none⟩) 24 k2) ∧ VA V B6 0 exU ∧ V.cell? ⟨O5, 0, none⟩ = some (.slice (some ⟨B6, 0, none⟩) 24 k6)) ⟨hE.trans (by first | exact hb | exact Ext.alloc hb _ | exact Ext.alloc (Ext.alloc hb _) _), vB.ext (by first | exact hb | exact Ext.alloc hb _ | exact Ext.alloc (Ext.alloc hb _) _), Ext.cell (by first | exact hb | exact Ext.alloc hb _ | exact Ext.alloc (Ext.alloc hb _) _) cO1, vS.ext (by first | exact hb | exact Ext.alloc hb _ | exact Ext.alloc (Ext.alloc hb _) _), Ext.cell (by first | exact hb | exact Ext.alloc hb _ | exact Ext.alloc (Ext.alloc hb _) _) cO2, vU.ext (by first | exact hb | exact Ext.alloc hb _ | exact Ext.alloc (Ext.alloc hb _) _), Ext.cell (by first | exact hb | exact Ext.alloc hb _ | exact Ext.alloc (Ext.alloc hb _) _) cO5⟩ ?_
  clear hE vB cO1 vS cO2 vU cO5 lvB lcO1 lvS lcO2 lvU lcO5 hb hc hf hz ha
  rintro V ⟨hE, vB, cO1, vS, cO2, vU, cO5⟩
  have lvB := vB.lt
  have lcO1 := World.block_lt_of_cell? V _ cO1
  have lvS := vS.lt
  have lcO2 := World.block_lt_of_cell? V _ cO2
  have lvU := vU.lt
  have lcO5 := World.block_lt_of_cell? V _ cO5
  refine (Valid_v (v := false) none [] 0 0 _ (.inl rfl) rfl (by decide) rfl).mono ?_
  rintro e w1 ⟨rfl, hb⟩
  have hc := hb.cellE; have hf := hb.frozenE; have hz := hb.size; have ha := alloc_keeps w1; (try simp only [World.size_alloc] at hc hf hz); (try simp only [World.size_setCell] at hc hf hz); (try simp only [World.size_drew] at hc hf hz)
  go_wp2_with fail
  refine calls_name (fun V => Ext w V ∧ VA V B1 0 exB ∧ V.cell? ⟨O1, 0, none⟩ = some (.slice (some ⟨B1, 0, none⟩) 24 k1) ∧ VA V B2 0 exS ∧ V.cell? ⟨O2, 0, none⟩ = some (.slice (some ⟨B2, 0, none⟩) 24 k2) ∧ VA V B6 0 exU ∧ V.cell? ⟨O5, 0, none⟩ = some (.slice (some ⟨B6, 0, none⟩) 24 k6)) ⟨hE.trans (by first | exact hb | exact Ext.alloc hb _ | exact Ext.alloc (Ext.alloc hb _) _), vB.ext (by first | exact hb | exact Ext.alloc hb _ | exact Ext.alloc (Ext.alloc hb _) _), Ext.cell (by first | exact hb | exact Ext.alloc hb _ | exact Ext.alloc (Ext.alloc hb _) _) cO1, vS.ext (by first | exact hb | exact Ext.alloc hb _ | exact Ext.alloc (Ext.alloc hb _) _), Ext.cell (by first | exact hb | exact Ext.alloc hb _ | exact Ext.alloc (Ext.alloc hb _) _) cO2, vU.ext (by first | exact hb | exact Ext.alloc hb _ | exact Ext.alloc (Ext.alloc hb _) _), Ext.cell (by first | exact hb | exact Ext.alloc hb _ | exact Ext.alloc (Ext.alloc hb _) _) cO5⟩ ?_
  clear hE vB cO1 vS cO2 vU cO5 lvB lcO1 lvS lcO2 lvU lcO5 hb hc hf hz ha
  rintro V ⟨hE, vB, cO1, vS, cO2, vU, cO5⟩
  have lvB := vB.lt
  have lcO1 := World.block_lt_of_cell? V _ cO1
  have lvS := vS.lt
  have lcO2 := World.block_lt_of_cell? V _ cO2
  have lvU := vU.lt
  have lcO5 := World.block_lt_of_cell? V _ cO5
  refine (ValidCell_v (v := true) 0 0 _ (by decide)).mono ?_
  rintro e w1 ⟨rfl, hb⟩
  have hc := hb.cellE; have hf := hb.frozenE; have hz := hb.size; have ha := alloc_keeps w1; (try simp only [World.size_alloc] at hc hf hz); (try simp only [World.size_setCell] at hc hf hz); (try simp only [World.size_drew] at hc hf hz)
  go_wp2_with fail
  refine calls_name (fun V => Ext w V ∧ VA V B1 0 exB ∧ V.cell? ⟨O1, 0, none⟩ = some (.slice (some ⟨B1, 0, none⟩) 24 k1) ∧ VA V B2 0 exS ∧ V.cell? ⟨O2, 0, none⟩ = some (.slice (some ⟨B2, 0, none⟩) 24 k2) ∧ VA V B6 0 exU ∧ V.cell? ⟨O5, 0, none⟩ = some (.slice (some ⟨B6, 0, none⟩) 24 k6)) ⟨hE.trans (by first | exact hb | exact Ext.alloc hb _ | exact Ext.alloc (Ext.alloc hb _) _), vB.ext (by first | exact hb | exact Ext.alloc hb _ | exact Ext.alloc (Ext.alloc hb _) _), Ext.cell (by first | exact hb | exact Ext.alloc hb _ | exact Ext.alloc (Ext.alloc hb _) _) cO1, vS.ext (by first | exact hb | exact Ext.alloc hb _ | exact Ext.alloc (Ext.alloc hb _) _), Ext.cell (by first | exact hb | exact Ext.alloc hb _ | exact Ext.alloc (Ext.alloc hb _) _) cO2, vU.ext (by first | exact hb | exact Ext.alloc hb _ | exact Ext.alloc (Ext.alloc hb _) _), Ext.cell (by first | exact hb | exact Ext.alloc hb _ | exact Ext.alloc (Ext.alloc hb _) _) cO5⟩ ?_
  clear hE vB cO1 vS cO2 vU cO5 lvB lcO1 lvS lcO2 lvU lcO5 hb hc hf hz ha
  rintro V ⟨hE, vB, cO1, vS, cO2, vU, cO5⟩
  have lvB := vB.lt
  have lcO1 := World.block_lt_of_cell? V _ cO1
  have lvS := vS.lt
  have lcO2 := World.block_lt_of_cell? V _ cO2
  have lvU := vU.lt
  have lcO5 := World.block_lt_of_cell? V _ cO5
  refine (ValidCell_v (v := false) (-1) 0 _ (by decide)).mono ?_
  rintro e w1 ⟨rfl, hb⟩
  have hc := hb.cellE; have hf := hb.frozenE; have hz := hb.size; have ha := alloc_keeps w1; (try simp only [World.size_alloc] at hc hf hz); (try simp only [World.size_setCell] at hc hf hz); (try simp only [World.size_drew] at hc hf hz)
  go_wp2_with fail
  refine calls_name (fun V => Ext w V ∧ VA V B1 0 exB ∧ V.cell? ⟨O1, 0, none⟩ = some (.slice (some ⟨B1, 0, none⟩) 24 k1) ∧ VA V B2 0 exS ∧ V.cell? ⟨O2, 0, none⟩ = some (.slice (some ⟨B2, 0, none⟩) 24 k2) ∧ VA V B6 0 exU ∧ V.cell? ⟨O5, 0, none⟩ = some (.slice (some ⟨B6, 0, none⟩) 24 k6)) ⟨hE.trans (by first | exact hb | exact Ext.alloc hb _ | exact Ext.alloc (Ext.alloc hb _) _), vB.ext (by first | exact hb | exact Ext.alloc hb _ | exact Ext.alloc (Ext.alloc hb _) _), Ext.cell (by first | exact hb | exact Ext.alloc hb _ | exact Ext.alloc (Ext.alloc hb _) _) cO1, vS.ext (by first | exact hb | exact Ext.alloc hb _ | exact Ext.alloc (Ext.alloc hb _) _), Ext.cell (by first | exact hb | exact Ext.alloc hb _ | exact Ext.alloc (Ext.alloc hb _) _) cO2, vU.ext (by first | exact hb | exact Ext.alloc hb _ | exact Ext.alloc (Ext.alloc hb _) _), Ext.cell (by first | exact hb | exact Ext.alloc hb _ | exact Ext.alloc (Ext.alloc hb _) _) cO5⟩ ?_
  clear hE vB cO1 vS cO2 vU cO5 lvB lcO1 lvS lcO2 lvU lcO5 hb hc hf hz ha
  rintro V ⟨hE, vB, cO1, vS, cO2, vU, cO5⟩
  have lvB := vB.lt
  have lcO1 := World.block_lt_of_cell? V _ cO1
  have lvS := vS.lt
  have lcO2 := World.block_lt_of_cell? V _ cO2
  have lvU := vU.lt
  have lcO5 := World.block_lt_of_cell? V _ cO5
  refine (Same_c k1 k1 _ vB.aa (Ext.refl _) vB.aa (Ext.refl _)).mono ?_
  rintro e w1 ⟨rfl, hb⟩
  have hc := hb.cellE; have hf := hb.frozenE; have hz := hb.size; have ha := alloc_keeps w1; (try simp only [World.size_alloc] at hc hf hz); (try simp only [World.size_setCell] at hc hf hz); (try simp only [World.size_drew] at hc hf hz)
  rw [decide_eq_true (rfl : exB = exB)]
  go_wp2_with fail
  refine calls_name (fun V => Ext w V ∧ VA V B1 0 exB ∧ V.cell? ⟨O1, 0, none⟩ = some (.slice (some ⟨B1, 0, none⟩) 24 k1) ∧ VA V B2 0 exS ∧ V.cell? ⟨O2, 0, none⟩ = some (.slice (some ⟨B2, 0, none⟩) 24 k2) ∧ VA V B6 0 exU ∧ V.cell? ⟨O5, 0, none⟩ = some (.slice (some ⟨B6, 0, none⟩) 24 k6)) ⟨hE.trans (by first | exact hb | exact Ext.alloc hb _ | exact Ext.alloc (Ext.alloc hb _) _), vB.ext (by first | exact hb | exact Ext.alloc hb _ | exact Ext.alloc (Ext.alloc hb _) _), Ext.cell (by first | exact hb | exact Ext.alloc hb _ | exact Ext.alloc (Ext.alloc hb _) _) cO1, vS.ext (by first | exact hb | exact Ext.alloc hb _ | exact Ext.alloc (Ext.alloc hb _) _), Ext.cell (by first | exact hb | exact Ext.alloc hb _ | exact Ext.alloc (Ext.alloc hb _) _) cO2, vU.ext (by first | exact hb | exact Ext.alloc hb _ | exact Ext.alloc (Ext.alloc hb _) _), Ext.cell (by first | exact hb | exact Ext.alloc hb _ | exact Ext.alloc (Ext.alloc hb _) _) cO5⟩ ?_
  clear hE vB cO1 vS cO2 vU cO5 lvB lcO1 lvS lcO2 lvU lcO5 hb hc hf hz ha
  rintro V ⟨hE, vB, cO1, vS, cO2, vU, cO5⟩
  have lvB := vB.lt
  have lcO1 := World.block_lt_of_cell? V _ cO1
  have lvS := vS.lt
  have lcO2 := World.block_lt_of_cell? V _ cO2
  have lvU := vU.lt
  have lcO5 := World.block_lt_of_cell? V _ cO5
  refine (Same_c k1 k2 _ vB.aa (Ext.refl _) vS.aa (Ext.refl _)).mono ?_
  rintro e w1 ⟨rfl, hb⟩
  have hc := hb.cellE; have hf := hb.frozenE; have hz := hb.size; have ha := alloc_keeps w1; (try simp only [World.size_alloc] at hc hf hz); (try simp only [World.size_setCell] at hc hf hz); (try simp only [World.size_drew] at hc hf hz)
  rw [ex_ne]
  go_wp2_with fail
  go_ret
  exact ⟨rfl, by (repeat' (first | (with_reducible assumption) | (with_reducible exact Ext.refl _) | (with_reducible refine Ext.alloc ?_ _) | (with_reducible refine Ext.drew ?_) | (with_reducible refine Ext.drewN ?_ _) | (with_reducible refine Ext.setCell ?_ ?_ _) | (with_reducible refine Ext.trans ?_ (by assumption)) | go_size))⟩

end Go.Proofs.YtnfknekbbdfdfaaDoor
