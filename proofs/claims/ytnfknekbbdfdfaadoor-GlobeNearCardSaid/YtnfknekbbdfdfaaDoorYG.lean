/- The walk of the law GlobeNear. -/
import Derived.Test.YtnfknekbbdfdfaaDoorYA
import Derived.Test.YtnfknekbbdfdfaaDoorME
namespace Go.Proofs.YtnfknekbbdfdfaaDoor
open Go.RowKit
open Globe

theorem exit_name (P : World → Prop) {K : Act → World → Prop} {Q : Exit → Act → World → Prop} {e : Exit} {st : Act} {w : World} (h : P w) (hn : ∀ V, P V → Exit.then K Q e st V) : Exit.then K Q e st w := hn w h
theorem near_bd {x y x' y' : Nat} (hx : x < 48) (hx' : x' < 48) (hy : y < 24) (hy' : y' < 24) : nearN x y x' y' ≤ 24 := by unfold nearN circ; omega
theorem near_sym (x y x' y' : Nat) : nearN x y x' y' = nearN x' y' x y := by unfold nearN circ; omega
theorem near_zero {x y x' y' : Nat} (hx : x < 48) (hx' : x' < 48) : nearN x y x' y' = 0 ↔ x = x' ∧ y = y' := by unfold nearN circ; omega
theorem near_shift {x y x' y' k : Nat} (hx : x < 48) (hx' : x' < 48) (hk : k < 48) : nearN ((x + k) % 48) y ((x' + k) % 48) y' = nearN x y x' y' := by unfold nearN; rw [circ_shift hx hx' hk]
theorem Near_r {X Y X' Y' n : Nat} (x y x' y' : Int) (w : World) (e1 : x = (X : Int)) (e2 : y = (Y : Int)) (e3 : x' = (X' : Int)) (e4 : y' = (Y' : Int)) (b1 : X < 48) (b2 : Y < 24) (b3 : X' < 48) (b4 : Y' < 24) (hn : nearN X Y X' Y' = n) :
    Calls Tryd.prog 17 #[.agg #[.int .i64 x, .int .i64 y], .agg #[.int .i64 x', .int .i64 y']] w fun e w' => e = .returned (.int .i64 (n : Int)) ∧ Ext w w' := by
  have h := Near_c x y x' y' w
  have hv : nearI x y x' y' = (n : Int) := by
    subst e1 e2 e3 e4 hn
    unfold nearI
    rw [vcB_t.2 (by omega), vcB_t.2 (by omega)]
    simp
  rwa [hv] at h
/-- Whether one of the first i cells is near. -/
def nearTo (cs : List (Nat × Nat)) (x y d i : Nat) : Bool := (cs.take i).any fun p => decide (nearN x y p.1 p.2 ≤ d)
theorem nearTo_zero (cs : List (Nat × Nat)) (x y d : Nat) : nearTo cs x y d 0 = false := by simp [nearTo]
theorem nearTo_succ {cs : List (Nat × Nat)} {x y d i : Nat} {p : Nat × Nat} (h : cs[i]? = some p) : nearTo cs x y d (i + 1) = (nearTo cs x y d i || decide (nearN x y p.1 p.2 ≤ d)) := by
  obtain ⟨h1, rfl⟩ := List.getElem?_eq_some_iff.1 h
  unfold nearTo
  rw [List.take_succ_eq_append_getElem h1, List.any_append]
  simp
theorem nearTo_all {l : List Int} (hl : validL l = true) {x y d n : Nat} (hx : x < 48) (hy : y < 24) (hn : (cellsTo l 24).length = n) : nearTo (cellsTo l 24) x y d n = hasL (growL l d) x y := by
  rw [Bool.eq_iff_iff, has_grow hl hx hy]
  unfold nearTo
  rw [List.take_of_length_le (by omega), List.any_eq_true]
  constructor
  · rintro ⟨p, hp, h⟩
    obtain ⟨h1, h2, h3⟩ := mem_cells.1 hp
    exact ⟨p.1, p.2, h2, h1, by simpa using h, h3⟩
  · rintro ⟨x', y', h1, h2, h3, h4⟩
    exact ⟨(x', y'), mem_cells.2 ⟨h2, h1, h4⟩, by simpa using h3⟩

set_option maxRecDepth 100000 in
set_option maxHeartbeats 8000000 in
theorem GlobeNear_walk (w : World) (v0 : Value) (o0 : Pair v0) (v1 : Value) (o1 : Pair v1) (v2 : Value) (o2 : Pair v2) (v3 : Value) (o3 : Quads w v3) (cols : Int) (i4 : IsI cols) (nn : Int) (i5 : IsI nn) (hT : Tab w) :
    Calls Tryd.prog 7 #[v0, v1, v2, v3, .int .i64 cols, .int .i64 nn] w fun e w' => e = .returned (.bool true) ∧ Ext w w' := by
  obtain ⟨px, py, rfl, i1, i2⟩ := o0
  obtain ⟨qx, qy, rfl, j1, j2⟩ := o1
  obtain ⟨rx, ry, rfl, k1, k2⟩ := o2
  obtain ⟨a0, n0, c0, q0, rfl, hn0, Q0⟩ := o3
  have HT := Lib.hid hT; clear hT
  obtain ⟨Ax, hAx⟩ : ∃ X : Nat, pickF px 48 = (X : Int) := ⟨(pickF px 48).toNat, by have := @pickF_bd px 48 (by omega); omega⟩
  have bAx : Ax < 48 := by have := @pickF_bd px 48 (by omega); omega
  obtain ⟨Ay, hAy⟩ : ∃ X : Nat, pickF py 24 = (X : Int) := ⟨(pickF py 24).toNat, by have := @pickF_bd py 24 (by omega); omega⟩
  have bAy : Ay < 24 := by have := @pickF_bd py 24 (by omega); omega
  obtain ⟨Bx, hBx⟩ : ∃ X : Nat, pickF qx 48 = (X : Int) := ⟨(pickF qx 48).toNat, by have := @pickF_bd qx 48 (by omega); omega⟩
  have bBx : Bx < 48 := by have := @pickF_bd qx 48 (by omega); omega
  obtain ⟨By, hBy⟩ : ∃ X : Nat, pickF qy 24 = (X : Int) := ⟨(pickF qy 24).toNat, by have := @pickF_bd qy 24 (by omega); omega⟩
  have bBy : By < 24 := by have := @pickF_bd qy 24 (by omega); omega
  obtain ⟨Cx, hCx⟩ : ∃ X : Nat, pickF rx 48 = (X : Int) := ⟨(pickF rx 48).toNat, by have := @pickF_bd rx 48 (by omega); omega⟩
  have bCx : Cx < 48 := by have := @pickF_bd rx 48 (by omega); omega
  obtain ⟨Cy, hCy⟩ : ∃ X : Nat, pickF ry 24 = (X : Int) := ⟨(pickF ry 24).toNat, by have := @pickF_bd ry 24 (by omega); omega⟩
  have bCy : Cy < 24 := by have := @pickF_bd ry 24 (by omega); omega
  obtain ⟨K, hK⟩ : ∃ X : Nat, pickF cols 48 = (X : Int) := ⟨(pickF cols 48).toNat, by have := @pickF_bd cols 48 (by omega); omega⟩
  have bK : K < 48 := by have := @pickF_bd cols 48 (by omega); omega
  obtain ⟨D, hD⟩ : ∃ X : Nat, pickF nn 25 = (X : Int) := ⟨(pickF nn 25).toNat, by have := @pickF_bd nn 25 (by omega); omega⟩
  have bD : D < 25 := by have := @pickF_bd nn 25 (by omega); omega
  have HA := Lib.hid (And.intro hAx hAy); have HB := Lib.hid (And.intro hBx hBy); have HC := Lib.hid (And.intro hCx hCy); have HK := Lib.hid hK; have HD := Lib.hid hD
  clear hAx hAy hBx hBy hCx hCy hK hD
  have HI := Lib.hid (And.intro i1 i2); have HJ := Lib.hid (And.intro j1 j2); have HL := Lib.hid (And.intro k1 k2); have H4 := Lib.hid i4; have H5 := Lib.hid i5
  clear i1 i2 j1 j2 k1 k2 i4 i5
  go_enter Tryd.func7, Tryd.ntmps7
  go_wp2_with fail
  refine calls_name (fun V => Ext w V ∧ V.cell? ⟨w.heap.size, 0, none⟩ = some (.int .i64 px) ∧ V.cell? ⟨w.heap.size, 1, none⟩ = some (.int .i64 py) ∧ V.cell? ⟨w.heap.size + 1, 0, none⟩ = some (.int .i64 qx) ∧ V.cell? ⟨w.heap.size + 1, 1, none⟩ = some (.int .i64 qy) ∧ V.cell? ⟨w.heap.size + 1 + 1, 0, none⟩ = some (.int .i64 rx) ∧ V.cell? ⟨w.heap.size + 1 + 1, 1, none⟩ = some (.int .i64 ry)) ⟨by (repeat' (first | (with_reducible assumption) | (with_reducible exact Ext.refl _) | (with_reducible refine Ext.alloc ?_ _) | (with_reducible refine Ext.drew ?_) | (with_reducible refine Ext.drewN ?_ _) | (with_reducible refine Ext.setCell ?_ ?_ _) | (with_reducible refine Ext.trans ?_ (by assumption)) | go_size)), by simp [go_sem], by simp [go_sem], by simp [go_sem], by simp [go_sem], by simp [go_sem], by simp [go_sem]⟩ ?_
  rintro V ⟨hE, cPpx, cPpy, cPqx, cPqy, cPrx, cPry⟩
  have lcPpx : w.heap.size < V.heap.size := World.block_lt_of_cell? V _ cPpx
  have lcPpy : w.heap.size < V.heap.size := World.block_lt_of_cell? V _ cPpy
  have lcPqx : w.heap.size + 1 < V.heap.size := World.block_lt_of_cell? V _ cPqx
  have lcPqy : w.heap.size + 1 < V.heap.size := World.block_lt_of_cell? V _ cPqy
  have lcPrx : w.heap.size + 1 + 1 < V.heap.size := World.block_lt_of_cell? V _ cPrx
  have lcPry : w.heap.size + 1 + 1 < V.heap.size := World.block_lt_of_cell? V _ cPry
  refine (sane_c _ (HT.out.ext hE)).mono ?_
  rintro e w1 ⟨rfl, hb⟩
  have hc := hb.cellE; have hf := hb.frozenE; have hz := hb.size; have ha := alloc_keeps w1; (try simp only [World.size_alloc] at hc hf hz); (try simp only [World.size_setCell] at hc hf hz); (try simp only [World.size_drew] at hc hf hz)
  go_wp2_with fail
  refine calls_name (fun V => Ext w V ∧ V.cell? ⟨w.heap.size, 0, none⟩ = some (.int .i64 px) ∧ V.cell? ⟨w.heap.size, 1, none⟩ = some (.int .i64 py) ∧ V.cell? ⟨w.heap.size + 1, 0, none⟩ = some (.int .i64 qx) ∧ V.cell? ⟨w.heap.size + 1, 1, none⟩ = some (.int .i64 qy) ∧ V.cell? ⟨w.heap.size + 1 + 1, 0, none⟩ = some (.int .i64 rx) ∧ V.cell? ⟨w.heap.size + 1 + 1, 1, none⟩ = some (.int .i64 ry)) ⟨hE.trans (by first | exact hb | exact Ext.alloc hb _ | exact Ext.alloc (Ext.alloc hb _) _), Ext.cell (by first | exact hb | exact Ext.alloc hb _ | exact Ext.alloc (Ext.alloc hb _) _) cPpx, Ext.cell (by first | exact hb | exact Ext.alloc hb _ | exact Ext.alloc (Ext.alloc hb _) _) cPpy, Ext.cell (by first | exact hb | exact Ext.alloc hb _ | exact Ext.alloc (Ext.alloc hb _) _) cPqx, Ext.cell (by first | exact hb | exact Ext.alloc hb _ | exact Ext.alloc (Ext.alloc hb _) _) cPqy, Ext.cell (by first | exact hb | exact Ext.alloc hb _ | exact Ext.alloc (Ext.alloc hb _) _) cPrx, Ext.cell (by first | exact hb | exact Ext.alloc hb _ | exact Ext.alloc (Ext.alloc hb _) _) cPry⟩ ?_
  clear hE cPpx cPpy cPqx cPqy cPrx cPry lcPpx lcPpy lcPqx lcPqy lcPrx lcPry hb hc hf hz ha
  rintro V ⟨hE, cPpx, cPpy, cPqx, cPqy, cPrx, cPry⟩
  have lcPpx : w.heap.size < V.heap.size := World.block_lt_of_cell? V _ cPpx
  have lcPpy : w.heap.size < V.heap.size := World.block_lt_of_cell? V _ cPpy
  have lcPqx : w.heap.size + 1 < V.heap.size := World.block_lt_of_cell? V _ cPqx
  have lcPqy : w.heap.size + 1 < V.heap.size := World.block_lt_of_cell? V _ cPqy
  have lcPrx : w.heap.size + 1 + 1 < V.heap.size := World.block_lt_of_cell? V _ cPrx
  have lcPry : w.heap.size + 1 + 1 < V.heap.size := World.block_lt_of_cell? V _ cPry
  refine (rCell_c px py _ HI.out.1 HI.out.2).mono ?_
  rintro e w1 ⟨rfl, hb⟩
  have hc := hb.cellE; have hf := hb.frozenE; have hz := hb.size; have ha := alloc_keeps w1; (try simp only [World.size_alloc] at hc hf hz); (try simp only [World.size_setCell] at hc hf hz); (try simp only [World.size_drew] at hc hf hz)
  rw [HA.out.1, HA.out.2]
  go_wp2_with fail
  obtain ⟨OA, hO⟩ : ∃ O, O = w1.heap.size := ⟨_, rfl⟩
  rw [← hO]
  refine calls_name (fun V => Ext w V ∧ V.cell? ⟨w.heap.size + 1, 0, none⟩ = some (.int .i64 qx) ∧ V.cell? ⟨w.heap.size + 1, 1, none⟩ = some (.int .i64 qy) ∧ V.cell? ⟨w.heap.size + 1 + 1, 0, none⟩ = some (.int .i64 rx) ∧ V.cell? ⟨w.heap.size + 1 + 1, 1, none⟩ = some (.int .i64 ry) ∧ V.cell? ⟨OA, 0, none⟩ = some (.int .i64 (Ax : Int)) ∧ V.cell? ⟨OA, 1, none⟩ = some (.int .i64 (Ay : Int))) ⟨hE.trans (by first | exact hb | exact Ext.alloc hb _ | exact Ext.alloc (Ext.alloc hb _) _), Ext.cell (by first | exact hb | exact Ext.alloc hb _ | exact Ext.alloc (Ext.alloc hb _) _) cPqx, Ext.cell (by first | exact hb | exact Ext.alloc hb _ | exact Ext.alloc (Ext.alloc hb _) _) cPqy, Ext.cell (by first | exact hb | exact Ext.alloc hb _ | exact Ext.alloc (Ext.alloc hb _) _) cPrx, Ext.cell (by first | exact hb | exact Ext.alloc hb _ | exact Ext.alloc (Ext.alloc hb _) _) cPry, by rw [hO]; simp [go_sem], by rw [hO]; simp [go_sem]⟩ ?_
  clear hE cPpx cPpy cPqx cPqy cPrx cPry lcPpx lcPpy lcPqx lcPqy lcPrx lcPry hb hc hf hz ha hO
  rintro V ⟨hE, cPqx, cPqy, cPrx, cPry, cOAx, cOAy⟩
  have lcPqx : w.heap.size + 1 < V.heap.size := World.block_lt_of_cell? V _ cPqx
  have lcPqy : w.heap.size + 1 < V.heap.size := World.block_lt_of_cell? V _ cPqy
  have lcPrx : w.heap.size + 1 + 1 < V.heap.size := World.block_lt_of_cell? V _ cPrx
  have lcPry : w.heap.size + 1 + 1 < V.heap.size := World.block_lt_of_cell? V _ cPry
  have lcOAx : OA < V.heap.size := World.block_lt_of_cell? V _ cOAx
  have lcOAy : OA < V.heap.size := World.block_lt_of_cell? V _ cOAy
  refine (rCell_c qx qy _ HJ.out.1 HJ.out.2).mono ?_
  rintro e w1 ⟨rfl, hb⟩
  have hc := hb.cellE; have hf := hb.frozenE; have hz := hb.size; have ha := alloc_keeps w1; (try simp only [World.size_alloc] at hc hf hz); (try simp only [World.size_setCell] at hc hf hz); (try simp only [World.size_drew] at hc hf hz)
  rw [HB.out.1, HB.out.2]
  go_wp2_with fail
  obtain ⟨OB, hO⟩ : ∃ O, O = w1.heap.size := ⟨_, rfl⟩
  rw [← hO]
  refine calls_name (fun V => Ext w V ∧ V.cell? ⟨w.heap.size + 1 + 1, 0, none⟩ = some (.int .i64 rx) ∧ V.cell? ⟨w.heap.size + 1 + 1, 1, none⟩ = some (.int .i64 ry) ∧ V.cell? ⟨OA, 0, none⟩ = some (.int .i64 (Ax : Int)) ∧ V.cell? ⟨OA, 1, none⟩ = some (.int .i64 (Ay : Int)) ∧ V.cell? ⟨OB, 0, none⟩ = some (.int .i64 (Bx : Int)) ∧ V.cell? ⟨OB, 1, none⟩ = some (.int .i64 (By : Int))) ⟨hE.trans (by first | exact hb | exact Ext.alloc hb _ | exact Ext.alloc (Ext.alloc hb _) _), Ext.cell (by first | exact hb | exact Ext.alloc hb _ | exact Ext.alloc (Ext.alloc hb _) _) cPrx, Ext.cell (by first | exact hb | exact Ext.alloc hb _ | exact Ext.alloc (Ext.alloc hb _) _) cPry, Ext.cell (by first | exact hb | exact Ext.alloc hb _ | exact Ext.alloc (Ext.alloc hb _) _) cOAx, Ext.cell (by first | exact hb | exact Ext.alloc hb _ | exact Ext.alloc (Ext.alloc hb _) _) cOAy, by rw [hO]; simp [go_sem], by rw [hO]; simp [go_sem]⟩ ?_
  clear hE cPqx cPqy cPrx cPry cOAx cOAy lcPqx lcPqy lcPrx lcPry lcOAx lcOAy hb hc hf hz ha hO
  rintro V ⟨hE, cPrx, cPry, cOAx, cOAy, cOBx, cOBy⟩
  have lcPrx : w.heap.size + 1 + 1 < V.heap.size := World.block_lt_of_cell? V _ cPrx
  have lcPry : w.heap.size + 1 + 1 < V.heap.size := World.block_lt_of_cell? V _ cPry
  have lcOAx : OA < V.heap.size := World.block_lt_of_cell? V _ cOAx
  have lcOAy : OA < V.heap.size := World.block_lt_of_cell? V _ cOAy
  have lcOBx : OB < V.heap.size := World.block_lt_of_cell? V _ cOBx
  have lcOBy : OB < V.heap.size := World.block_lt_of_cell? V _ cOBy
  refine (rCell_c rx ry _ HL.out.1 HL.out.2).mono ?_
  rintro e w1 ⟨rfl, hb⟩
  have hc := hb.cellE; have hf := hb.frozenE; have hz := hb.size; have ha := alloc_keeps w1; (try simp only [World.size_alloc] at hc hf hz); (try simp only [World.size_setCell] at hc hf hz); (try simp only [World.size_drew] at hc hf hz)
  rw [HC.out.1, HC.out.2]
  go_wp2_with fail
  obtain ⟨OC, hO⟩ : ∃ O, O = w1.heap.size := ⟨_, rfl⟩
  rw [← hO]
  refine calls_name (fun V => Ext w V ∧ V.cell? ⟨OA, 0, none⟩ = some (.int .i64 (Ax : Int)) ∧ V.cell? ⟨OA, 1, none⟩ = some (.int .i64 (Ay : Int)) ∧ V.cell? ⟨OB, 0, none⟩ = some (.int .i64 (Bx : Int)) ∧ V.cell? ⟨OB, 1, none⟩ = some (.int .i64 (By : Int)) ∧ V.cell? ⟨OC, 0, none⟩ = some (.int .i64 (Cx : Int)) ∧ V.cell? ⟨OC, 1, none⟩ = some (.int .i64 (Cy : Int))) ⟨hE.trans (by first | exact hb | exact Ext.alloc hb _ | exact Ext.alloc (Ext.alloc hb _) _), Ext.cell (by first | exact hb | exact Ext.alloc hb _ | exact Ext.alloc (Ext.alloc hb _) _) cOAx, Ext.cell (by first | exact hb | exact Ext.alloc hb _ | exact Ext.alloc (Ext.alloc hb _) _) cOAy, Ext.cell (by first | exact hb | exact Ext.alloc hb _ | exact Ext.alloc (Ext.alloc hb _) _) cOBx, Ext.cell (by first | exact hb | exact Ext.alloc hb _ | exact Ext.alloc (Ext.alloc hb _) _) cOBy, by rw [hO]; simp [go_sem], by rw [hO]; simp [go_sem]⟩ ?_
  clear hE cPrx cPry cOAx cOAy cOBx cOBy lcPrx lcPry lcOAx lcOAy lcOBx lcOBy hb hc hf hz ha hO
  rintro V ⟨hE, cOAx, cOAy, cOBx, cOBy, cOCx, cOCy⟩
  have lcOAx : OA < V.heap.size := World.block_lt_of_cell? V _ cOAx
  have lcOAy : OA < V.heap.size := World.block_lt_of_cell? V _ cOAy
  have lcOBx : OB < V.heap.size := World.block_lt_of_cell? V _ cOBx
  have lcOBy : OB < V.heap.size := World.block_lt_of_cell? V _ cOBy
  have lcOCx : OC < V.heap.size := World.block_lt_of_cell? V _ cOCx
  have lcOCy : OC < V.heap.size := World.block_lt_of_cell? V _ cOCy
  refine (pick_c cols 48 _ H4.out (by omega) (by omega)).mono ?_
  rintro e w' ⟨rfl, rfl⟩
  rw [HK.out]
  go_wp2_with fail
  have tri := @near_tri Ax Ay Cx Cy Bx By bAx bCx bBx
  have sym := near_sym Bx By Ax Ay
  have bd := near_bd bAx bBx bAy bBy
  have bd2 := near_bd bAx bCx bAy bCy
  have bd3 := near_bd bCx bBx bCy bBy
  have zr := @near_zero Ax Ay Bx By bAx bBx
  have sh := @near_shift Ax Ay Bx By K bAx bBx bK
  obtain ⟨n1, hn1⟩ : ∃ n, nearN Ax Ay Bx By = n := ⟨_, rfl⟩
  obtain ⟨n2, hn2⟩ : ∃ n, nearN Ax Ay Cx Cy = n := ⟨_, rfl⟩
  obtain ⟨n3, hn3⟩ : ∃ n, nearN Cx Cy Bx By = n := ⟨_, rfl⟩
  rw [hn1, hn2, hn3] at tri
  rw [hn1] at sym bd zr sh
  rw [hn2] at bd2
  rw [hn3] at bd3
  have HN1 := Lib.hid hn1; have HN2 := Lib.hid hn2; have HN3 := Lib.hid hn3; have HZ := Lib.hid zr; have HSy := Lib.hid sym; have HSh := Lib.hid sh
  clear hn1 hn2 hn3 zr sym sh
  refine (Near_r _ _ _ _ _ rfl rfl rfl rfl bAx bAy bBx bBy HN1.out).mono ?_
  rintro e w1 ⟨rfl, hb⟩
  have hc := hb.cellE; have hf := hb.frozenE; have hz := hb.size; have ha := alloc_keeps w1; (try simp only [World.size_alloc] at hc hf hz); (try simp only [World.size_setCell] at hc hf hz); (try simp only [World.size_drew] at hc hf hz)
  go_wp2_with fail
  refine wp_name (fun V => Ext w V ∧ V.cell? ⟨OA, 0, none⟩ = some (.int .i64 (Ax : Int)) ∧ V.cell? ⟨OA, 1, none⟩ = some (.int .i64 (Ay : Int)) ∧ V.cell? ⟨OB, 0, none⟩ = some (.int .i64 (Bx : Int)) ∧ V.cell? ⟨OB, 1, none⟩ = some (.int .i64 (By : Int)) ∧ V.cell? ⟨OC, 0, none⟩ = some (.int .i64 (Cx : Int)) ∧ V.cell? ⟨OC, 1, none⟩ = some (.int .i64 (Cy : Int))) ⟨hE.trans (by first | exact hb | exact Ext.alloc hb _ | exact Ext.alloc (Ext.alloc hb _) _), Ext.cell (by first | exact hb | exact Ext.alloc hb _ | exact Ext.alloc (Ext.alloc hb _) _) cOAx, Ext.cell (by first | exact hb | exact Ext.alloc hb _ | exact Ext.alloc (Ext.alloc hb _) _) cOAy, Ext.cell (by first | exact hb | exact Ext.alloc hb _ | exact Ext.alloc (Ext.alloc hb _) _) cOBx, Ext.cell (by first | exact hb | exact Ext.alloc hb _ | exact Ext.alloc (Ext.alloc hb _) _) cOBy, Ext.cell (by first | exact hb | exact Ext.alloc hb _ | exact Ext.alloc (Ext.alloc hb _) _) cOCx, Ext.cell (by first | exact hb | exact Ext.alloc hb _ | exact Ext.alloc (Ext.alloc hb _) _) cOCy⟩ ?_
  clear hE cOAx cOAy cOBx cOBy cOCx cOCy lcOAx lcOAy lcOBx lcOBy lcOCx lcOCy hb hc hf hz ha
  rintro V ⟨hE, cOAx, cOAy, cOBx, cOBy, cOCx, cOCy⟩
  have lcOAx : OA < V.heap.size := World.block_lt_of_cell? V _ cOAx
  have lcOAy : OA < V.heap.size := World.block_lt_of_cell? V _ cOAy
  have lcOBx : OB < V.heap.size := World.block_lt_of_cell? V _ cOBx
  have lcOBy : OB < V.heap.size := World.block_lt_of_cell? V _ cOBy
  have lcOCx : OC < V.heap.size := World.block_lt_of_cell? V _ cOCx
  have lcOCy : OC < V.heap.size := World.block_lt_of_cell? V _ cOCy
  have k29 : IntKind.i64.wrap ((n2 : Int) + (n3 : Int)) = (n2 : Int) + (n3 : Int) := by rw [IntKind.wrap_i64]; omega
  have K29 := Lib.hid k29; clear k29

  go_cut [71] from 40 to 71 (fun s V => s = .bool false ∧ Ext w V ∧ V.cell? ⟨OA, 0, none⟩ = some (.int .i64 (Ax : Int)) ∧ V.cell? ⟨OA, 1, none⟩ = some (.int .i64 (Ay : Int)) ∧ V.cell? ⟨OB, 0, none⟩ = some (.int .i64 (Bx : Int)) ∧ V.cell? ⟨OB, 1, none⟩ = some (.int .i64 (By : Int)) ∧ V.cell? ⟨OC, 0, none⟩ = some (.int .i64 (Cx : Int)) ∧ V.cell? ⟨OC, 1, none⟩ = some (.int .i64 (Cy : Int)))
  case first =>
    by_cases h0 : n1 = 0
    · obtain ⟨e1, e2⟩ := HZ.out.1 h0
      have H0 := Lib.hid h0; have HE1 := Lib.hid e1; have HE2 := Lib.hid e2; clear h0 e1 e2
      refine wp_region_held_drew (S := fun w' => Ext V w' ∧ w'.cell? ⟨OA, 0, none⟩ = some (.int .i64 (Ax : Int)) ∧ w'.cell? ⟨OA, 1, none⟩ = some (.int .i64 (Ay : Int)) ∧ w'.cell? ⟨OB, 0, none⟩ = some (.int .i64 (Bx : Int)) ∧ w'.cell? ⟨OB, 1, none⟩ = some (.int .i64 (By : Int)) ∧ w'.cell? ⟨OC, 0, none⟩ = some (.int .i64 (Cx : Int)) ∧ w'.cell? ⟨OC, 1, none⟩ = some (.int .i64 (Cy : Int))) (by kernel_rfl) ⟨Ext.drew (Ext.refl _), cOAx, cOAy, cOBx, cOBy, cOCx, cOCy⟩ (fun hHeld => ?_)
      (refine rg_take 0 (v := ?_) rfl (by kernel_rfl) (by kernel_rfl) (by kernel_rfl) (fun _ _ _ h => h) (by kernel_rfl) ?_ (by with_reducible assumption) ?_; rotate_left; (focus (intro w hSw; (try dsimp only at hSw); go_simp; (try with_reducible rfl))); (try simp only [Act.put, List.setIfInBounds_toArray, List.set_cons_zero, List.set_cons_succ]))
      (refine rg_take 1 (v := ?_) rfl (by kernel_rfl) (by kernel_rfl) (by kernel_rfl) (fun _ _ _ h => h) (by kernel_rfl) ?_ (by with_reducible assumption) ?_; rotate_left; (focus (intro w hSw; (try dsimp only at hSw); have k0 : ¬ ((n1 : Int) < 0) := (by omega); go_simp; (try with_reducible rfl))); (try simp only [Act.put, List.setIfInBounds_toArray, List.set_cons_zero, List.set_cons_succ]))
      (refine rg_take 2 (v := ?_) rfl (by kernel_rfl) (by kernel_rfl) (by kernel_rfl) (fun _ _ _ h => h) (by kernel_rfl) ?_ (by with_reducible assumption) ?_; rotate_left; (focus (intro w hSw; (try dsimp only at hSw); go_simp; (try with_reducible rfl))); (try simp only [Act.put, List.setIfInBounds_toArray, List.set_cons_zero, List.set_cons_succ]))
      (refine rg_take 3 (v := ?_) rfl (by kernel_rfl) (by kernel_rfl) (by kernel_rfl) (fun _ _ _ h => h) (by kernel_rfl) ?_ (by with_reducible assumption) ?_; rotate_left; (focus (intro w hSw; (try dsimp only at hSw); go_simp; (try with_reducible rfl))); (try simp only [Act.put, List.setIfInBounds_toArray, List.set_cons_zero, List.set_cons_succ]))
      (refine rg_take 4 (v := ?_) rfl (by kernel_rfl) (by kernel_rfl) (by kernel_rfl) (fun _ _ _ h => h) (by kernel_rfl) ?_ (by with_reducible assumption) ?_; rotate_left; (focus (intro w hSw; (try dsimp only at hSw); have k0 : ¬ (24 < (n1 : Int)) := (by omega); go_simp; (try with_reducible rfl))); (try simp only [Act.put, List.setIfInBounds_toArray, List.set_cons_zero, List.set_cons_succ]))
      (refine rg_take 5 (v := ?_) rfl (by kernel_rfl) (by kernel_rfl) (by kernel_rfl) (fun _ _ _ h => h) (by kernel_rfl) ?_ (by with_reducible assumption) ?_; rotate_left; (focus (intro w hSw; (try dsimp only at hSw); go_simp; (try with_reducible rfl))); (try simp only [Act.put, List.setIfInBounds_toArray, List.set_cons_zero, List.set_cons_succ]))
      (refine rg_take 6 (v := ?_) rfl (by kernel_rfl) (by kernel_rfl) (by kernel_rfl) (fun _ _ _ h => h) (by kernel_rfl) ?_ (by with_reducible assumption) ?_; rotate_left; (focus (intro w hSw; (try dsimp only at hSw); go_simp; (try with_reducible rfl))); (try simp only [Act.put, List.setIfInBounds_toArray, List.set_cons_zero, List.set_cons_succ]))
      (refine rg_take 7 (v := ?_) rfl (by kernel_rfl) (by kernel_rfl) (by kernel_rfl) (fun _ _ _ h => h) (by kernel_rfl) ?_ (by with_reducible assumption) ?_; rotate_left; (focus (intro w hSw; (try dsimp only at hSw); go_simp; (try with_reducible rfl))); (try simp only [Act.put, List.setIfInBounds_toArray, List.set_cons_zero, List.set_cons_succ]))
      (refine rg_take 8 (v := ?_) rfl (by kernel_rfl) (by kernel_rfl) (by kernel_rfl) (fun _ _ _ h => h) (by kernel_rfl) ?_ (by with_reducible assumption) ?_; rotate_left; (focus (intro w hSw; (try dsimp only at hSw); have k0 := H0.out; go_simp; (try with_reducible rfl))); (try simp only [Act.put, List.setIfInBounds_toArray, List.set_cons_zero, List.set_cons_succ]))
      (refine rg_take 9 (v := ?_) rfl (by kernel_rfl) (by kernel_rfl) (by kernel_rfl) (fun _ _ _ h => h) (by kernel_rfl) ?_ (by with_reducible assumption) ?_; rotate_left; (focus (intro w hSw; (try dsimp only at hSw); go_simp; (try with_reducible rfl))); (try simp only [Act.put, List.setIfInBounds_toArray, List.set_cons_zero, List.set_cons_succ]))
      (refine rg_take 10 (v := ?_) rfl (by kernel_rfl) (by kernel_rfl) (by kernel_rfl) (fun _ _ _ h => h) (by kernel_rfl) ?_ (by with_reducible assumption) ?_; rotate_left; (focus (intro w hSw; (try dsimp only at hSw); go_simp; (try with_reducible rfl))); (try simp only [Act.put, List.setIfInBounds_toArray, List.set_cons_zero, List.set_cons_succ]))
      (refine rg_take 11 (v := ?_) rfl (by kernel_rfl) (by kernel_rfl) (by kernel_rfl) (fun _ _ _ h => h) (by kernel_rfl) ?_ (by with_reducible assumption) ?_; rotate_left; (focus (intro w hSw; (try dsimp only at hSw); have k0 : (Ax : Int) = (Bx : Int) := (by have := HE1.out; omega); have k1 : (Ay : Int) = (By : Int) := (by have := HE2.out; omega); go_simp; (try with_reducible rfl))); (try simp only [Act.put, List.setIfInBounds_toArray, List.set_cons_zero, List.set_cons_succ]))
      (refine rg_take 12 (v := ?_) rfl (by kernel_rfl) (by kernel_rfl) (by kernel_rfl) (fun _ _ _ h => h) (by kernel_rfl) ?_ (by with_reducible assumption) ?_; rotate_left; (focus (intro w hSw; (try dsimp only at hSw); go_simp; (try with_reducible rfl))); (try simp only [Act.put, List.setIfInBounds_toArray, List.set_cons_zero, List.set_cons_succ]))
      (refine rg_take 13 (v := ?_) rfl (by kernel_rfl) (by kernel_rfl) (by kernel_rfl) (fun _ _ _ h => h) (by kernel_rfl) ?_ (by with_reducible assumption) ?_; rotate_left; (focus (intro w hSw; (try dsimp only at hSw); go_simp; (try with_reducible rfl))); (try simp only [Act.put, List.setIfInBounds_toArray, List.set_cons_zero, List.set_cons_succ]))
      (refine rg_take 14 (v := ?_) rfl (by kernel_rfl) (by kernel_rfl) (by kernel_rfl) (fun _ _ _ h => h) (by kernel_rfl) ?_ (by with_reducible assumption) ?_; rotate_left; (focus (intro w hSw; (try dsimp only at hSw); go_simp; (try with_reducible rfl))); (try simp only [Act.put, List.setIfInBounds_toArray, List.set_cons_zero, List.set_cons_succ]))
      (refine rg_take 15 (v := ?_) rfl (by kernel_rfl) (by kernel_rfl) (by kernel_rfl) (fun _ _ _ h => h) (by kernel_rfl) ?_ (by with_reducible assumption) ?_; rotate_left; (focus (intro w hSw; (try dsimp only at hSw); go_simp; (try with_reducible rfl))); (try simp only [Act.put, List.setIfInBounds_toArray, List.set_cons_zero, List.set_cons_succ]))
      (refine rg_take 16 (v := ?_) rfl (by kernel_rfl) (by kernel_rfl) (by kernel_rfl) (fun _ _ _ h => h) (by kernel_rfl) ?_ (by with_reducible assumption) ?_; rotate_left; (focus (intro w hSw; (try dsimp only at hSw); go_simp; (try with_reducible rfl))); (try simp only [Act.put, List.setIfInBounds_toArray, List.set_cons_zero, List.set_cons_succ]))
      (refine rg_take 17 (v := ?_) rfl (by kernel_rfl) (by kernel_rfl) (by kernel_rfl) (fun _ _ _ h => h) (by kernel_rfl) ?_ (by with_reducible assumption) ?_; rotate_left; (focus (intro w hSw; (try dsimp only at hSw); go_simp; (try with_reducible rfl))); (try simp only [Act.put, List.setIfInBounds_toArray, List.set_cons_zero, List.set_cons_succ]))
      (refine rg_step 18 rfl (by kernel_rfl) (by kernel_rfl) (fun K hK => ?_); go_simp; (go_at_call 17; refine (Near_r _ _ _ _ _ rfl rfl rfl rfl bBx bBy bAx bAy HSy.out).mono ?_; rintro e w1 ⟨rfl, hb⟩); refine hK.out _ _ (⟨hHeld.1.trans hb, hb.cell hHeld.2.1, hb.cell hHeld.2.2.1, hb.cell hHeld.2.2.2.1, hb.cell hHeld.2.2.2.2.1, hb.cell hHeld.2.2.2.2.2.1, hb.cell hHeld.2.2.2.2.2.2⟩) (fun hHeld => ?_); clear hK K; (try simp only [Act.put, List.setIfInBounds_toArray, List.set_cons_zero, List.set_cons_succ]))
      (refine rg_take 19 (v := ?_) rfl (by kernel_rfl) (by kernel_rfl) (by kernel_rfl) (fun _ _ _ h => h) (by kernel_rfl) ?_ (by with_reducible assumption) ?_; rotate_left; (focus (intro w hSw; (try dsimp only at hSw); go_simp; (try with_reducible rfl))); (try simp only [Act.put, List.setIfInBounds_toArray, List.set_cons_zero, List.set_cons_succ]))
      (refine rg_take 20 (v := ?_) rfl (by kernel_rfl) (by kernel_rfl) (by kernel_rfl) (fun _ _ _ h => h) (by kernel_rfl) ?_ (by with_reducible assumption) ?_; rotate_left; (focus (intro w hSw; (try dsimp only at hSw); go_simp; (try with_reducible rfl))); (try simp only [Act.put, List.setIfInBounds_toArray, List.set_cons_zero, List.set_cons_succ]))
      (refine rg_take 21 (v := ?_) rfl (by kernel_rfl) (by kernel_rfl) (by kernel_rfl) (fun _ _ _ h => h) (by kernel_rfl) ?_ (by with_reducible assumption) ?_; rotate_left; (focus (intro w hSw; (try dsimp only at hSw); go_simp; (try with_reducible rfl))); (try simp only [Act.put, List.setIfInBounds_toArray, List.set_cons_zero, List.set_cons_succ]))
      (refine rg_take 22 (v := ?_) rfl (by kernel_rfl) (by kernel_rfl) (by kernel_rfl) (fun _ _ _ h => h) (by kernel_rfl) ?_ (by with_reducible assumption) ?_; rotate_left; (focus (intro w hSw; (try dsimp only at hSw); go_simp; (try with_reducible rfl))); (try simp only [Act.put, List.setIfInBounds_toArray, List.set_cons_zero, List.set_cons_succ]))
      (refine rg_take 23 (v := ?_) rfl (by kernel_rfl) (by kernel_rfl) (by kernel_rfl) (fun _ _ _ h => h) (by kernel_rfl) ?_ (by with_reducible assumption) ?_; rotate_left; (focus (intro w hSw; (try dsimp only at hSw); go_simp; (try with_reducible rfl))); (try simp only [Act.put, List.setIfInBounds_toArray, List.set_cons_zero, List.set_cons_succ]))
      (refine rg_take 24 (v := ?_) rfl (by kernel_rfl) (by kernel_rfl) (by kernel_rfl) (fun _ _ _ h => h) (by kernel_rfl) ?_ (by with_reducible assumption) ?_; rotate_left; (focus (intro w hSw; (try dsimp only at hSw); go_simp; (try with_reducible rfl))); (try simp only [Act.put, List.setIfInBounds_toArray, List.set_cons_zero, List.set_cons_succ]))
      (refine rg_take 26 (v := ?_) rfl (by kernel_rfl) (by kernel_rfl) (by kernel_rfl) (fun _ _ _ h => h) (by kernel_rfl) ?_ (by with_reducible assumption) ?_; rotate_left; (focus (intro w hSw; (try dsimp only at hSw); go_simp; (try with_reducible rfl))); (try simp only [Act.put, List.setIfInBounds_toArray, List.set_cons_zero, List.set_cons_succ]))
      (refine rg_take 27 (v := ?_) rfl (by kernel_rfl) (by kernel_rfl) (by kernel_rfl) (fun _ _ _ h => h) (by kernel_rfl) ?_ (by with_reducible assumption) ?_; rotate_left; (focus (intro w hSw; (try dsimp only at hSw); go_simp; (try with_reducible rfl))); (try simp only [Act.put, List.setIfInBounds_toArray, List.set_cons_zero, List.set_cons_succ]))
      (refine rg_step 25 rfl (by kernel_rfl) (by kernel_rfl) (fun K hK => ?_); go_simp; (go_at_call 17; refine (Near_r _ _ _ _ _ rfl rfl rfl rfl bAx bAy bCx bCy HN2.out).mono ?_; rintro e w1 ⟨rfl, hb⟩); refine hK.out _ _ (⟨hHeld.1.trans hb, hb.cell hHeld.2.1, hb.cell hHeld.2.2.1, hb.cell hHeld.2.2.2.1, hb.cell hHeld.2.2.2.2.1, hb.cell hHeld.2.2.2.2.2.1, hb.cell hHeld.2.2.2.2.2.2⟩) (fun hHeld => ?_); clear hK K; (try simp only [Act.put, List.setIfInBounds_toArray, List.set_cons_zero, List.set_cons_succ]))
      (refine rg_step 28 rfl (by kernel_rfl) (by kernel_rfl) (fun K hK => ?_); go_simp; (go_at_call 17; refine (Near_r _ _ _ _ _ rfl rfl rfl rfl bCx bCy bBx bBy HN3.out).mono ?_; rintro e w1 ⟨rfl, hb⟩); refine hK.out _ _ (⟨hHeld.1.trans hb, hb.cell hHeld.2.1, hb.cell hHeld.2.2.1, hb.cell hHeld.2.2.2.1, hb.cell hHeld.2.2.2.2.1, hb.cell hHeld.2.2.2.2.2.1, hb.cell hHeld.2.2.2.2.2.2⟩) (fun hHeld => ?_); clear hK K; (try simp only [Act.put, List.setIfInBounds_toArray, List.set_cons_zero, List.set_cons_succ]))
      (refine rg_take 29 (v := ?_) rfl (by kernel_rfl) (by kernel_rfl) (by kernel_rfl) (fun _ _ _ h => h) (by kernel_rfl) ?_ (by with_reducible assumption) ?_; rotate_left; (focus (intro w hSw; (try dsimp only at hSw); have k0 := K29.out; go_simp; (try with_reducible rfl))); (try simp only [Act.put, List.setIfInBounds_toArray, List.set_cons_zero, List.set_cons_succ]))
      (refine rg_take 30 (v := ?_) rfl (by kernel_rfl) (by kernel_rfl) (by kernel_rfl) (fun _ _ _ h => h) (by kernel_rfl) ?_ (by with_reducible assumption) ?_; rotate_left; (focus (intro w hSw; (try dsimp only at hSw); have k0 : ¬ ((n2 : Int) + (n3 : Int) < (n1 : Int)) := (by omega); go_simp; (try with_reducible rfl))); (try simp only [Act.put, List.setIfInBounds_toArray, List.set_cons_zero, List.set_cons_succ]))
      (refine rg_take 31 (v := ?_) rfl (by kernel_rfl) (by kernel_rfl) (by kernel_rfl) (fun _ _ _ h => h) (by kernel_rfl) ?_ (by with_reducible assumption) ?_; rotate_left; (focus (intro w hSw; (try dsimp only at hSw); go_simp; (try with_reducible rfl))); (try simp only [Act.put, List.setIfInBounds_toArray, List.set_cons_zero, List.set_cons_succ]))
      refine wpAnyH_done (by kernel_rfl) ?_ _
      have hb := hHeld.1
      clear hHeld
      go_wp2_with fail
      go_meet
      exact ⟨rfl, hE.trans hb, Ext.cell hb cOAx, Ext.cell hb cOAy, Ext.cell hb cOBx, Ext.cell hb cOBy, Ext.cell hb cOCx, Ext.cell hb cOCy⟩
    · have ne1 : ¬ (Ax = Bx ∧ Ay = By) := fun h => h0 (HZ.out.2 h)
      have H0 := Lib.hid h0; have Hne := Lib.hid ne1; clear h0 ne1
      by_cases hx : Ax = Bx
      · have HE1 := Lib.hid hx; clear hx
        refine wp_region_held_drew (S := fun w' => Ext V w' ∧ w'.cell? ⟨OA, 0, none⟩ = some (.int .i64 (Ax : Int)) ∧ w'.cell? ⟨OA, 1, none⟩ = some (.int .i64 (Ay : Int)) ∧ w'.cell? ⟨OB, 0, none⟩ = some (.int .i64 (Bx : Int)) ∧ w'.cell? ⟨OB, 1, none⟩ = some (.int .i64 (By : Int)) ∧ w'.cell? ⟨OC, 0, none⟩ = some (.int .i64 (Cx : Int)) ∧ w'.cell? ⟨OC, 1, none⟩ = some (.int .i64 (Cy : Int))) (by kernel_rfl) ⟨Ext.drew (Ext.refl _), cOAx, cOAy, cOBx, cOBy, cOCx, cOCy⟩ (fun hHeld => ?_)
        (refine rg_take 0 (v := ?_) rfl (by kernel_rfl) (by kernel_rfl) (by kernel_rfl) (fun _ _ _ h => h) (by kernel_rfl) ?_ (by with_reducible assumption) ?_; rotate_left; (focus (intro w hSw; (try dsimp only at hSw); go_simp; (try with_reducible rfl))); (try simp only [Act.put, List.setIfInBounds_toArray, List.set_cons_zero, List.set_cons_succ]))
        (refine rg_take 1 (v := ?_) rfl (by kernel_rfl) (by kernel_rfl) (by kernel_rfl) (fun _ _ _ h => h) (by kernel_rfl) ?_ (by with_reducible assumption) ?_; rotate_left; (focus (intro w hSw; (try dsimp only at hSw); have k0 : ¬ ((n1 : Int) < 0) := (by omega); go_simp; (try with_reducible rfl))); (try simp only [Act.put, List.setIfInBounds_toArray, List.set_cons_zero, List.set_cons_succ]))
        (refine rg_take 2 (v := ?_) rfl (by kernel_rfl) (by kernel_rfl) (by kernel_rfl) (fun _ _ _ h => h) (by kernel_rfl) ?_ (by with_reducible assumption) ?_; rotate_left; (focus (intro w hSw; (try dsimp only at hSw); go_simp; (try with_reducible rfl))); (try simp only [Act.put, List.setIfInBounds_toArray, List.set_cons_zero, List.set_cons_succ]))
        (refine rg_take 3 (v := ?_) rfl (by kernel_rfl) (by kernel_rfl) (by kernel_rfl) (fun _ _ _ h => h) (by kernel_rfl) ?_ (by with_reducible assumption) ?_; rotate_left; (focus (intro w hSw; (try dsimp only at hSw); go_simp; (try with_reducible rfl))); (try simp only [Act.put, List.setIfInBounds_toArray, List.set_cons_zero, List.set_cons_succ]))
        (refine rg_take 4 (v := ?_) rfl (by kernel_rfl) (by kernel_rfl) (by kernel_rfl) (fun _ _ _ h => h) (by kernel_rfl) ?_ (by with_reducible assumption) ?_; rotate_left; (focus (intro w hSw; (try dsimp only at hSw); have k0 : ¬ (24 < (n1 : Int)) := (by omega); go_simp; (try with_reducible rfl))); (try simp only [Act.put, List.setIfInBounds_toArray, List.set_cons_zero, List.set_cons_succ]))
        (refine rg_take 5 (v := ?_) rfl (by kernel_rfl) (by kernel_rfl) (by kernel_rfl) (fun _ _ _ h => h) (by kernel_rfl) ?_ (by with_reducible assumption) ?_; rotate_left; (focus (intro w hSw; (try dsimp only at hSw); go_simp; (try with_reducible rfl))); (try simp only [Act.put, List.setIfInBounds_toArray, List.set_cons_zero, List.set_cons_succ]))
        (refine rg_take 6 (v := ?_) rfl (by kernel_rfl) (by kernel_rfl) (by kernel_rfl) (fun _ _ _ h => h) (by kernel_rfl) ?_ (by with_reducible assumption) ?_; rotate_left; (focus (intro w hSw; (try dsimp only at hSw); go_simp; (try with_reducible rfl))); (try simp only [Act.put, List.setIfInBounds_toArray, List.set_cons_zero, List.set_cons_succ]))
        (refine rg_take 7 (v := ?_) rfl (by kernel_rfl) (by kernel_rfl) (by kernel_rfl) (fun _ _ _ h => h) (by kernel_rfl) ?_ (by with_reducible assumption) ?_; rotate_left; (focus (intro w hSw; (try dsimp only at hSw); go_simp; (try with_reducible rfl))); (try simp only [Act.put, List.setIfInBounds_toArray, List.set_cons_zero, List.set_cons_succ]))
        (refine rg_take 8 (v := ?_) rfl (by kernel_rfl) (by kernel_rfl) (by kernel_rfl) (fun _ _ _ h => h) (by kernel_rfl) ?_ (by with_reducible assumption) ?_; rotate_left; (focus (intro w hSw; (try dsimp only at hSw); have k0 := H0.out; have k1 : ((n1 : Int) == 0) = false := (by simpa using H0.out); go_simp; (try with_reducible rfl))); (try simp only [Act.put, List.setIfInBounds_toArray, List.set_cons_zero, List.set_cons_succ]))
        (refine rg_take 9 (v := ?_) rfl (by kernel_rfl) (by kernel_rfl) (by kernel_rfl) (fun _ _ _ h => h) (by kernel_rfl) ?_ (by with_reducible assumption) ?_; rotate_left; (focus (intro w hSw; (try dsimp only at hSw); go_simp; (try with_reducible rfl))); (try simp only [Act.put, List.setIfInBounds_toArray, List.set_cons_zero, List.set_cons_succ]))
        (refine rg_take 10 (v := ?_) rfl (by kernel_rfl) (by kernel_rfl) (by kernel_rfl) (fun _ _ _ h => h) (by kernel_rfl) ?_ (by with_reducible assumption) ?_; rotate_left; (focus (intro w hSw; (try dsimp only at hSw); go_simp; (try with_reducible rfl))); (try simp only [Act.put, List.setIfInBounds_toArray, List.set_cons_zero, List.set_cons_succ]))
        (refine rg_take 11 (v := ?_) rfl (by kernel_rfl) (by kernel_rfl) (by kernel_rfl) (fun _ _ _ h => h) (by kernel_rfl) ?_ (by with_reducible assumption) ?_; rotate_left; (focus (intro w hSw; (try dsimp only at hSw); have k0 : (Ax : Int) = (Bx : Int) := (by have := HE1.out; omega); have k1 : ¬ (Ay : Int) = (By : Int) := (by have := HE1.out; have := Hne.out; omega); go_simp; (try with_reducible rfl))); (try simp only [Act.put, List.setIfInBounds_toArray, List.set_cons_zero, List.set_cons_succ]))
        (refine rg_take 12 (v := ?_) rfl (by kernel_rfl) (by kernel_rfl) (by kernel_rfl) (fun _ _ _ h => h) (by kernel_rfl) ?_ (by with_reducible assumption) ?_; rotate_left; (focus (intro w hSw; (try dsimp only at hSw); go_simp; (try with_reducible rfl))); (try simp only [Act.put, List.setIfInBounds_toArray, List.set_cons_zero, List.set_cons_succ]))
        (refine rg_take 13 (v := ?_) rfl (by kernel_rfl) (by kernel_rfl) (by kernel_rfl) (fun _ _ _ h => h) (by kernel_rfl) ?_ (by with_reducible assumption) ?_; rotate_left; (focus (intro w hSw; (try dsimp only at hSw); go_simp; (try with_reducible rfl))); (try simp only [Act.put, List.setIfInBounds_toArray, List.set_cons_zero, List.set_cons_succ]))
        (refine rg_take 14 (v := ?_) rfl (by kernel_rfl) (by kernel_rfl) (by kernel_rfl) (fun _ _ _ h => h) (by kernel_rfl) ?_ (by with_reducible assumption) ?_; rotate_left; (focus (intro w hSw; (try dsimp only at hSw); go_simp; (try with_reducible rfl))); (try simp only [Act.put, List.setIfInBounds_toArray, List.set_cons_zero, List.set_cons_succ]))
        (refine rg_take 15 (v := ?_) rfl (by kernel_rfl) (by kernel_rfl) (by kernel_rfl) (fun _ _ _ h => h) (by kernel_rfl) ?_ (by with_reducible assumption) ?_; rotate_left; (focus (intro w hSw; (try dsimp only at hSw); go_simp; (try with_reducible rfl))); (try simp only [Act.put, List.setIfInBounds_toArray, List.set_cons_zero, List.set_cons_succ]))
        (refine rg_take 16 (v := ?_) rfl (by kernel_rfl) (by kernel_rfl) (by kernel_rfl) (fun _ _ _ h => h) (by kernel_rfl) ?_ (by with_reducible assumption) ?_; rotate_left; (focus (intro w hSw; (try dsimp only at hSw); go_simp; (try with_reducible rfl))); (try simp only [Act.put, List.setIfInBounds_toArray, List.set_cons_zero, List.set_cons_succ]))
        (refine rg_take 17 (v := ?_) rfl (by kernel_rfl) (by kernel_rfl) (by kernel_rfl) (fun _ _ _ h => h) (by kernel_rfl) ?_ (by with_reducible assumption) ?_; rotate_left; (focus (intro w hSw; (try dsimp only at hSw); go_simp; (try with_reducible rfl))); (try simp only [Act.put, List.setIfInBounds_toArray, List.set_cons_zero, List.set_cons_succ]))
        (refine rg_step 18 rfl (by kernel_rfl) (by kernel_rfl) (fun K hK => ?_); go_simp; (go_at_call 17; refine (Near_r _ _ _ _ _ rfl rfl rfl rfl bBx bBy bAx bAy HSy.out).mono ?_; rintro e w1 ⟨rfl, hb⟩); refine hK.out _ _ (⟨hHeld.1.trans hb, hb.cell hHeld.2.1, hb.cell hHeld.2.2.1, hb.cell hHeld.2.2.2.1, hb.cell hHeld.2.2.2.2.1, hb.cell hHeld.2.2.2.2.2.1, hb.cell hHeld.2.2.2.2.2.2⟩) (fun hHeld => ?_); clear hK K; (try simp only [Act.put, List.setIfInBounds_toArray, List.set_cons_zero, List.set_cons_succ]))
        (refine rg_take 19 (v := ?_) rfl (by kernel_rfl) (by kernel_rfl) (by kernel_rfl) (fun _ _ _ h => h) (by kernel_rfl) ?_ (by with_reducible assumption) ?_; rotate_left; (focus (intro w hSw; (try dsimp only at hSw); go_simp; (try with_reducible rfl))); (try simp only [Act.put, List.setIfInBounds_toArray, List.set_cons_zero, List.set_cons_succ]))
        (refine rg_take 20 (v := ?_) rfl (by kernel_rfl) (by kernel_rfl) (by kernel_rfl) (fun _ _ _ h => h) (by kernel_rfl) ?_ (by with_reducible assumption) ?_; rotate_left; (focus (intro w hSw; (try dsimp only at hSw); go_simp; (try with_reducible rfl))); (try simp only [Act.put, List.setIfInBounds_toArray, List.set_cons_zero, List.set_cons_succ]))
        (refine rg_take 21 (v := ?_) rfl (by kernel_rfl) (by kernel_rfl) (by kernel_rfl) (fun _ _ _ h => h) (by kernel_rfl) ?_ (by with_reducible assumption) ?_; rotate_left; (focus (intro w hSw; (try dsimp only at hSw); go_simp; (try with_reducible rfl))); (try simp only [Act.put, List.setIfInBounds_toArray, List.set_cons_zero, List.set_cons_succ]))
        (refine rg_take 22 (v := ?_) rfl (by kernel_rfl) (by kernel_rfl) (by kernel_rfl) (fun _ _ _ h => h) (by kernel_rfl) ?_ (by with_reducible assumption) ?_; rotate_left; (focus (intro w hSw; (try dsimp only at hSw); go_simp; (try with_reducible rfl))); (try simp only [Act.put, List.setIfInBounds_toArray, List.set_cons_zero, List.set_cons_succ]))
        (refine rg_take 23 (v := ?_) rfl (by kernel_rfl) (by kernel_rfl) (by kernel_rfl) (fun _ _ _ h => h) (by kernel_rfl) ?_ (by with_reducible assumption) ?_; rotate_left; (focus (intro w hSw; (try dsimp only at hSw); go_simp; (try with_reducible rfl))); (try simp only [Act.put, List.setIfInBounds_toArray, List.set_cons_zero, List.set_cons_succ]))
        (refine rg_take 24 (v := ?_) rfl (by kernel_rfl) (by kernel_rfl) (by kernel_rfl) (fun _ _ _ h => h) (by kernel_rfl) ?_ (by with_reducible assumption) ?_; rotate_left; (focus (intro w hSw; (try dsimp only at hSw); go_simp; (try with_reducible rfl))); (try simp only [Act.put, List.setIfInBounds_toArray, List.set_cons_zero, List.set_cons_succ]))
        (refine rg_take 26 (v := ?_) rfl (by kernel_rfl) (by kernel_rfl) (by kernel_rfl) (fun _ _ _ h => h) (by kernel_rfl) ?_ (by with_reducible assumption) ?_; rotate_left; (focus (intro w hSw; (try dsimp only at hSw); go_simp; (try with_reducible rfl))); (try simp only [Act.put, List.setIfInBounds_toArray, List.set_cons_zero, List.set_cons_succ]))
        (refine rg_take 27 (v := ?_) rfl (by kernel_rfl) (by kernel_rfl) (by kernel_rfl) (fun _ _ _ h => h) (by kernel_rfl) ?_ (by with_reducible assumption) ?_; rotate_left; (focus (intro w hSw; (try dsimp only at hSw); go_simp; (try with_reducible rfl))); (try simp only [Act.put, List.setIfInBounds_toArray, List.set_cons_zero, List.set_cons_succ]))
        (refine rg_step 25 rfl (by kernel_rfl) (by kernel_rfl) (fun K hK => ?_); go_simp; (go_at_call 17; refine (Near_r _ _ _ _ _ rfl rfl rfl rfl bAx bAy bCx bCy HN2.out).mono ?_; rintro e w1 ⟨rfl, hb⟩); refine hK.out _ _ (⟨hHeld.1.trans hb, hb.cell hHeld.2.1, hb.cell hHeld.2.2.1, hb.cell hHeld.2.2.2.1, hb.cell hHeld.2.2.2.2.1, hb.cell hHeld.2.2.2.2.2.1, hb.cell hHeld.2.2.2.2.2.2⟩) (fun hHeld => ?_); clear hK K; (try simp only [Act.put, List.setIfInBounds_toArray, List.set_cons_zero, List.set_cons_succ]))
        (refine rg_step 28 rfl (by kernel_rfl) (by kernel_rfl) (fun K hK => ?_); go_simp; (go_at_call 17; refine (Near_r _ _ _ _ _ rfl rfl rfl rfl bCx bCy bBx bBy HN3.out).mono ?_; rintro e w1 ⟨rfl, hb⟩); refine hK.out _ _ (⟨hHeld.1.trans hb, hb.cell hHeld.2.1, hb.cell hHeld.2.2.1, hb.cell hHeld.2.2.2.1, hb.cell hHeld.2.2.2.2.1, hb.cell hHeld.2.2.2.2.2.1, hb.cell hHeld.2.2.2.2.2.2⟩) (fun hHeld => ?_); clear hK K; (try simp only [Act.put, List.setIfInBounds_toArray, List.set_cons_zero, List.set_cons_succ]))
        (refine rg_take 29 (v := ?_) rfl (by kernel_rfl) (by kernel_rfl) (by kernel_rfl) (fun _ _ _ h => h) (by kernel_rfl) ?_ (by with_reducible assumption) ?_; rotate_left; (focus (intro w hSw; (try dsimp only at hSw); have k0 := K29.out; go_simp; (try with_reducible rfl))); (try simp only [Act.put, List.setIfInBounds_toArray, List.set_cons_zero, List.set_cons_succ]))
        (refine rg_take 30 (v := ?_) rfl (by kernel_rfl) (by kernel_rfl) (by kernel_rfl) (fun _ _ _ h => h) (by kernel_rfl) ?_ (by with_reducible assumption) ?_; rotate_left; (focus (intro w hSw; (try dsimp only at hSw); have k0 : ¬ ((n2 : Int) + (n3 : Int) < (n1 : Int)) := (by omega); go_simp; (try with_reducible rfl))); (try simp only [Act.put, List.setIfInBounds_toArray, List.set_cons_zero, List.set_cons_succ]))
        (refine rg_take 31 (v := ?_) rfl (by kernel_rfl) (by kernel_rfl) (by kernel_rfl) (fun _ _ _ h => h) (by kernel_rfl) ?_ (by with_reducible assumption) ?_; rotate_left; (focus (intro w hSw; (try dsimp only at hSw); go_simp; (try with_reducible rfl))); (try simp only [Act.put, List.setIfInBounds_toArray, List.set_cons_zero, List.set_cons_succ]))
        refine wpAnyH_done (by kernel_rfl) ?_ _
        have hb := hHeld.1
        clear hHeld
        go_wp2_with fail
        go_meet
        exact ⟨rfl, hE.trans hb, Ext.cell hb cOAx, Ext.cell hb cOAy, Ext.cell hb cOBx, Ext.cell hb cOBy, Ext.cell hb cOCx, Ext.cell hb cOCy⟩
      · have HE1 := Lib.hid hx; clear hx
        refine wp_region_held_drew (S := fun w' => Ext V w' ∧ w'.cell? ⟨OA, 0, none⟩ = some (.int .i64 (Ax : Int)) ∧ w'.cell? ⟨OA, 1, none⟩ = some (.int .i64 (Ay : Int)) ∧ w'.cell? ⟨OB, 0, none⟩ = some (.int .i64 (Bx : Int)) ∧ w'.cell? ⟨OB, 1, none⟩ = some (.int .i64 (By : Int)) ∧ w'.cell? ⟨OC, 0, none⟩ = some (.int .i64 (Cx : Int)) ∧ w'.cell? ⟨OC, 1, none⟩ = some (.int .i64 (Cy : Int))) (by kernel_rfl) ⟨Ext.drew (Ext.refl _), cOAx, cOAy, cOBx, cOBy, cOCx, cOCy⟩ (fun hHeld => ?_)
        (refine rg_take 0 (v := ?_) rfl (by kernel_rfl) (by kernel_rfl) (by kernel_rfl) (fun _ _ _ h => h) (by kernel_rfl) ?_ (by with_reducible assumption) ?_; rotate_left; (focus (intro w hSw; (try dsimp only at hSw); go_simp; (try with_reducible rfl))); (try simp only [Act.put, List.setIfInBounds_toArray, List.set_cons_zero, List.set_cons_succ]))
        (refine rg_take 1 (v := ?_) rfl (by kernel_rfl) (by kernel_rfl) (by kernel_rfl) (fun _ _ _ h => h) (by kernel_rfl) ?_ (by with_reducible assumption) ?_; rotate_left; (focus (intro w hSw; (try dsimp only at hSw); have k0 : ¬ ((n1 : Int) < 0) := (by omega); go_simp; (try with_reducible rfl))); (try simp only [Act.put, List.setIfInBounds_toArray, List.set_cons_zero, List.set_cons_succ]))
        (refine rg_take 2 (v := ?_) rfl (by kernel_rfl) (by kernel_rfl) (by kernel_rfl) (fun _ _ _ h => h) (by kernel_rfl) ?_ (by with_reducible assumption) ?_; rotate_left; (focus (intro w hSw; (try dsimp only at hSw); go_simp; (try with_reducible rfl))); (try simp only [Act.put, List.setIfInBounds_toArray, List.set_cons_zero, List.set_cons_succ]))
        (refine rg_take 3 (v := ?_) rfl (by kernel_rfl) (by kernel_rfl) (by kernel_rfl) (fun _ _ _ h => h) (by kernel_rfl) ?_ (by with_reducible assumption) ?_; rotate_left; (focus (intro w hSw; (try dsimp only at hSw); go_simp; (try with_reducible rfl))); (try simp only [Act.put, List.setIfInBounds_toArray, List.set_cons_zero, List.set_cons_succ]))
        (refine rg_take 4 (v := ?_) rfl (by kernel_rfl) (by kernel_rfl) (by kernel_rfl) (fun _ _ _ h => h) (by kernel_rfl) ?_ (by with_reducible assumption) ?_; rotate_left; (focus (intro w hSw; (try dsimp only at hSw); have k0 : ¬ (24 < (n1 : Int)) := (by omega); go_simp; (try with_reducible rfl))); (try simp only [Act.put, List.setIfInBounds_toArray, List.set_cons_zero, List.set_cons_succ]))
        (refine rg_take 5 (v := ?_) rfl (by kernel_rfl) (by kernel_rfl) (by kernel_rfl) (fun _ _ _ h => h) (by kernel_rfl) ?_ (by with_reducible assumption) ?_; rotate_left; (focus (intro w hSw; (try dsimp only at hSw); go_simp; (try with_reducible rfl))); (try simp only [Act.put, List.setIfInBounds_toArray, List.set_cons_zero, List.set_cons_succ]))
        (refine rg_take 6 (v := ?_) rfl (by kernel_rfl) (by kernel_rfl) (by kernel_rfl) (fun _ _ _ h => h) (by kernel_rfl) ?_ (by with_reducible assumption) ?_; rotate_left; (focus (intro w hSw; (try dsimp only at hSw); go_simp; (try with_reducible rfl))); (try simp only [Act.put, List.setIfInBounds_toArray, List.set_cons_zero, List.set_cons_succ]))
        (refine rg_take 7 (v := ?_) rfl (by kernel_rfl) (by kernel_rfl) (by kernel_rfl) (fun _ _ _ h => h) (by kernel_rfl) ?_ (by with_reducible assumption) ?_; rotate_left; (focus (intro w hSw; (try dsimp only at hSw); go_simp; (try with_reducible rfl))); (try simp only [Act.put, List.setIfInBounds_toArray, List.set_cons_zero, List.set_cons_succ]))
        (refine rg_take 8 (v := ?_) rfl (by kernel_rfl) (by kernel_rfl) (by kernel_rfl) (fun _ _ _ h => h) (by kernel_rfl) ?_ (by with_reducible assumption) ?_; rotate_left; (focus (intro w hSw; (try dsimp only at hSw); have k0 := H0.out; have k1 : ((n1 : Int) == 0) = false := (by simpa using H0.out); go_simp; (try with_reducible rfl))); (try simp only [Act.put, List.setIfInBounds_toArray, List.set_cons_zero, List.set_cons_succ]))
        (refine rg_take 9 (v := ?_) rfl (by kernel_rfl) (by kernel_rfl) (by kernel_rfl) (fun _ _ _ h => h) (by kernel_rfl) ?_ (by with_reducible assumption) ?_; rotate_left; (focus (intro w hSw; (try dsimp only at hSw); go_simp; (try with_reducible rfl))); (try simp only [Act.put, List.setIfInBounds_toArray, List.set_cons_zero, List.set_cons_succ]))
        (refine rg_take 10 (v := ?_) rfl (by kernel_rfl) (by kernel_rfl) (by kernel_rfl) (fun _ _ _ h => h) (by kernel_rfl) ?_ (by with_reducible assumption) ?_; rotate_left; (focus (intro w hSw; (try dsimp only at hSw); go_simp; (try with_reducible rfl))); (try simp only [Act.put, List.setIfInBounds_toArray, List.set_cons_zero, List.set_cons_succ]))
        (refine rg_take 11 (v := ?_) rfl (by kernel_rfl) (by kernel_rfl) (by kernel_rfl) (fun _ _ _ h => h) (by kernel_rfl) ?_ (by with_reducible assumption) ?_; rotate_left; (focus (intro w hSw; (try dsimp only at hSw); have k0 : ¬ (Ax : Int) = (Bx : Int) := (by have := HE1.out; omega); go_simp; (try with_reducible rfl))); (try simp only [Act.put, List.setIfInBounds_toArray, List.set_cons_zero, List.set_cons_succ]))
        (refine rg_take 12 (v := ?_) rfl (by kernel_rfl) (by kernel_rfl) (by kernel_rfl) (fun _ _ _ h => h) (by kernel_rfl) ?_ (by with_reducible assumption) ?_; rotate_left; (focus (intro w hSw; (try dsimp only at hSw); go_simp; (try with_reducible rfl))); (try simp only [Act.put, List.setIfInBounds_toArray, List.set_cons_zero, List.set_cons_succ]))
        (refine rg_take 13 (v := ?_) rfl (by kernel_rfl) (by kernel_rfl) (by kernel_rfl) (fun _ _ _ h => h) (by kernel_rfl) ?_ (by with_reducible assumption) ?_; rotate_left; (focus (intro w hSw; (try dsimp only at hSw); go_simp; (try with_reducible rfl))); (try simp only [Act.put, List.setIfInBounds_toArray, List.set_cons_zero, List.set_cons_succ]))
        (refine rg_take 14 (v := ?_) rfl (by kernel_rfl) (by kernel_rfl) (by kernel_rfl) (fun _ _ _ h => h) (by kernel_rfl) ?_ (by with_reducible assumption) ?_; rotate_left; (focus (intro w hSw; (try dsimp only at hSw); go_simp; (try with_reducible rfl))); (try simp only [Act.put, List.setIfInBounds_toArray, List.set_cons_zero, List.set_cons_succ]))
        (refine rg_take 15 (v := ?_) rfl (by kernel_rfl) (by kernel_rfl) (by kernel_rfl) (fun _ _ _ h => h) (by kernel_rfl) ?_ (by with_reducible assumption) ?_; rotate_left; (focus (intro w hSw; (try dsimp only at hSw); go_simp; (try with_reducible rfl))); (try simp only [Act.put, List.setIfInBounds_toArray, List.set_cons_zero, List.set_cons_succ]))
        (refine rg_take 16 (v := ?_) rfl (by kernel_rfl) (by kernel_rfl) (by kernel_rfl) (fun _ _ _ h => h) (by kernel_rfl) ?_ (by with_reducible assumption) ?_; rotate_left; (focus (intro w hSw; (try dsimp only at hSw); go_simp; (try with_reducible rfl))); (try simp only [Act.put, List.setIfInBounds_toArray, List.set_cons_zero, List.set_cons_succ]))
        (refine rg_take 17 (v := ?_) rfl (by kernel_rfl) (by kernel_rfl) (by kernel_rfl) (fun _ _ _ h => h) (by kernel_rfl) ?_ (by with_reducible assumption) ?_; rotate_left; (focus (intro w hSw; (try dsimp only at hSw); go_simp; (try with_reducible rfl))); (try simp only [Act.put, List.setIfInBounds_toArray, List.set_cons_zero, List.set_cons_succ]))
        (refine rg_step 18 rfl (by kernel_rfl) (by kernel_rfl) (fun K hK => ?_); go_simp; (go_at_call 17; refine (Near_r _ _ _ _ _ rfl rfl rfl rfl bBx bBy bAx bAy HSy.out).mono ?_; rintro e w1 ⟨rfl, hb⟩); refine hK.out _ _ (⟨hHeld.1.trans hb, hb.cell hHeld.2.1, hb.cell hHeld.2.2.1, hb.cell hHeld.2.2.2.1, hb.cell hHeld.2.2.2.2.1, hb.cell hHeld.2.2.2.2.2.1, hb.cell hHeld.2.2.2.2.2.2⟩) (fun hHeld => ?_); clear hK K; (try simp only [Act.put, List.setIfInBounds_toArray, List.set_cons_zero, List.set_cons_succ]))
        (refine rg_take 19 (v := ?_) rfl (by kernel_rfl) (by kernel_rfl) (by kernel_rfl) (fun _ _ _ h => h) (by kernel_rfl) ?_ (by with_reducible assumption) ?_; rotate_left; (focus (intro w hSw; (try dsimp only at hSw); go_simp; (try with_reducible rfl))); (try simp only [Act.put, List.setIfInBounds_toArray, List.set_cons_zero, List.set_cons_succ]))
        (refine rg_take 20 (v := ?_) rfl (by kernel_rfl) (by kernel_rfl) (by kernel_rfl) (fun _ _ _ h => h) (by kernel_rfl) ?_ (by with_reducible assumption) ?_; rotate_left; (focus (intro w hSw; (try dsimp only at hSw); go_simp; (try with_reducible rfl))); (try simp only [Act.put, List.setIfInBounds_toArray, List.set_cons_zero, List.set_cons_succ]))
        (refine rg_take 21 (v := ?_) rfl (by kernel_rfl) (by kernel_rfl) (by kernel_rfl) (fun _ _ _ h => h) (by kernel_rfl) ?_ (by with_reducible assumption) ?_; rotate_left; (focus (intro w hSw; (try dsimp only at hSw); go_simp; (try with_reducible rfl))); (try simp only [Act.put, List.setIfInBounds_toArray, List.set_cons_zero, List.set_cons_succ]))
        (refine rg_take 22 (v := ?_) rfl (by kernel_rfl) (by kernel_rfl) (by kernel_rfl) (fun _ _ _ h => h) (by kernel_rfl) ?_ (by with_reducible assumption) ?_; rotate_left; (focus (intro w hSw; (try dsimp only at hSw); go_simp; (try with_reducible rfl))); (try simp only [Act.put, List.setIfInBounds_toArray, List.set_cons_zero, List.set_cons_succ]))
        (refine rg_take 23 (v := ?_) rfl (by kernel_rfl) (by kernel_rfl) (by kernel_rfl) (fun _ _ _ h => h) (by kernel_rfl) ?_ (by with_reducible assumption) ?_; rotate_left; (focus (intro w hSw; (try dsimp only at hSw); go_simp; (try with_reducible rfl))); (try simp only [Act.put, List.setIfInBounds_toArray, List.set_cons_zero, List.set_cons_succ]))
        (refine rg_take 24 (v := ?_) rfl (by kernel_rfl) (by kernel_rfl) (by kernel_rfl) (fun _ _ _ h => h) (by kernel_rfl) ?_ (by with_reducible assumption) ?_; rotate_left; (focus (intro w hSw; (try dsimp only at hSw); go_simp; (try with_reducible rfl))); (try simp only [Act.put, List.setIfInBounds_toArray, List.set_cons_zero, List.set_cons_succ]))
        (refine rg_take 26 (v := ?_) rfl (by kernel_rfl) (by kernel_rfl) (by kernel_rfl) (fun _ _ _ h => h) (by kernel_rfl) ?_ (by with_reducible assumption) ?_; rotate_left; (focus (intro w hSw; (try dsimp only at hSw); go_simp; (try with_reducible rfl))); (try simp only [Act.put, List.setIfInBounds_toArray, List.set_cons_zero, List.set_cons_succ]))
        (refine rg_take 27 (v := ?_) rfl (by kernel_rfl) (by kernel_rfl) (by kernel_rfl) (fun _ _ _ h => h) (by kernel_rfl) ?_ (by with_reducible assumption) ?_; rotate_left; (focus (intro w hSw; (try dsimp only at hSw); go_simp; (try with_reducible rfl))); (try simp only [Act.put, List.setIfInBounds_toArray, List.set_cons_zero, List.set_cons_succ]))
        (refine rg_step 25 rfl (by kernel_rfl) (by kernel_rfl) (fun K hK => ?_); go_simp; (go_at_call 17; refine (Near_r _ _ _ _ _ rfl rfl rfl rfl bAx bAy bCx bCy HN2.out).mono ?_; rintro e w1 ⟨rfl, hb⟩); refine hK.out _ _ (⟨hHeld.1.trans hb, hb.cell hHeld.2.1, hb.cell hHeld.2.2.1, hb.cell hHeld.2.2.2.1, hb.cell hHeld.2.2.2.2.1, hb.cell hHeld.2.2.2.2.2.1, hb.cell hHeld.2.2.2.2.2.2⟩) (fun hHeld => ?_); clear hK K; (try simp only [Act.put, List.setIfInBounds_toArray, List.set_cons_zero, List.set_cons_succ]))
        (refine rg_step 28 rfl (by kernel_rfl) (by kernel_rfl) (fun K hK => ?_); go_simp; (go_at_call 17; refine (Near_r _ _ _ _ _ rfl rfl rfl rfl bCx bCy bBx bBy HN3.out).mono ?_; rintro e w1 ⟨rfl, hb⟩); refine hK.out _ _ (⟨hHeld.1.trans hb, hb.cell hHeld.2.1, hb.cell hHeld.2.2.1, hb.cell hHeld.2.2.2.1, hb.cell hHeld.2.2.2.2.1, hb.cell hHeld.2.2.2.2.2.1, hb.cell hHeld.2.2.2.2.2.2⟩) (fun hHeld => ?_); clear hK K; (try simp only [Act.put, List.setIfInBounds_toArray, List.set_cons_zero, List.set_cons_succ]))
        (refine rg_take 29 (v := ?_) rfl (by kernel_rfl) (by kernel_rfl) (by kernel_rfl) (fun _ _ _ h => h) (by kernel_rfl) ?_ (by with_reducible assumption) ?_; rotate_left; (focus (intro w hSw; (try dsimp only at hSw); have k0 := K29.out; go_simp; (try with_reducible rfl))); (try simp only [Act.put, List.setIfInBounds_toArray, List.set_cons_zero, List.set_cons_succ]))
        (refine rg_take 30 (v := ?_) rfl (by kernel_rfl) (by kernel_rfl) (by kernel_rfl) (fun _ _ _ h => h) (by kernel_rfl) ?_ (by with_reducible assumption) ?_; rotate_left; (focus (intro w hSw; (try dsimp only at hSw); have k0 : ¬ ((n2 : Int) + (n3 : Int) < (n1 : Int)) := (by omega); go_simp; (try with_reducible rfl))); (try simp only [Act.put, List.setIfInBounds_toArray, List.set_cons_zero, List.set_cons_succ]))
        (refine rg_take 31 (v := ?_) rfl (by kernel_rfl) (by kernel_rfl) (by kernel_rfl) (fun _ _ _ h => h) (by kernel_rfl) ?_ (by with_reducible assumption) ?_; rotate_left; (focus (intro w hSw; (try dsimp only at hSw); go_simp; (try with_reducible rfl))); (try simp only [Act.put, List.setIfInBounds_toArray, List.set_cons_zero, List.set_cons_succ]))
        refine wpAnyH_done (by kernel_rfl) ?_ _
        have hb := hHeld.1
        clear hHeld
        go_wp2_with fail
        go_meet
        exact ⟨rfl, hE.trans hb, Ext.cell hb cOAx, Ext.cell hb cOAy, Ext.cell hb cOBx, Ext.cell hb cOBy, Ext.cell hb cOCx, Ext.cell hb cOCy⟩
  case rest =>
  clear hE cOAx cOAy cOBx cOBy cOCx cOCy lcOAx lcOAy lcOBx lcOBy lcOCx lcOCy
  obtain ⟨rfl, hE, cOAx, cOAy, cOBx, cOBy, cOCx, cOCy⟩ := hcut
  obtain ⟨V, rfl⟩ : ∃ V, V = wc := ⟨_, rfl⟩
  have lcOAx : OA < V.heap.size := World.block_lt_of_cell? V _ cOAx
  have lcOAy : OA < V.heap.size := World.block_lt_of_cell? V _ cOAy
  have lcOBx : OB < V.heap.size := World.block_lt_of_cell? V _ cOBx
  have lcOBy : OB < V.heap.size := World.block_lt_of_cell? V _ cOBy
  have lcOCx : OC < V.heap.size := World.block_lt_of_cell? V _ cOCx
  have lcOCy : OC < V.heap.size := World.block_lt_of_cell? V _ cOCy
  go_wp2_with fail
  refine (Near_r (X := (Ax + K) % 48) (Y := Ay) (X' := (Bx + K) % 48) (Y' := By) _ _ _ _ _ (by first | omega | (rw [Int.tmod_eq_emod_of_nonneg (by omega)]; omega)) rfl (by first | omega | (rw [Int.tmod_eq_emod_of_nonneg (by omega)]; omega)) rfl (by omega) bAy (by omega) bBy HSh.out).mono ?_
  rintro e w1 ⟨rfl, hb⟩
  have hc := hb.cellE; have hf := hb.frozenE; have hz := hb.size; have ha := alloc_keeps w1; (try simp only [World.size_alloc] at hc hf hz); (try simp only [World.size_setCell] at hc hf hz); (try simp only [World.size_drew] at hc hf hz)
  clear HK
  go_wp2_with fail
  refine calls_name (fun V => Ext w V ∧ V.cell? ⟨OA, 0, none⟩ = some (.int .i64 (Ax : Int)) ∧ V.cell? ⟨OA, 1, none⟩ = some (.int .i64 (Ay : Int))) ⟨hE.trans (by first | exact hb | exact Ext.alloc hb _ | exact Ext.alloc (Ext.alloc hb _) _), Ext.cell (by first | exact hb | exact Ext.alloc hb _ | exact Ext.alloc (Ext.alloc hb _) _) cOAx, Ext.cell (by first | exact hb | exact Ext.alloc hb _ | exact Ext.alloc (Ext.alloc hb _) _) cOAy⟩ ?_
  clear hE cOAx cOAy cOBx cOBy cOCx cOCy lcOAx lcOAy lcOBx lcOBy lcOCx lcOCy hb hc hf hz ha
  rintro V ⟨hE, cOAx, cOAy⟩
  have lcOAx : OA < V.heap.size := World.block_lt_of_cell? V _ cOAx
  have lcOAy : OA < V.heap.size := World.block_lt_of_cell? V _ cOAy
  clear HZ HSy HSh HN1 HN2 HN3 K29 HB HC tri bd bd2 bd3
  refine (Made_c c0 _ (Q0) hE hn0).mono ?_
  rintro e w1 ⟨B0, L0, rfl, hB, hvl, hr, hv, hb⟩
  have hc := hb.cellE; have hf := hb.frozenE; have hz := hb.size; have ha := alloc_keeps w1; (try simp only [World.size_alloc] at hc hf hz); (try simp only [World.size_setCell] at hc hf hz); (try simp only [World.size_drew] at hc hf hz)
  clear hr hB hvl
  go_wp2_with fail
  obtain ⟨O0, hO⟩ : ∃ O, O = w1.heap.size := ⟨_, rfl⟩
  rw [← hO]
  refine calls_name (fun V => Ext w V ∧ V.cell? ⟨OA, 0, none⟩ = some (.int .i64 (Ax : Int)) ∧ V.cell? ⟨OA, 1, none⟩ = some (.int .i64 (Ay : Int)) ∧ VA V B0 0 L0 ∧ V.cell? ⟨O0, 0, none⟩ = some (.slice (some ⟨B0, 0, none⟩) 24 24)) ⟨hE.trans (by first | exact hb | exact Ext.alloc hb _ | exact Ext.alloc (Ext.alloc hb _) _), Ext.cell (by first | exact hb | exact Ext.alloc hb _ | exact Ext.alloc (Ext.alloc hb _) _) cOAx, Ext.cell (by first | exact hb | exact Ext.alloc hb _ | exact Ext.alloc (Ext.alloc hb _) _) cOAy, hv.ext (by first | exact Ext.refl _ | exact Ext.alloc (Ext.refl _) _ | exact Ext.alloc (Ext.alloc (Ext.refl _) _) _), by rw [hO]; simp [go_sem]⟩ ?_
  clear hE cOAx cOAy lcOAx lcOAy hb hc hf hz ha hO hv
  rintro V ⟨hE, cOAx, cOAy, vA0, cO0⟩
  have lcOAx : OA < V.heap.size := World.block_lt_of_cell? V _ cOAx
  have lcOAy : OA < V.heap.size := World.block_lt_of_cell? V _ cOAy
  have lvA0 := vA0.lt
  have lcO0 : O0 < V.heap.size := World.block_lt_of_cell? V _ cO0
  refine (pick_c nn 25 _ H5.out (by omega) (by omega)).mono ?_
  rintro e w' ⟨rfl, rfl⟩
  rw [HD.out]
  go_wp2_with fail
  refine (Grown_v 24 (D : Int) _ vA0 (Ext.refl _) (inB_t.2 (by omega))).mono ?_
  rintro e w1 ⟨Bw, kw, rfl, hB, hr, hv, hb⟩
  have hc := hb.cellE; have hf := hb.frozenE; have hz := hb.size; have ha := alloc_keeps w1; (try simp only [World.size_alloc] at hc hf hz); (try simp only [World.size_setCell] at hc hf hz); (try simp only [World.size_drew] at hc hf hz)
  rw [Int.toNat_natCast] at hv
  clear hr hB
  go_wp2_with fail
  obtain ⟨Ow, hO⟩ : ∃ O, O = w1.heap.size := ⟨_, rfl⟩
  rw [← hO]
  refine calls_name (fun V => Ext w V ∧ V.cell? ⟨OA, 0, none⟩ = some (.int .i64 (Ax : Int)) ∧ V.cell? ⟨OA, 1, none⟩ = some (.int .i64 (Ay : Int)) ∧ VA V B0 0 L0 ∧ V.cell? ⟨O0, 0, none⟩ = some (.slice (some ⟨B0, 0, none⟩) 24 24) ∧ VA V Bw 0 (growL L0 D) ∧ V.cell? ⟨Ow, 0, none⟩ = some (.slice (some ⟨Bw, 0, none⟩) 24 kw)) ⟨hE.trans (by first | exact hb | exact Ext.alloc hb _ | exact Ext.alloc (Ext.alloc hb _) _), Ext.cell (by first | exact hb | exact Ext.alloc hb _ | exact Ext.alloc (Ext.alloc hb _) _) cOAx, Ext.cell (by first | exact hb | exact Ext.alloc hb _ | exact Ext.alloc (Ext.alloc hb _) _) cOAy, vA0.ext (by first | exact hb | exact Ext.alloc hb _ | exact Ext.alloc (Ext.alloc hb _) _), Ext.cell (by first | exact hb | exact Ext.alloc hb _ | exact Ext.alloc (Ext.alloc hb _) _) cO0, hv.ext (by first | exact Ext.refl _ | exact Ext.alloc (Ext.refl _) _ | exact Ext.alloc (Ext.alloc (Ext.refl _) _) _), by rw [hO]; simp [go_sem]⟩ ?_
  clear hE cOAx cOAy vA0 cO0 lcOAx lcOAy lvA0 lcO0 hb hc hf hz ha hO hv
  rintro V ⟨hE, cOAx, cOAy, vA0, cO0, vBw, cOw⟩
  have lcOAx : OA < V.heap.size := World.block_lt_of_cell? V _ cOAx
  have lcOAy : OA < V.heap.size := World.block_lt_of_cell? V _ cOAy
  have lvA0 := vA0.lt
  have lcO0 : O0 < V.heap.size := World.block_lt_of_cell? V _ cO0
  have lvBw := vBw.lt
  have lcOw : Ow < V.heap.size := World.block_lt_of_cell? V _ cOw
  refine (Cells_v 24 _ vA0 (Ext.refl _) (HT.out.ext hE)).mono ?_
  rintro e w1 ⟨a, kc, rfl, hcs, hb⟩
  have hc := hb.cellE; have hf := hb.frozenE; have hz := hb.size; have ha := alloc_keeps w1; (try simp only [World.size_alloc] at hc hf hz); (try simp only [World.size_setCell] at hc hf hz); (try simp only [World.size_drew] at hc hf hz)
  obtain ⟨n, hn⟩ : ∃ n, (cellsTo L0 24).length = n := ⟨_, rfl⟩
  have bn : n ≤ 1152 := by rw [← hn]; exact cellsTo_len L0 24
  rw [hn] at hcs ⊢
  have HN := Lib.hid hn; clear hn
  replace hE := hE.trans hb
  replace cOAx := hb.cell cOAx; replace cOAy := hb.cell cOAy; replace vBw := vBw.ext hb; replace cOw := hb.cell cOw
  have hl0 := vA0.2
  have HC := Lib.hid hcs
  clear hcs lcOAx lcOAy lvA0 lvBw lcOw vA0 cO0 lcO0 hc hf hz ha hb
  go_wp2_with fail
  obtain ⟨V6, hV6⟩ : ∃ V6, V6 = w1 := ⟨_, rfl⟩
  subst hV6
  go_loopw [23, 25] (fun r p wr => ∃ i : Nat, i ≤ n ∧ p = .int .i64 i ∧ r = .bool (nearTo (cellsTo L0 24) Ax Ay D i) ∧ Ext V6 wr) (fun _ p _ => n - (intOf p).toNat)
  case atStart => exact ⟨0, by omega, rfl, by rw [nearTo_zero], Ext.refl _⟩
  case round =>
    obtain ⟨i, hi, rfl, rfl, e6⟩ := hrel
    obtain ⟨V, rfl⟩ : ∃ V, V = wr := ⟨_, rfl⟩
    replace cOAx := e6.cell cOAx; replace cOAy := e6.cell cOAy; replace vBw := vBw.ext e6; replace cOw := e6.cell cOw
    by_cases hlt : i < n
    · obtain ⟨b, rfl, hcc⟩ := HC.out.2.resolve_left (by omega)
      obtain ⟨x, y, hp⟩ : ∃ x y, (cellsTo L0 24)[i]? = some (x, y) := ⟨_, _, List.getElem?_eq_getElem (by rw [HN.out]; exact hlt)⟩
      obtain ⟨hx, hy⟩ := cells_in (List.mem_of_getElem? hp)
      obtain ⟨q0, q1⟩ := hcc i _ hp
      replace q0 := e6.cell q0
      replace q1 := e6.cell q1
      dsimp only at q0 q1 hx hy
      have hsn := nearTo_succ (x := Ax) (y := Ay) (d := D) hp
      dsimp only at hsn
      clear hp hcc
      have i0 : (0 : Int) ≤ (i : Int) := by omega
      have i1 : (i : Int) < (n : Int) := by omega
      obtain ⟨m, hm⟩ : ∃ m, nearN Ax Ay x y = m := ⟨_, rfl⟩
      rw [hm] at hsn
      have HM := Lib.hid hm; clear hm
      cases hnt : nearTo (cellsTo L0 24) Ax Ay D i
      · rw [hnt, Bool.false_or] at hsn
        clear hnt
        by_cases hmd : m ≤ D
        · rw [decide_eq_true hmd] at hsn
          have HS := Lib.hid hsn; clear hsn
          have k1 : (m : Int) ≤ (D : Int) := by omega
          go_wp2_with fail
          refine wp_region_held_drew (S := fun w' => Ext V w' ∧ w'.cell? ⟨OA, 0, none⟩ = some (.int .i64 (Ax : Int)) ∧ w'.cell? ⟨OA, 1, none⟩ = some (.int .i64 (Ay : Int)) ∧ w'.cell? ⟨b, i * 2, none⟩ = some (.int .i64 (x : Int)) ∧ w'.cell? ⟨b, i * 2 + 1, none⟩ = some (.int .i64 (y : Int))) (by kernel_rfl) ⟨Ext.drew (Ext.refl _), cOAx, cOAy, q0, q1⟩ (fun hHeld => ?_)
          (refine rg_take 0 (v := ?_) rfl (by kernel_rfl) (by kernel_rfl) (by kernel_rfl) (fun _ _ _ h => h) (by kernel_rfl) ?_ (by with_reducible assumption) ?_; rotate_left; (focus (intro w hSw; (try dsimp only at hSw); go_simp; (try with_reducible rfl))); (try simp only [Act.put, List.setIfInBounds_toArray, List.set_cons_zero, List.set_cons_succ]))
          (refine rg_take 1 (v := ?_) rfl (by kernel_rfl) (by kernel_rfl) (by kernel_rfl) (fun _ _ _ h => h) (by kernel_rfl) ?_ (by with_reducible assumption) ?_; rotate_left; (focus (intro w hSw; (try dsimp only at hSw); go_simp; (try with_reducible rfl))); (try simp only [Act.put, List.setIfInBounds_toArray, List.set_cons_zero, List.set_cons_succ]))
          (refine rg_take 2 (v := ?_) rfl (by kernel_rfl) (by kernel_rfl) (by kernel_rfl) (fun _ _ _ h => h) (by kernel_rfl) ?_ (by with_reducible assumption) ?_; rotate_left; (focus (intro w hSw; (try dsimp only at hSw); go_simp; (try with_reducible rfl))); (try simp only [Act.put, List.setIfInBounds_toArray, List.set_cons_zero, List.set_cons_succ]))
          (refine rg_take 3 (v := ?_) rfl (by kernel_rfl) (by kernel_rfl) (by kernel_rfl) (fun _ _ _ h => h) (by kernel_rfl) ?_ (by with_reducible assumption) ?_; rotate_left; (focus (intro w hSw; (try dsimp only at hSw); go_simp; (try with_reducible rfl))); (try simp only [Act.put, List.setIfInBounds_toArray, List.set_cons_zero, List.set_cons_succ]))
          (refine rg_take 4 (v := ?_) rfl (by kernel_rfl) (by kernel_rfl) (by kernel_rfl) (fun _ _ _ h => h) (by kernel_rfl) ?_ (by with_reducible assumption) ?_; rotate_left; (focus (intro w hSw; (try dsimp only at hSw); go_simp; (try with_reducible rfl))); (try simp only [Act.put, List.setIfInBounds_toArray, List.set_cons_zero, List.set_cons_succ]))
          (refine rg_take 5 (v := ?_) rfl (by kernel_rfl) (by kernel_rfl) (by kernel_rfl) (fun _ _ _ h => h) (by kernel_rfl) ?_ (by with_reducible assumption) ?_; rotate_left; (focus (intro w hSw; (try dsimp only at hSw); go_simp; (try with_reducible rfl))); (try simp only [Act.put, List.setIfInBounds_toArray, List.set_cons_zero, List.set_cons_succ]))
          (refine rg_take 6 (v := ?_) rfl (by kernel_rfl) (by kernel_rfl) (by kernel_rfl) (fun _ _ _ h => h) (by kernel_rfl) ?_ (by with_reducible assumption) ?_; rotate_left; (focus (intro w hSw; (try dsimp only at hSw); go_simp; (try with_reducible rfl))); (try simp only [Act.put, List.setIfInBounds_toArray, List.set_cons_zero, List.set_cons_succ]))
          (refine rg_take 8 (v := ?_) rfl (by kernel_rfl) (by kernel_rfl) (by kernel_rfl) (fun _ _ _ h => h) (by kernel_rfl) ?_ (by with_reducible assumption) ?_; rotate_left; (focus (intro w hSw; (try dsimp only at hSw); go_simp; (try with_reducible rfl))); (try simp only [Act.put, List.setIfInBounds_toArray, List.set_cons_zero, List.set_cons_succ]))
          (refine rg_step 7 rfl (by kernel_rfl) (by kernel_rfl) (fun K hK => ?_); go_simp; (go_at_call 17; refine (Near_r _ _ _ _ _ rfl rfl rfl rfl bAx bAy hx hy HM.out).mono ?_; rintro e w1 ⟨rfl, hb⟩); refine hK.out _ _ (⟨hHeld.1.trans hb, hb.cell hHeld.2.1, hb.cell hHeld.2.2.1, hb.cell hHeld.2.2.2.1, hb.cell hHeld.2.2.2.2⟩) (fun hHeld => ?_); clear hK K; (try simp only [Act.put, List.setIfInBounds_toArray, List.set_cons_zero, List.set_cons_succ]))
          (refine rg_take 9 (v := ?_) rfl (by kernel_rfl) (by kernel_rfl) (by kernel_rfl) (fun _ _ _ h => h) (by kernel_rfl) ?_ (by with_reducible assumption) ?_; rotate_left; (focus (intro w hSw; (try dsimp only at hSw); go_simp; (try with_reducible rfl))); (try simp only [Act.put, List.setIfInBounds_toArray, List.set_cons_zero, List.set_cons_succ]))
          (refine rg_take 10 (v := ?_) rfl (by kernel_rfl) (by kernel_rfl) (by kernel_rfl) (fun _ _ _ h => h) (by kernel_rfl) ?_ (by with_reducible assumption) ?_; rotate_left; (focus (intro w hSw; (try dsimp only at hSw); go_simp; (try with_reducible rfl))); (try simp only [Act.put, List.setIfInBounds_toArray, List.set_cons_zero, List.set_cons_succ]))
          (refine rg_take 11 (v := ?_) rfl (by kernel_rfl) (by kernel_rfl) (by kernel_rfl) (fun _ _ _ h => h) (by kernel_rfl) ?_ (by with_reducible assumption) ?_; rotate_left; (focus (intro w hSw; (try dsimp only at hSw); go_simp; (try with_reducible rfl))); (try simp only [Act.put, List.setIfInBounds_toArray, List.set_cons_zero, List.set_cons_succ]))
          refine wpAnyH_done (by kernel_rfl) ?_ _
          have hb := hHeld.1
          clear hHeld
          go_wp2_with fail
          go_roundw
          case rel => exact ⟨i + 1, by omega, by go_num, by rw [HS.out], e6.trans hb⟩
          case measure => simp [intOf]; omega
        · rw [decide_eq_false hmd] at hsn
          have HS := Lib.hid hsn; clear hsn
          have k1 : ¬ (m : Int) ≤ (D : Int) := by omega
          go_wp2_with fail
          refine wp_region_held_drew (S := fun w' => Ext V w' ∧ w'.cell? ⟨OA, 0, none⟩ = some (.int .i64 (Ax : Int)) ∧ w'.cell? ⟨OA, 1, none⟩ = some (.int .i64 (Ay : Int)) ∧ w'.cell? ⟨b, i * 2, none⟩ = some (.int .i64 (x : Int)) ∧ w'.cell? ⟨b, i * 2 + 1, none⟩ = some (.int .i64 (y : Int))) (by kernel_rfl) ⟨Ext.drew (Ext.refl _), cOAx, cOAy, q0, q1⟩ (fun hHeld => ?_)
          (refine rg_take 0 (v := ?_) rfl (by kernel_rfl) (by kernel_rfl) (by kernel_rfl) (fun _ _ _ h => h) (by kernel_rfl) ?_ (by with_reducible assumption) ?_; rotate_left; (focus (intro w hSw; (try dsimp only at hSw); go_simp; (try with_reducible rfl))); (try simp only [Act.put, List.setIfInBounds_toArray, List.set_cons_zero, List.set_cons_succ]))
          (refine rg_take 1 (v := ?_) rfl (by kernel_rfl) (by kernel_rfl) (by kernel_rfl) (fun _ _ _ h => h) (by kernel_rfl) ?_ (by with_reducible assumption) ?_; rotate_left; (focus (intro w hSw; (try dsimp only at hSw); go_simp; (try with_reducible rfl))); (try simp only [Act.put, List.setIfInBounds_toArray, List.set_cons_zero, List.set_cons_succ]))
          (refine rg_take 2 (v := ?_) rfl (by kernel_rfl) (by kernel_rfl) (by kernel_rfl) (fun _ _ _ h => h) (by kernel_rfl) ?_ (by with_reducible assumption) ?_; rotate_left; (focus (intro w hSw; (try dsimp only at hSw); go_simp; (try with_reducible rfl))); (try simp only [Act.put, List.setIfInBounds_toArray, List.set_cons_zero, List.set_cons_succ]))
          (refine rg_take 3 (v := ?_) rfl (by kernel_rfl) (by kernel_rfl) (by kernel_rfl) (fun _ _ _ h => h) (by kernel_rfl) ?_ (by with_reducible assumption) ?_; rotate_left; (focus (intro w hSw; (try dsimp only at hSw); go_simp; (try with_reducible rfl))); (try simp only [Act.put, List.setIfInBounds_toArray, List.set_cons_zero, List.set_cons_succ]))
          (refine rg_take 4 (v := ?_) rfl (by kernel_rfl) (by kernel_rfl) (by kernel_rfl) (fun _ _ _ h => h) (by kernel_rfl) ?_ (by with_reducible assumption) ?_; rotate_left; (focus (intro w hSw; (try dsimp only at hSw); go_simp; (try with_reducible rfl))); (try simp only [Act.put, List.setIfInBounds_toArray, List.set_cons_zero, List.set_cons_succ]))
          (refine rg_take 5 (v := ?_) rfl (by kernel_rfl) (by kernel_rfl) (by kernel_rfl) (fun _ _ _ h => h) (by kernel_rfl) ?_ (by with_reducible assumption) ?_; rotate_left; (focus (intro w hSw; (try dsimp only at hSw); go_simp; (try with_reducible rfl))); (try simp only [Act.put, List.setIfInBounds_toArray, List.set_cons_zero, List.set_cons_succ]))
          (refine rg_take 6 (v := ?_) rfl (by kernel_rfl) (by kernel_rfl) (by kernel_rfl) (fun _ _ _ h => h) (by kernel_rfl) ?_ (by with_reducible assumption) ?_; rotate_left; (focus (intro w hSw; (try dsimp only at hSw); go_simp; (try with_reducible rfl))); (try simp only [Act.put, List.setIfInBounds_toArray, List.set_cons_zero, List.set_cons_succ]))
          (refine rg_take 8 (v := ?_) rfl (by kernel_rfl) (by kernel_rfl) (by kernel_rfl) (fun _ _ _ h => h) (by kernel_rfl) ?_ (by with_reducible assumption) ?_; rotate_left; (focus (intro w hSw; (try dsimp only at hSw); go_simp; (try with_reducible rfl))); (try simp only [Act.put, List.setIfInBounds_toArray, List.set_cons_zero, List.set_cons_succ]))
          (refine rg_step 7 rfl (by kernel_rfl) (by kernel_rfl) (fun K hK => ?_); go_simp; (go_at_call 17; refine (Near_r _ _ _ _ _ rfl rfl rfl rfl bAx bAy hx hy HM.out).mono ?_; rintro e w1 ⟨rfl, hb⟩); refine hK.out _ _ (⟨hHeld.1.trans hb, hb.cell hHeld.2.1, hb.cell hHeld.2.2.1, hb.cell hHeld.2.2.2.1, hb.cell hHeld.2.2.2.2⟩) (fun hHeld => ?_); clear hK K; (try simp only [Act.put, List.setIfInBounds_toArray, List.set_cons_zero, List.set_cons_succ]))
          (refine rg_take 9 (v := ?_) rfl (by kernel_rfl) (by kernel_rfl) (by kernel_rfl) (fun _ _ _ h => h) (by kernel_rfl) ?_ (by with_reducible assumption) ?_; rotate_left; (focus (intro w hSw; (try dsimp only at hSw); go_simp; (try with_reducible rfl))); (try simp only [Act.put, List.setIfInBounds_toArray, List.set_cons_zero, List.set_cons_succ]))
          (refine rg_take 10 (v := ?_) rfl (by kernel_rfl) (by kernel_rfl) (by kernel_rfl) (fun _ _ _ h => h) (by kernel_rfl) ?_ (by with_reducible assumption) ?_; rotate_left; (focus (intro w hSw; (try dsimp only at hSw); go_simp; (try with_reducible rfl))); (try simp only [Act.put, List.setIfInBounds_toArray, List.set_cons_zero, List.set_cons_succ]))
          (refine rg_take 11 (v := ?_) rfl (by kernel_rfl) (by kernel_rfl) (by kernel_rfl) (fun _ _ _ h => h) (by kernel_rfl) ?_ (by with_reducible assumption) ?_; rotate_left; (focus (intro w hSw; (try dsimp only at hSw); go_simp; (try with_reducible rfl))); (try simp only [Act.put, List.setIfInBounds_toArray, List.set_cons_zero, List.set_cons_succ]))
          refine wpAnyH_done (by kernel_rfl) ?_ _
          have hb := hHeld.1
          clear hHeld
          go_wp2_with fail
          go_roundw
          case rel => exact ⟨i + 1, by omega, by go_num, by rw [HS.out], e6.trans hb⟩
          case measure => simp [intOf]; omega
      · rw [hnt, Bool.true_or] at hsn
        have HS := Lib.hid hsn; clear hsn hnt
        go_wp2_with fail
        refine wp_region_held_drew (S := fun w' => Ext V w' ∧ w'.cell? ⟨OA, 0, none⟩ = some (.int .i64 (Ax : Int)) ∧ w'.cell? ⟨OA, 1, none⟩ = some (.int .i64 (Ay : Int)) ∧ w'.cell? ⟨b, i * 2, none⟩ = some (.int .i64 (x : Int)) ∧ w'.cell? ⟨b, i * 2 + 1, none⟩ = some (.int .i64 (y : Int))) (by kernel_rfl) ⟨Ext.drew (Ext.refl _), cOAx, cOAy, q0, q1⟩ (fun hHeld => ?_)
        (refine rg_take 0 (v := ?_) rfl (by kernel_rfl) (by kernel_rfl) (by kernel_rfl) (fun _ _ _ h => h) (by kernel_rfl) ?_ (by with_reducible assumption) ?_; rotate_left; (focus (intro w hSw; (try dsimp only at hSw); go_simp; (try with_reducible rfl))); (try simp only [Act.put, List.setIfInBounds_toArray, List.set_cons_zero, List.set_cons_succ]))
        (refine rg_take 1 (v := ?_) rfl (by kernel_rfl) (by kernel_rfl) (by kernel_rfl) (fun _ _ _ h => h) (by kernel_rfl) ?_ (by with_reducible assumption) ?_; rotate_left; (focus (intro w hSw; (try dsimp only at hSw); go_simp; (try with_reducible rfl))); (try simp only [Act.put, List.setIfInBounds_toArray, List.set_cons_zero, List.set_cons_succ]))
        (refine rg_skip 2 rfl (by kernel_rfl) (by kernel_rfl) (by kernel_rfl) (fun _ _ _ h => h) (by kernel_rfl) (by with_reducible assumption) ?_; (try simp only [Act.put, List.setIfInBounds_toArray, List.set_cons_zero, List.set_cons_succ]))
        (refine rg_skip 3 rfl (by kernel_rfl) (by kernel_rfl) (by kernel_rfl) (fun _ _ _ h => h) (by kernel_rfl) (by with_reducible assumption) ?_; (try simp only [Act.put, List.setIfInBounds_toArray, List.set_cons_zero, List.set_cons_succ]))
        (refine rg_skip 4 rfl (by kernel_rfl) (by kernel_rfl) (by kernel_rfl) (fun _ _ _ h => h) (by kernel_rfl) (by with_reducible assumption) ?_; (try simp only [Act.put, List.setIfInBounds_toArray, List.set_cons_zero, List.set_cons_succ]))
        (refine rg_skip 5 rfl (by kernel_rfl) (by kernel_rfl) (by kernel_rfl) (fun _ _ _ h => h) (by kernel_rfl) (by with_reducible assumption) ?_; (try simp only [Act.put, List.setIfInBounds_toArray, List.set_cons_zero, List.set_cons_succ]))
        (refine rg_skip 6 rfl (by kernel_rfl) (by kernel_rfl) (by kernel_rfl) (fun _ _ _ h => h) (by kernel_rfl) (by with_reducible assumption) ?_; (try simp only [Act.put, List.setIfInBounds_toArray, List.set_cons_zero, List.set_cons_succ]))
        (refine rg_skip 7 rfl (by kernel_rfl) (by kernel_rfl) (by kernel_rfl) (fun _ _ _ h => h) (by kernel_rfl) (by with_reducible assumption) ?_; (try simp only [Act.put, List.setIfInBounds_toArray, List.set_cons_zero, List.set_cons_succ]))
        (refine rg_skip 8 rfl (by kernel_rfl) (by kernel_rfl) (by kernel_rfl) (fun _ _ _ h => h) (by kernel_rfl) (by with_reducible assumption) ?_; (try simp only [Act.put, List.setIfInBounds_toArray, List.set_cons_zero, List.set_cons_succ]))
        (refine rg_skip 9 rfl (by kernel_rfl) (by kernel_rfl) (by kernel_rfl) (fun _ _ _ h => h) (by kernel_rfl) (by with_reducible assumption) ?_; (try simp only [Act.put, List.setIfInBounds_toArray, List.set_cons_zero, List.set_cons_succ]))
        (refine rg_take 10 (v := ?_) rfl (by kernel_rfl) (by kernel_rfl) (by kernel_rfl) (fun _ _ _ h => h) (by kernel_rfl) ?_ (by with_reducible assumption) ?_; rotate_left; (focus (intro w hSw; (try dsimp only at hSw); go_simp; (try with_reducible rfl))); (try simp only [Act.put, List.setIfInBounds_toArray, List.set_cons_zero, List.set_cons_succ]))
        (refine rg_take 11 (v := ?_) rfl (by kernel_rfl) (by kernel_rfl) (by kernel_rfl) (fun _ _ _ h => h) (by kernel_rfl) ?_ (by with_reducible assumption) ?_; rotate_left; (focus (intro w hSw; (try dsimp only at hSw); go_simp; (try with_reducible rfl))); (try simp only [Act.put, List.setIfInBounds_toArray, List.set_cons_zero, List.set_cons_succ]))
        refine wpAnyH_done (by kernel_rfl) ?_ _
        have hb := hHeld.1
        clear hHeld
        go_wp2_with fail
        go_roundw
        case rel => exact ⟨i + 1, by omega, by go_num, by rw [HS.out], e6.trans hb⟩
        case measure => simp [intOf]; omega
    · obtain rfl : i = n := by omega
      have ht := nearTo_all hl0 (d := D) bAx bAy HN.out
      rw [ht]
      obtain ⟨r, hr⟩ : ∃ r, hasL (growL L0 D) Ax Ay = r := ⟨_, rfl⟩
      rw [hr]
      have HR := Lib.hid hr; clear ht hr
      have lw : Ow < V.heap.size := World.block_lt_of_cell? V _ cOw
      have lA : OA < V.heap.size := World.block_lt_of_cell? V _ cOAx
      have hE2 := hE.trans e6
      clear e6 hE HC
      cases r
      all_goals
        go_wp2_with fail
        refine (Has_r _ _ vBw (by first | exact Ext.refl _ | exact Ext.alloc (Ext.refl _) _ | exact Ext.alloc (Ext.alloc (Ext.refl _) _) _) bAx bAy HR.out).mono ?_
        rintro e w1 ⟨rfl, hb⟩
        go_wp2
        go_ret
        exact ⟨rfl, by (repeat' (first | (with_reducible assumption) | (with_reducible exact Ext.refl _) | (with_reducible refine Ext.alloc ?_ _) | (with_reducible refine Ext.drew ?_) | (with_reducible refine Ext.drewN ?_ _) | (with_reducible refine Ext.setCell ?_ ?_ _) | (with_reducible refine Ext.trans ?_ (by assumption)) | go_size))⟩

end Go.Proofs.YtnfknekbbdfdfaaDoor
