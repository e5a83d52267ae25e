/- The walk of the law GlobeGrows. -/
import Derived.Test.YtnfknekbbdfdfaaDoorYA
namespace Go.Proofs.YtnfknekbbdfdfaaDoor
open Go.RowKit
open Globe

theorem contains_grow {a : List Int} (ha : validL a = true) (n : Nat) : containsB (growL a n) a = true :=
  (contains_iff (growL_valid ha n) ha).2 fun _ _ hx hy h => grow_has ha n hx hy h
theorem contains_grow2 {a b : List Int} (ha : validL a = true) (hb : validL b = true) (n : Nat) : containsB (growL (unionL a b) n) (growL a n) = true := by
  rw [grow_union ha hb]
  exact (contains_iff (union_valid (growL_valid ha n) (growL_valid hb n)) (growL_valid ha n)).2 fun x y hx hy h => by rw [has_union hy, h]; rfl

set_option maxRecDepth 100000 in
set_option maxHeartbeats 8000000 in
theorem GlobeGrows_walk (w : World) (v0 : Value) (o0 : Quads w v0) (v1 : Value) (o1 : Quads w v1) (one : Int) (i1 : IsI one) (two : Int) (i2 : IsI two) (hT : Tab w) :
    Calls Tryd.prog 6 #[v0, v1, .int .i64 one, .int .i64 two] w fun e w' => e = .returned (.bool true) ∧ Ext w w' := by
  obtain ⟨a0, n0, c0, q0, rfl, hn0, Q0⟩ := o0
  obtain ⟨a1, n1, c1, q1, rfl, hn1, Q1⟩ := o1
  have HT := Lib.hid hT; clear hT
  obtain ⟨I, hI⟩ : ∃ I : Nat, pickF one 8 = (I : Int) := ⟨(pickF one 8).toNat, by have := @pickF_bd one 8 (by omega); omega⟩
  obtain ⟨K, hK⟩ : ∃ K : Nat, pickF two 8 = (K : Int) := ⟨(pickF two 8).toNat, by have := @pickF_bd two 8 (by omega); omega⟩
  have hI8 : I < 8 := by have := @pickF_bd one 8 (by omega); omega
  have hK8 : K < 8 := by have := @pickF_bd two 8 (by omega); omega
  have HI := Lib.hid hI; have HK := Lib.hid hK; clear hI hK
  have H1 := Lib.hid i1; have H2 := Lib.hid i2; clear i1 i2
  go_enter Tryd.func6, Tryd.ntmps6
  go_wp2_with fail
  refine calls_name (fun V => Ext w V) (by (repeat' (first | (with_reducible assumption) | (with_reducible exact Ext.refl _) | (with_reducible refine Ext.alloc ?_ _) | (with_reducible refine Ext.drew ?_) | (with_reducible refine Ext.drewN ?_ _) | (with_reducible refine Ext.setCell ?_ ?_ _) | (with_reducible refine Ext.trans ?_ (by assumption)) | go_size))) ?_
  intro V hE
  refine (sane_c _ (HT.out.ext hE)).mono ?_
  rintro e w1 ⟨rfl, hb⟩
  have hc := hb.cellE; have hf := hb.frozenE; have hz := hb.size; have ha := alloc_keeps w1; (try simp only [World.size_alloc] at hc hf hz); (try simp only [World.size_setCell] at hc hf hz); (try simp only [World.size_drew] at hc hf hz)
  go_wp2_with fail
  refine calls_name (fun V => Ext w V) (hE.trans (by first | exact hb | exact Ext.alloc hb _ | exact Ext.alloc (Ext.alloc hb _) _)) ?_
  clear hE  hb hc hf hz ha
  intro V hE
  refine (Made_c c0 _ (Q0) hE hn0).mono ?_
  rintro e w1 ⟨B0, L0, rfl, hB, hvl, hr, hv, hb⟩
  have hc := hb.cellE; have hf := hb.frozenE; have hz := hb.size; have ha := alloc_keeps w1; (try simp only [World.size_alloc] at hc hf hz); (try simp only [World.size_setCell] at hc hf hz); (try simp only [World.size_drew] at hc hf hz)
  clear hr hB hvl
  go_wp2_with fail
  obtain ⟨O0, hO⟩ : ∃ O, O = w1.heap.size := ⟨_, rfl⟩
  rw [← hO]
  refine calls_name (fun V => Ext w V ∧ VA V B0 0 L0 ∧ V.cell? ⟨O0, 0, none⟩ = some (.slice (some ⟨B0, 0, none⟩) 24 24)) ⟨hE.trans (by first | exact hb | exact Ext.alloc hb _ | exact Ext.alloc (Ext.alloc hb _) _), hv.ext (by first | exact Ext.refl _ | exact Ext.alloc (Ext.refl _) _ | exact Ext.alloc (Ext.alloc (Ext.refl _) _) _), by rw [hO]; simp [go_sem]⟩ ?_
  clear hE  hb hc hf hz ha hO hv
  rintro V ⟨hE, vA0, cO0⟩
  have lvA0 := vA0.lt
  have lcO0 := World.block_lt_of_cell? V _ cO0
  refine (Made_c c1 _ (Q1) hE hn1).mono ?_
  rintro e w1 ⟨B1, L1, rfl, hB, hvl, hr, hv, hb⟩
  have hc := hb.cellE; have hf := hb.frozenE; have hz := hb.size; have ha := alloc_keeps w1; (try simp only [World.size_alloc] at hc hf hz); (try simp only [World.size_setCell] at hc hf hz); (try simp only [World.size_drew] at hc hf hz)
  clear hr hB hvl
  go_wp2_with fail
  obtain ⟨O1, hO⟩ : ∃ O, O = w1.heap.size := ⟨_, rfl⟩
  rw [← hO]
  refine calls_name (fun V => Ext w V ∧ VA V B0 0 L0 ∧ V.cell? ⟨O0, 0, none⟩ = some (.slice (some ⟨B0, 0, none⟩) 24 24) ∧ VA V B1 0 L1 ∧ V.cell? ⟨O1, 0, none⟩ = some (.slice (some ⟨B1, 0, none⟩) 24 24)) ⟨hE.trans (by first | exact hb | exact Ext.alloc hb _ | exact Ext.alloc (Ext.alloc hb _) _), vA0.ext (by first | exact hb | exact Ext.alloc hb _ | exact Ext.alloc (Ext.alloc hb _) _), Ext.cell (by first | exact hb | exact Ext.alloc hb _ | exact Ext.alloc (Ext.alloc hb _) _) cO0, hv.ext (by first | exact Ext.refl _ | exact Ext.alloc (Ext.refl _) _ | exact Ext.alloc (Ext.alloc (Ext.refl _) _) _), by rw [hO]; simp [go_sem]⟩ ?_
  clear hE vA0 cO0 lvA0 lcO0 hb hc hf hz ha hO hv
  rintro V ⟨hE, vA0, cO0, vA1, cO1⟩
  have lvA0 := vA0.lt
  have lcO0 := World.block_lt_of_cell? V _ cO0
  have lvA1 := vA1.lt
  have lcO1 := World.block_lt_of_cell? V _ cO1
  refine (pick_c one 8 _ H1.out (by omega) (by omega)).mono ?_
  rintro e w' ⟨rfl, rfl⟩
  rw [HI.out]
  go_wp2_with fail
  refine (pick_c two 8 _ H2.out (by omega) (by omega)).mono ?_
  rintro e w' ⟨rfl, rfl⟩
  rw [HK.out]
  go_wp2_with fail
  refine (Grown_y B0 0 24 L0 I _ vA0 (by omega)).mono ?_
  rintro e w1 ⟨Bp, kp, rfl, hB, hr, hv, hb⟩
  have hc := hb.cellE; have hf := hb.frozenE; have hz := hb.size; have ha := alloc_keeps w1; (try simp only [World.size_alloc] at hc hf hz); (try simp only [World.size_setCell] at hc hf hz); (try simp only [World.size_drew] at hc hf hz)
  replace hv : VA w1 Bp 0 (growL L0 I) := hv
  clear hr hB
  go_wp2_with fail
  obtain ⟨Op, hO⟩ : ∃ O, O = w1.heap.size := ⟨_, rfl⟩
  rw [← hO]
  refine calls_name (fun V => Ext w V ∧ VA V B0 0 L0 ∧ V.cell? ⟨O0, 0, none⟩ = some (.slice (some ⟨B0, 0, none⟩) 24 24) ∧ VA V B1 0 L1 ∧ V.cell? ⟨O1, 0, none⟩ = some (.slice (some ⟨B1, 0, none⟩) 24 24) ∧ VA V Bp 0 (growL L0 I) ∧ V.cell? ⟨Op, 0, none⟩ = some (.slice (some ⟨Bp, 0, none⟩) 24 kp)) ⟨hE.trans (by first | exact hb | exact Ext.alloc hb _ | exact Ext.alloc (Ext.alloc hb _) _), vA0.ext (by first | exact hb | exact Ext.alloc hb _ | exact Ext.alloc (Ext.alloc hb _) _), Ext.cell (by first | exact hb | exact Ext.alloc hb _ | exact Ext.alloc (Ext.alloc hb _) _) cO0, vA1.ext (by first | exact hb | exact Ext.alloc hb _ | exact Ext.alloc (Ext.alloc hb _) _), Ext.cell (by first | exact hb | exact Ext.alloc hb _ | exact Ext.alloc (Ext.alloc hb _) _) cO1, hv.ext (by first | exact Ext.refl _ | exact Ext.alloc (Ext.refl _) _ | exact Ext.alloc (Ext.alloc (Ext.refl _) _) _), by rw [hO]; simp [go_sem]⟩ ?_
  clear hE vA0 cO0 vA1 cO1 lvA0 lcO0 lvA1 lcO1 hb hc hf hz ha hO hv
  rintro V ⟨hE, vA0, cO0, vA1, cO1, vBp, cOp⟩
  have lvA0 := vA0.lt
  have lcO0 := World.block_lt_of_cell? V _ cO0
  have lvA1 := vA1.lt
  have lcO1 := World.block_lt_of_cell? V _ cO1
  have lvBp := vBp.lt
  have lcOp := World.block_lt_of_cell? V _ cOp
  refine (Grown_y Bp 0 kp (growL L0 I) K _ vBp (by omega)).mono ?_
  rintro e w1 ⟨Bq, kq, rfl, hB, hr, hv, hb⟩
  have hc := hb.cellE; have hf := hb.frozenE; have hz := hb.size; have ha := alloc_keeps w1; (try simp only [World.size_alloc] at hc hf hz); (try simp only [World.size_setCell] at hc hf hz); (try simp only [World.size_drew] at hc hf hz)
  replace hv : VA w1 Bq 0 (growL (growL L0 I) K) := hv
  clear hr hB
  go_wp2_with fail
  obtain ⟨Oq, hO⟩ : ∃ O, O = w1.heap.size := ⟨_, rfl⟩
  rw [← hO]
  refine calls_name (fun V => Ext w V ∧ VA V B0 0 L0 ∧ V.cell? ⟨O0, 0, none⟩ = some (.slice (some ⟨B0, 0, none⟩) 24 24) ∧ VA V B1 0 L1 ∧ V.cell? ⟨O1, 0, none⟩ = some (.slice (some ⟨B1, 0, none⟩) 24 24) ∧ VA V Bp 0 (growL L0 I) ∧ V.cell? ⟨Op, 0, none⟩ = some (.slice (some ⟨Bp, 0, none⟩) 24 kp) ∧ VA V Bq 0 (growL (growL L0 I) K) ∧ V.cell? ⟨Oq, 0, none⟩ = some (.slice (some ⟨Bq, 0, none⟩) 24 kq)) ⟨hE.trans (by first | exact hb | exact Ext.alloc hb _ | exact Ext.alloc (Ext.alloc hb _) _), vA0.ext (by first | exact hb | exact Ext.alloc hb _ | exact Ext.alloc (Ext.alloc hb _) _), Ext.cell (by first | exact hb | exact Ext.alloc hb _ | exact Ext.alloc (Ext.alloc hb _) _) cO0, vA1.ext (by first | exact hb | exact Ext.alloc hb _ | exact Ext.alloc (Ext.alloc hb _) _), Ext.cell (by first | exact hb | exact Ext.alloc hb _ | exact Ext.alloc (Ext.alloc hb _) _) cO1, vBp.ext (by first | exact hb | exact Ext.alloc hb _ | exact Ext.alloc (Ext.alloc hb _) _), Ext.cell (by first | exact hb | exact Ext.alloc hb _ | exact Ext.alloc (Ext.alloc hb _) _) cOp, hv.ext (by first | exact Ext.refl _ | exact Ext.alloc (Ext.refl _) _ | exact Ext.alloc (Ext.alloc (Ext.refl _) _) _), by rw [hO]; simp [go_sem]⟩ ?_
  clear hE vA0 cO0 vA1 cO1 vBp cOp lvA0 lcO0 lvA1 lcO1 lvBp lcOp hb hc hf hz ha hO hv
  rintro V ⟨hE, vA0, cO0, vA1, cO1, vBp, cOp, vBq, cOq⟩
  have lvA0 := vA0.lt
  have lcO0 := World.block_lt_of_cell? V _ cO0
  have lvA1 := vA1.lt
  have lcO1 := World.block_lt_of_cell? V _ cO1
  have lvBp := vBp.lt
  have lcOp := World.block_lt_of_cell? V _ cOp
  have lvBq := vBq.lt
  have lcOq := World.block_lt_of_cell? V _ cOq
  refine (Grown_v 24 ((I : Int) + (K : Int)) _ vA0 (Ext.refl _) (inB_t.2 (by omega))).mono ?_
  rintro e w1 ⟨Br, kr, rfl, hB, hr, hv, hb⟩
  have hc := hb.cellE; have hf := hb.frozenE; have hz := hb.size; have ha := alloc_keeps w1; (try simp only [World.size_alloc] at hc hf hz); (try simp only [World.size_setCell] at hc hf hz); (try simp only [World.size_drew] at hc hf hz)
  rw [show ((I : Int) + (K : Int)).toNat = I + K by omega] at hv
  clear hr hB
  go_wp2_with fail
  obtain ⟨Or, hO⟩ : ∃ O, O = w1.heap.size := ⟨_, rfl⟩
  rw [← hO]
  refine calls_name (fun V => Ext w V ∧ VA V B0 0 L0 ∧ V.cell? ⟨O0, 0, none⟩ = some (.slice (some ⟨B0, 0, none⟩) 24 24) ∧ VA V B1 0 L1 ∧ V.cell? ⟨O1, 0, none⟩ = some (.slice (some ⟨B1, 0, none⟩) 24 24) ∧ VA V Bp 0 (growL L0 I) ∧ V.cell? ⟨Op, 0, none⟩ = some (.slice (some ⟨Bp, 0, none⟩) 24 kp) ∧ VA V Bq 0 (growL (growL L0 I) K) ∧ V.cell? ⟨Oq, 0, none⟩ = some (.slice (some ⟨Bq, 0, none⟩) 24 kq) ∧ VA V Br 0 (growL L0 (I + K)) ∧ V.cell? ⟨Or, 0, none⟩ = some (.slice (some ⟨Br, 0, none⟩) 24 kr)) ⟨hE.trans (by first | exact hb | exact Ext.alloc hb _ | exact Ext.alloc (Ext.alloc hb _) _), vA0.ext (by first | exact hb | exact Ext.alloc hb _ | exact Ext.alloc (Ext.alloc hb _) _), Ext.cell (by first | exact hb | exact Ext.alloc hb _ | exact Ext.alloc (Ext.alloc hb _) _) cO0, vA1.ext (by first | exact hb | exact Ext.alloc hb _ | exact Ext.alloc (Ext.alloc hb _) _), Ext.cell (by first | exact hb | exact Ext.alloc hb _ | exact Ext.alloc (Ext.alloc hb _) _) cO1, vBp.ext (by first | exact hb | exact Ext.alloc hb _ | exact Ext.alloc (Ext.alloc hb _) _), Ext.cell (by first | exact hb | exact Ext.alloc hb _ | exact Ext.alloc (Ext.alloc hb _) _) cOp, vBq.ext (by first | exact hb | exact Ext.alloc hb _ | exact Ext.alloc (Ext.alloc hb _) _), Ext.cell (by first | exact hb | exact Ext.alloc hb _ | exact Ext.alloc (Ext.alloc hb _) _) cOq, hv.ext (by first | exact Ext.refl _ | exact Ext.alloc (Ext.refl _) _ | exact Ext.alloc (Ext.alloc (Ext.refl _) _) _), by rw [hO]; simp [go_sem]⟩ ?_
  clear hE vA0 cO0 vA1 cO1 vBp cOp vBq cOq lvA0 lcO0 lvA1 lcO1 lvBp lcOp lvBq lcOq hb hc hf hz ha hO hv
  rintro V ⟨hE, vA0, cO0, vA1, cO1, vBp, cOp, vBq, cOq, vBr, cOr⟩
  have lvA0 := vA0.lt
  have lcO0 := World.block_lt_of_cell? V _ cO0
  have lvA1 := vA1.lt
  have lcO1 := World.block_lt_of_cell? V _ cO1
  have lvBp := vBp.lt
  have lcOp := World.block_lt_of_cell? V _ cOp
  have lvBq := vBq.lt
  have lcOq := World.block_lt_of_cell? V _ cOq
  have lvBr := vBr.lt
  have lcOr := World.block_lt_of_cell? V _ cOr
  refine (Grown_y B0 0 24 L0 0 _ vA0 (by omega)).mono ?_
  rintro e w1 ⟨Bs, ks, rfl, hB, hr, hv, hb⟩
  have hc := hb.cellE; have hf := hb.frozenE; have hz := hb.size; have ha := alloc_keeps w1; (try simp only [World.size_alloc] at hc hf hz); (try simp only [World.size_setCell] at hc hf hz); (try simp only [World.size_drew] at hc hf hz)
  replace hv : VA w1 Bs 0 L0 := hv
  clear hr hB
  go_wp2_with fail
  obtain ⟨Os, hO⟩ : ∃ O, O = w1.heap.size := ⟨_, rfl⟩
  rw [← hO]
  refine calls_name (fun V => Ext w V ∧ VA V B0 0 L0 ∧ V.cell? ⟨O0, 0, none⟩ = some (.slice (some ⟨B0, 0, none⟩) 24 24) ∧ VA V B1 0 L1 ∧ V.cell? ⟨O1, 0, none⟩ = some (.slice (some ⟨B1, 0, none⟩) 24 24) ∧ VA V Bp 0 (growL L0 I) ∧ V.cell? ⟨Op, 0, none⟩ = some (.slice (some ⟨Bp, 0, none⟩) 24 kp) ∧ VA V Bq 0 (growL (growL L0 I) K) ∧ V.cell? ⟨Oq, 0, none⟩ = some (.slice (some ⟨Bq, 0, none⟩) 24 kq) ∧ VA V Br 0 (growL L0 (I + K)) ∧ V.cell? ⟨Or, 0, none⟩ = some (.slice (some ⟨Br, 0, none⟩) 24 kr) ∧ VA V Bs 0 L0 ∧ V.cell? ⟨Os, 0, none⟩ = some (.slice (some ⟨Bs, 0, none⟩) 24 ks)) ⟨hE.trans (by first | exact hb | exact Ext.alloc hb _ | exact Ext.alloc (Ext.alloc hb _) _), vA0.ext (by first | exact hb | exact Ext.alloc hb _ | exact Ext.alloc (Ext.alloc hb _) _), Ext.cell (by first | exact hb | exact Ext.alloc hb _ | exact Ext.alloc (Ext.alloc hb _) _) cO0, vA1.ext (by first | exact hb | exact Ext.alloc hb _ | exact Ext.alloc (Ext.alloc hb _) _), Ext.cell (by first | exact hb | exact Ext.alloc hb _ | exact Ext.alloc (Ext.alloc hb _) _) cO1, vBp.ext (by first | exact hb | exact Ext.alloc hb _ | exact Ext.alloc (Ext.alloc hb _) _), Ext.cell (by first | exact hb | exact Ext.alloc hb _ | exact Ext.alloc (Ext.alloc hb _) _) cOp, vBq.ext (by first | exact hb | exact Ext.alloc hb _ | exact Ext.alloc (Ext.alloc hb _) _), Ext.cell (by first | exact hb | exact Ext.alloc hb _ | exact Ext.alloc (Ext.alloc hb _) _) cOq, vBr.ext (by first | exact hb | exact Ext.alloc hb _ | exact Ext.alloc (Ext.alloc hb _) _), Ext.cell (by first | exact hb | exact Ext.alloc hb _ | exact Ext.alloc (Ext.alloc hb _) _) cOr, hv.ext (by first | exact Ext.refl _ | exact Ext.alloc (Ext.refl _) _ | exact Ext.alloc (Ext.alloc (Ext.refl _) _) _), by rw [hO]; simp [go_sem]⟩ ?_
  clear hE vA0 cO0 vA1 cO1 vBp cOp vBq cOq vBr cOr lvA0 lcO0 lvA1 lcO1 lvBp lcOp lvBq lcOq lvBr lcOr hb hc hf hz ha hO hv
  rintro V ⟨hE, vA0, cO0, vA1, cO1, vBp, cOp, vBq, cOq, vBr, cOr, vBs, cOs⟩
  have lvA0 := vA0.lt
  have lcO0 := World.block_lt_of_cell? V _ cO0
  have lvA1 := vA1.lt
  have lcO1 := World.block_lt_of_cell? V _ cO1
  have lvBp := vBp.lt
  have lcOp := World.block_lt_of_cell? V _ cOp
  have lvBq := vBq.lt
  have lcOq := World.block_lt_of_cell? V _ cOq
  have lvBr := vBr.lt
  have lcOr := World.block_lt_of_cell? V _ cOr
  have lvBs := vBs.lt
  have lcOs := World.block_lt_of_cell? V _ cOs
  refine (Union_v 24 24 _ vA0 (Ext.refl _) vA1 (Ext.refl _)).mono ?_
  rintro e w1 ⟨Bu, ku, rfl, hB, hr, hv, hb⟩
  have hc := hb.cellE; have hf := hb.frozenE; have hz := hb.size; have ha := alloc_keeps w1; (try simp only [World.size_alloc] at hc hf hz); (try simp only [World.size_setCell] at hc hf hz); (try simp only [World.size_drew] at hc hf hz)
  clear hr hB
  go_wp2_with fail
  obtain ⟨Ou, hO⟩ : ∃ O, O = w1.heap.size := ⟨_, rfl⟩
  rw [← hO]
  refine calls_name (fun V => Ext w V ∧ VA V B0 0 L0 ∧ V.cell? ⟨O0, 0, none⟩ = some (.slice (some ⟨B0, 0, none⟩) 24 24) ∧ VA V B1 0 L1 ∧ V.cell? ⟨O1, 0, none⟩ = some (.slice (some ⟨B1, 0, none⟩) 24 24) ∧ VA V Bp 0 (growL L0 I) ∧ V.cell? ⟨Op, 0, none⟩ = some (.slice (some ⟨Bp, 0, none⟩) 24 kp) ∧ VA V Bq 0 (growL (growL L0 I) K) ∧ V.cell? ⟨Oq, 0, none⟩ = some (.slice (some ⟨Bq, 0, none⟩) 24 kq) ∧ VA V Br 0 (growL L0 (I + K)) ∧ V.cell? ⟨Or, 0, none⟩ = some (.slice (some ⟨Br, 0, none⟩) 24 kr) ∧ VA V Bs 0 L0 ∧ V.cell? ⟨Os, 0, none⟩ = some (.slice (some ⟨Bs, 0, none⟩) 24 ks) ∧ VA V Bu 0 (unionL L0 L1) ∧ V.cell? ⟨Ou, 0, none⟩ = some (.slice (some ⟨Bu, 0, none⟩) 24 ku)) ⟨hE.trans (by first | exact hb | exact Ext.alloc hb _ | exact Ext.alloc (Ext.alloc hb _) _), vA0.ext (by first | exact hb | exact Ext.alloc hb _ | exact Ext.alloc (Ext.alloc hb _) _), Ext.cell (by first | exact hb | exact Ext.alloc hb _ | exact Ext.alloc (Ext.alloc hb _) _) cO0, vA1.ext (by first | exact hb | exact Ext.alloc hb _ | exact Ext.alloc (Ext.alloc hb _) _), Ext.cell (by first | exact hb | exact Ext.alloc hb _ | exact Ext.alloc (Ext.alloc hb _) _) cO1, vBp.ext (by first | exact hb | exact Ext.alloc hb _ | exact Ext.alloc (Ext.alloc hb _) _), Ext.cell (by first | exact hb | exact Ext.alloc hb _ | exact Ext.alloc (Ext.alloc hb _) _) cOp, vBq.ext (by first | exact hb | exact Ext.alloc hb _ | exact Ext.alloc (Ext.alloc hb _) _), Ext.cell (by first | exact hb | exact Ext.alloc hb _ | exact Ext.alloc (Ext.alloc hb _) _) cOq, vBr.ext (by first | exact hb | exact Ext.alloc hb _ | exact Ext.alloc (Ext.alloc hb _) _), Ext.cell (by first | exact hb | exact Ext.alloc hb _ | exact Ext.alloc (Ext.alloc hb _) _) cOr, vBs.ext (by first | exact hb | exact Ext.alloc hb _ | exact Ext.alloc (Ext.alloc hb _) _), Ext.cell (by first | exact hb | exact Ext.alloc hb _ | exact Ext.alloc (Ext.alloc hb _) _) cOs, hv.ext (by first | exact Ext.refl _ | exact Ext.alloc (Ext.refl _) _ | exact Ext.alloc (Ext.alloc (Ext.refl _) _) _), by rw [hO]; simp [go_sem]⟩ ?_
  clear hE vA0 cO0 vA1 cO1 vBp cOp vBq cOq vBr cOr vBs cOs lvA0 lcO0 lvA1 lcO1 lvBp lcOp lvBq lcOq lvBr lcOr lvBs lcOs hb hc hf hz ha hO hv
  rintro V ⟨hE, vA0, cO0, vA1, cO1, vBp, cOp, vBq, cOq, vBr, cOr, vBs, cOs, vBu, cOu⟩
  have lvA0 := vA0.lt
  have lcO0 := World.block_lt_of_cell? V _ cO0
  have lvA1 := vA1.lt
  have lcO1 := World.block_lt_of_cell? V _ cO1
  have lvBp := vBp.lt
  have lcOp := World.block_lt_of_cell? V _ cOp
  have lvBq := vBq.lt
  have lcOq := World.block_lt_of_cell? V _ cOq
  have lvBr := vBr.lt
  have lcOr := World.block_lt_of_cell? V _ cOr
  have lvBs := vBs.lt
  have lcOs := World.block_lt_of_cell? V _ cOs
  have lvBu := vBu.lt
  have lcOu := World.block_lt_of_cell? V _ cOu
  refine (rSame_c kq kr _ vBq.aa (Ext.refl _) vBr.aa (Ext.refl _)).mono ?_
  rintro e w1 ⟨rfl, hb⟩
  have hc := hb.cellE; have hf := hb.frozenE; have hz := hb.size; have ha := alloc_keeps w1; (try simp only [World.size_alloc] at hc hf hz); (try simp only [World.size_setCell] at hc hf hz); (try simp only [World.size_drew] at hc hf hz)
  rw [decide_eq_true (growL_add L0 I K)]
  go_wp2_with fail
  refine calls_name (fun V => Ext w V ∧ VA V B0 0 L0 ∧ V.cell? ⟨O0, 0, none⟩ = some (.slice (some ⟨B0, 0, none⟩) 24 24) ∧ VA V B1 0 L1 ∧ V.cell? ⟨O1, 0, none⟩ = some (.slice (some ⟨B1, 0, none⟩) 24 24) ∧ VA V Bp 0 (growL L0 I) ∧ V.cell? ⟨Op, 0, none⟩ = some (.slice (some ⟨Bp, 0, none⟩) 24 kp) ∧ VA V Bq 0 (growL (growL L0 I) K) ∧ V.cell? ⟨Oq, 0, none⟩ = some (.slice (some ⟨Bq, 0, none⟩) 24 kq) ∧ VA V Br 0 (growL L0 (I + K)) ∧ V.cell? ⟨Or, 0, none⟩ = some (.slice (some ⟨Br, 0, none⟩) 24 kr) ∧ VA V Bs 0 L0 ∧ V.cell? ⟨Os, 0, none⟩ = some (.slice (some ⟨Bs, 0, none⟩) 24 ks) ∧ VA V Bu 0 (unionL L0 L1) ∧ V.cell? ⟨Ou, 0, none⟩ = some (.slice (some ⟨Bu, 0, none⟩) 24 ku)) ⟨hE.trans (by first | exact hb | exact Ext.alloc hb _ | exact Ext.alloc (Ext.alloc hb _) _), vA0.ext (by first | exact hb | exact Ext.alloc hb _ | exact Ext.alloc (Ext.alloc hb _) _), Ext.cell (by first | exact hb | exact Ext.alloc hb _ | exact Ext.alloc (Ext.alloc hb _) _) cO0, vA1.ext (by first | exact hb | exact Ext.alloc hb _ | exact Ext.alloc (Ext.alloc hb _) _), Ext.cell (by first | exact hb | exact Ext.alloc hb _ | exact Ext.alloc (Ext.alloc hb _) _) cO1, vBp.ext (by first | exact hb | exact Ext.alloc hb _ | exact Ext.alloc (Ext.alloc hb _) _), Ext.cell (by first | exact hb | exact Ext.alloc hb _ | exact Ext.alloc (Ext.alloc hb _) _) cOp, vBq.ext (by first | exact hb | exact Ext.alloc hb _ | exact Ext.alloc (Ext.alloc hb _) _), Ext.cell (by first | exact hb | exact Ext.alloc hb _ | exact Ext.alloc (Ext.alloc hb _) _) cOq, vBr.ext (by first | exact hb | exact Ext.alloc hb _ | exact Ext.alloc (Ext.alloc hb _) _), Ext.cell (by first | exact hb | exact Ext.alloc hb _ | exact Ext.alloc (Ext.alloc hb _) _) cOr, vBs.ext (by first | exact hb | exact Ext.alloc hb _ | exact Ext.alloc (Ext.alloc hb _) _), Ext.cell (by first | exact hb | exact Ext.alloc hb _ | exact Ext.alloc (Ext.alloc hb _) _) cOs, vBu.ext (by first | exact hb | exact Ext.alloc hb _ | exact Ext.alloc (Ext.alloc hb _) _), Ext.cell (by first | exact hb | exact Ext.alloc hb _ | exact Ext.alloc (Ext.alloc hb _) _) cOu⟩ ?_
  clear hE vA0 cO0 vA1 cO1 vBp cOp vBq cOq vBr cOr vBs cOs vBu cOu lvA0 lcO0 lvA1 lcO1 lvBp lcOp lvBq lcOq lvBr lcOr lvBs lcOs lvBu lcOu hb hc hf hz ha
  rintro V ⟨hE, vA0, cO0, vA1, cO1, vBp, cOp, vBq, cOq, vBr, cOr, vBs, cOs, vBu, cOu⟩
  have lvA0 := vA0.lt
  have lcO0 := World.block_lt_of_cell? V _ cO0
  have lvA1 := vA1.lt
  have lcO1 := World.block_lt_of_cell? V _ cO1
  have lvBp := vBp.lt
  have lcOp := World.block_lt_of_cell? V _ cOp
  have lvBq := vBq.lt
  have lcOq := World.block_lt_of_cell? V _ cOq
  have lvBr := vBr.lt
  have lcOr := World.block_lt_of_cell? V _ cOr
  have lvBs := vBs.lt
  have lcOs := World.block_lt_of_cell? V _ cOs
  have lvBu := vBu.lt
  have lcOu := World.block_lt_of_cell? V _ cOu
  refine (rSame_c ks 24 _ vBs.aa (Ext.refl _) vA0.aa (Ext.refl _)).mono ?_
  rintro e w1 ⟨rfl, hb⟩
  have hc := hb.cellE; have hf := hb.frozenE; have hz := hb.size; have ha := alloc_keeps w1; (try simp only [World.size_alloc] at hc hf hz); (try simp only [World.size_setCell] at hc hf hz); (try simp only [World.size_drew] at hc hf hz)
  rw [decide_eq_true (rfl : L0 = L0)]
  go_wp2_with fail
  refine calls_name (fun V => Ext w V ∧ VA V B0 0 L0 ∧ V.cell? ⟨O0, 0, none⟩ = some (.slice (some ⟨B0, 0, none⟩) 24 24) ∧ VA V B1 0 L1 ∧ V.cell? ⟨O1, 0, none⟩ = some (.slice (some ⟨B1, 0, none⟩) 24 24) ∧ VA V Bp 0 (growL L0 I) ∧ V.cell? ⟨Op, 0, none⟩ = some (.slice (some ⟨Bp, 0, none⟩) 24 kp) ∧ VA V Bq 0 (growL (growL L0 I) K) ∧ V.cell? ⟨Oq, 0, none⟩ = some (.slice (some ⟨Bq, 0, none⟩) 24 kq) ∧ VA V Br 0 (growL L0 (I + K)) ∧ V.cell? ⟨Or, 0, none⟩ = some (.slice (some ⟨Br, 0, none⟩) 24 kr) ∧ VA V Bs 0 L0 ∧ V.cell? ⟨Os, 0, none⟩ = some (.slice (some ⟨Bs, 0, none⟩) 24 ks) ∧ VA V Bu 0 (unionL L0 L1) ∧ V.cell? ⟨Ou, 0, none⟩ = some (.slice (some ⟨Bu, 0, none⟩) 24 ku)) ⟨hE.trans (by first | exact hb | exact Ext.alloc hb _ | exact Ext.alloc (Ext.alloc hb _) _), vA0.ext (by first | exact hb | exact Ext.alloc hb _ | exact Ext.alloc (Ext.alloc hb _) _), Ext.cell (by first | exact hb | exact Ext.alloc hb _ | exact Ext.alloc (Ext.alloc hb _) _) cO0, vA1.ext (by first | exact hb | exact Ext.alloc hb _ | exact Ext.alloc (Ext.alloc hb _) _), Ext.cell (by first | exact hb | exact Ext.alloc hb _ | exact Ext.alloc (Ext.alloc hb _) _) cO1, vBp.ext (by first | exact hb | exact Ext.alloc hb _ | exact Ext.alloc (Ext.alloc hb _) _), Ext.cell (by first | exact hb | exact Ext.alloc hb _ | exact Ext.alloc (Ext.alloc hb _) _) cOp, vBq.ext (by first | exact hb | exact Ext.alloc hb _ | exact Ext.alloc (Ext.alloc hb _) _), Ext.cell (by first | exact hb | exact Ext.alloc hb _ | exact Ext.alloc (Ext.alloc hb _) _) cOq, vBr.ext (by first | exact hb | exact Ext.alloc hb _ | exact Ext.alloc (Ext.alloc hb _) _), Ext.cell (by first | exact hb | exact Ext.alloc hb _ | exact Ext.alloc (Ext.alloc hb _) _) cOr, vBs.ext (by first | exact hb | exact Ext.alloc hb _ | exact Ext.alloc (Ext.alloc hb _) _), Ext.cell (by first | exact hb | exact Ext.alloc hb _ | exact Ext.alloc (Ext.alloc hb _) _) cOs, vBu.ext (by first | exact hb | exact Ext.alloc hb _ | exact Ext.alloc (Ext.alloc hb _) _), Ext.cell (by first | exact hb | exact Ext.alloc hb _ | exact Ext.alloc (Ext.alloc hb _) _) cOu⟩ ?_
  clear hE vA0 cO0 vA1 cO1 vBp cOp vBq cOq vBr cOr vBs cOs vBu cOu lvA0 lcO0 lvA1 lcO1 lvBp lcOp lvBq lcOq lvBr lcOr lvBs lcOs lvBu lcOu hb hc hf hz ha
  rintro V ⟨hE, vA0, cO0, vA1, cO1, vBp, cOp, vBq, cOq, vBr, cOr, vBs, cOs, vBu, cOu⟩
  have lvA0 := vA0.lt
  have lcO0 := World.block_lt_of_cell? V _ cO0
  have lvA1 := vA1.lt
  have lcO1 := World.block_lt_of_cell? V _ cO1
  have lvBp := vBp.lt
  have lcOp := World.block_lt_of_cell? V _ cOp
  have lvBq := vBq.lt
  have lcOq := World.block_lt_of_cell? V _ cOq
  have lvBr := vBr.lt
  have lcOr := World.block_lt_of_cell? V _ cOr
  have lvBs := vBs.lt
  have lcOs := World.block_lt_of_cell? V _ cOs
  have lvBu := vBu.lt
  have lcOu := World.block_lt_of_cell? V _ cOu
  refine (Contains_r kp 24 _ vBp (Ext.refl _) vA0 (Ext.refl _) (contains_grow vA0.2 I)).mono ?_
  rintro e w1 ⟨rfl, hb⟩
  have hc := hb.cellE; have hf := hb.frozenE; have hz := hb.size; have ha := alloc_keeps w1; (try simp only [World.size_alloc] at hc hf hz); (try simp only [World.size_setCell] at hc hf hz); (try simp only [World.size_drew] at hc hf hz)
  go_wp2_with fail
  refine calls_name (fun V => Ext w V ∧ VA V B0 0 L0 ∧ V.cell? ⟨O0, 0, none⟩ = some (.slice (some ⟨B0, 0, none⟩) 24 24) ∧ VA V B1 0 L1 ∧ V.cell? ⟨O1, 0, none⟩ = some (.slice (some ⟨B1, 0, none⟩) 24 24) ∧ VA V Bp 0 (growL L0 I) ∧ V.cell? ⟨Op, 0, none⟩ = some (.slice (some ⟨Bp, 0, none⟩) 24 kp) ∧ VA V Bq 0 (growL (growL L0 I) K) ∧ V.cell? ⟨Oq, 0, none⟩ = some (.slice (some ⟨Bq, 0, none⟩) 24 kq) ∧ VA V Br 0 (growL L0 (I + K)) ∧ V.cell? ⟨Or, 0, none⟩ = some (.slice (some ⟨Br, 0, none⟩) 24 kr) ∧ VA V Bs 0 L0 ∧ V.cell? ⟨Os, 0, none⟩ = some (.slice (some ⟨Bs, 0, none⟩) 24 ks) ∧ VA V Bu 0 (unionL L0 L1) ∧ V.cell? ⟨Ou, 0, none⟩ = some (.slice (some ⟨Bu, 0, none⟩) 24 ku)) ⟨hE.trans (by first | exact hb | exact Ext.alloc hb _ | exact Ext.alloc (Ext.alloc hb _) _), vA0.ext (by first | exact hb | exact Ext.alloc hb _ | exact Ext.alloc (Ext.alloc hb _) _), Ext.cell (by first | exact hb | exact Ext.alloc hb _ | exact Ext.alloc (Ext.alloc hb _) _) cO0, vA1.ext (by first | exact hb | exact Ext.alloc hb _ | exact Ext.alloc (Ext.alloc hb _) _), Ext.cell (by first | exact hb | exact Ext.alloc hb _ | exact Ext.alloc (Ext.alloc hb _) _) cO1, vBp.ext (by first | exact hb | exact Ext.alloc hb _ | exact Ext.alloc (Ext.alloc hb _) _), Ext.cell (by first | exact hb | exact Ext.alloc hb _ | exact Ext.alloc (Ext.alloc hb _) _) cOp, vBq.ext (by first | exact hb | exact Ext.alloc hb _ | exact Ext.alloc (Ext.alloc hb _) _), Ext.cell (by first | exact hb | exact Ext.alloc hb _ | exact Ext.alloc (Ext.alloc hb _) _) cOq, vBr.ext (by first | exact hb | exact Ext.alloc hb _ | exact Ext.alloc (Ext.alloc hb _) _), Ext.cell (by first | exact hb | exact Ext.alloc hb _ | exact Ext.alloc (Ext.alloc hb _) _) cOr, vBs.ext (by first | exact hb | exact Ext.alloc hb _ | exact Ext.alloc (Ext.alloc hb _) _), Ext.cell (by first | exact hb | exact Ext.alloc hb _ | exact Ext.alloc (Ext.alloc hb _) _) cOs, vBu.ext (by first | exact hb | exact Ext.alloc hb _ | exact Ext.alloc (Ext.alloc hb _) _), Ext.cell (by first | exact hb | exact Ext.alloc hb _ | exact Ext.alloc (Ext.alloc hb _) _) cOu⟩ ?_
  clear hE vA0 cO0 vA1 cO1 vBp cOp vBq cOq vBr cOr vBs cOs vBu cOu lvA0 lcO0 lvA1 lcO1 lvBp lcOp lvBq lcOq lvBr lcOr lvBs lcOs lvBu lcOu hb hc hf hz ha
  rintro V ⟨hE, vA0, cO0, vA1, cO1, vBp, cOp, vBq, cOq, vBr, cOr, vBs, cOs, vBu, cOu⟩
  have lvA0 := vA0.lt
  have lcO0 := World.block_lt_of_cell? V _ cO0
  have lvA1 := vA1.lt
  have lcO1 := World.block_lt_of_cell? V _ cO1
  have lvBp := vBp.lt
  have lcOp := World.block_lt_of_cell? V _ cOp
  have lvBq := vBq.lt
  have lcOq := World.block_lt_of_cell? V _ cOq
  have lvBr := vBr.lt
  have lcOr := World.block_lt_of_cell? V _ cOr
  have lvBs := vBs.lt
  have lcOs := World.block_lt_of_cell? V _ cOs
  have lvBu := vBu.lt
  have lcOu := World.block_lt_of_cell? V _ cOu
  refine (Grown_y B1 0 24 L1 I _ vA1 (by omega)).mono ?_
  rintro e w1 ⟨Bt, kt, rfl, hB, hr, hv, hb⟩
  have hc := hb.cellE; have hf := hb.frozenE; have hz := hb.size; have ha := alloc_keeps w1; (try simp only [World.size_alloc] at hc hf hz); (try simp only [World.size_setCell] at hc hf hz); (try simp only [World.size_drew] at hc hf hz)
  replace hv : VA w1 Bt 0 (growL L1 I) := hv
  clear hr hB
  go_wp2_with fail
  obtain ⟨Ot, hO⟩ : ∃ O, O = w1.heap.size := ⟨_, rfl⟩
  rw [← hO]
  refine calls_name (fun V => Ext w V ∧ VA V B0 0 L0 ∧ V.cell? ⟨O0, 0, none⟩ = some (.slice (some ⟨B0, 0, none⟩) 24 24) ∧ VA V B1 0 L1 ∧ V.cell? ⟨O1, 0, none⟩ = some (.slice (some ⟨B1, 0, none⟩) 24 24) ∧ VA V Bp 0 (growL L0 I) ∧ V.cell? ⟨Op, 0, none⟩ = some (.slice (some ⟨Bp, 0, none⟩) 24 kp) ∧ VA V Bq 0 (growL (growL L0 I) K) ∧ V.cell? ⟨Oq, 0, none⟩ = some (.slice (some ⟨Bq, 0, none⟩) 24 kq) ∧ VA V Br 0 (growL L0 (I + K)) ∧ V.cell? ⟨Or, 0, none⟩ = some (.slice (some ⟨Br, 0, none⟩) 24 kr) ∧ VA V Bs 0 L0 ∧ V.cell? ⟨Os, 0, none⟩ = some (.slice (some ⟨Bs, 0, none⟩) 24 ks) ∧ VA V Bu 0 (unionL L0 L1) ∧ V.cell? ⟨Ou, 0, none⟩ = some (.slice (some ⟨Bu, 0, none⟩) 24 ku) ∧ VA V Bt 0 (growL L1 I) ∧ V.cell? ⟨Ot, 0, none⟩ = some (.slice (some ⟨Bt, 0, none⟩) 24 kt)) ⟨hE.trans (by first | exact hb | exact Ext.alloc hb _ | exact Ext.alloc (Ext.alloc hb _) _), vA0.ext (by first | exact hb | exact Ext.alloc hb _ | exact Ext.alloc (Ext.alloc hb _) _), Ext.cell (by first | exact hb | exact Ext.alloc hb _ | exact Ext.alloc (Ext.alloc hb _) _) cO0, vA1.ext (by first | exact hb | exact Ext.alloc hb _ | exact Ext.alloc (Ext.alloc hb _) _), Ext.cell (by first | exact hb | exact Ext.alloc hb _ | exact Ext.alloc (Ext.alloc hb _) _) cO1, vBp.ext (by first | exact hb | exact Ext.alloc hb _ | exact Ext.alloc (Ext.alloc hb _) _), Ext.cell (by first | exact hb | exact Ext.alloc hb _ | exact Ext.alloc (Ext.alloc hb _) _) cOp, vBq.ext (by first | exact hb | exact Ext.alloc hb _ | exact Ext.alloc (Ext.alloc hb _) _), Ext.cell (by first | exact hb | exact Ext.alloc hb _ | exact Ext.alloc (Ext.alloc hb _) _) cOq, vBr.ext (by first | exact hb | exact Ext.alloc hb _ | exact Ext.alloc (Ext.alloc hb _) _), Ext.cell (by first | exact hb | exact Ext.alloc hb _ | exact Ext.alloc (Ext.alloc hb _) _) cOr, vBs.ext (by first | exact hb | exact Ext.alloc hb _ | exact Ext.alloc (Ext.alloc hb _) _), Ext.cell (by first | exact hb | exact Ext.alloc hb _ | exact Ext.alloc (Ext.alloc hb _) _) cOs, vBu.ext (by first | exact hb | exact Ext.alloc hb _ | exact Ext.alloc (Ext.alloc hb _) _), Ext.cell (by first | exact hb | exact Ext.alloc hb _ | exact Ext.alloc (Ext.alloc hb _) _) cOu, hv.ext (by first | exact Ext.refl _ | exact Ext.alloc (Ext.refl _) _ | exact Ext.alloc (Ext.alloc (Ext.refl _) _) _), by rw [hO]; simp [go_sem]⟩ ?_
  clear hE vA0 cO0 vA1 cO1 vBp cOp vBq cOq vBr cOr vBs cOs vBu cOu lvA0 lcO0 lvA1 lcO1 lvBp lcOp lvBq lcOq lvBr lcOr lvBs lcOs lvBu lcOu hb hc hf hz ha hO hv
  rintro V ⟨hE, vA0, cO0, vA1, cO1, vBp, cOp, vBq, cOq, vBr, cOr, vBs, cOs, vBu, cOu, vBt, cOt⟩
  have lvA0 := vA0.lt
  have lcO0 := World.block_lt_of_cell? V _ cO0
  have lvA1 := vA1.lt
  have lcO1 := World.block_lt_of_cell? V _ cO1
  have lvBp := vBp.lt
  have lcOp := World.block_lt_of_cell? V _ cOp
  have lvBq := vBq.lt
  have lcOq := World.block_lt_of_cell? V _ cOq
  have lvBr := vBr.lt
  have lcOr := World.block_lt_of_cell? V _ cOr
  have lvBs := vBs.lt
  have lcOs := World.block_lt_of_cell? V _ cOs
  have lvBu := vBu.lt
  have lcOu := World.block_lt_of_cell? V _ cOu
  have lvBt := vBt.lt
  have lcOt := World.block_lt_of_cell? V _ cOt
  refine (Grown_y Bu 0 ku (unionL L0 L1) I _ vBu (by omega)).mono ?_
  rintro e w1 ⟨Bw, kw, rfl, hB, hr, hv, hb⟩
  have hc := hb.cellE; have hf := hb.frozenE; have hz := hb.size; have ha := alloc_keeps w1; (try simp only [World.size_alloc] at hc hf hz); (try simp only [World.size_setCell] at hc hf hz); (try simp only [World.size_drew] at hc hf hz)
  replace hv : VA w1 Bw 0 (growL (unionL L0 L1) I) := hv
  clear hr hB
  go_wp2_with fail
  obtain ⟨Ow, hO⟩ : ∃ O, O = w1.heap.size := ⟨_, rfl⟩
  rw [← hO]
  refine calls_name (fun V => Ext w V ∧ VA V B0 0 L0 ∧ V.cell? ⟨O0, 0, none⟩ = some (.slice (some ⟨B0, 0, none⟩) 24 24) ∧ VA V B1 0 L1 ∧ V.cell? ⟨O1, 0, none⟩ = some (.slice (some ⟨B1, 0, none⟩) 24 24) ∧ VA V Bp 0 (growL L0 I) ∧ V.cell? ⟨Op, 0, none⟩ = some (.slice (some ⟨Bp, 0, none⟩) 24 kp) ∧ VA V Bq 0 (growL (growL L0 I) K) ∧ V.cell? ⟨Oq, 0, none⟩ = some (.slice (some ⟨Bq, 0, none⟩) 24 kq) ∧ VA V Br 0 (growL L0 (I + K)) ∧ V.cell? ⟨Or, 0, none⟩ = some (.slice (some ⟨Br, 0, none⟩) 24 kr) ∧ VA V Bs 0 L0 ∧ V.cell? ⟨Os, 0, none⟩ = some (.slice (some ⟨Bs, 0, none⟩) 24 ks) ∧ VA V Bu 0 (unionL L0 L1) ∧ V.cell? ⟨Ou, 0, none⟩ = some (.slice (some ⟨Bu, 0, none⟩) 24 ku) ∧ VA V Bt 0 (growL L1 I) ∧ V.cell? ⟨Ot, 0, none⟩ = some (.slice (some ⟨Bt, 0, none⟩) 24 kt) ∧ VA V Bw 0 (growL (unionL L0 L1) I) ∧ V.cell? ⟨Ow, 0, none⟩ = some (.slice (some ⟨Bw, 0, none⟩) 24 kw)) ⟨hE.trans (by first | exact hb | exact Ext.alloc hb _ | exact Ext.alloc (Ext.alloc hb _) _), vA0.ext (by first | exact hb | exact Ext.alloc hb _ | exact Ext.alloc (Ext.alloc hb _) _), Ext.cell (by first | exact hb | exact Ext.alloc hb _ | exact Ext.alloc (Ext.alloc hb _) _) cO0, vA1.ext (by first | exact hb | exact Ext.alloc hb _ | exact Ext.alloc (Ext.alloc hb _) _), Ext.cell (by first | exact hb | exact Ext.alloc hb _ | exact Ext.alloc (Ext.alloc hb _) _) cO1, vBp.ext (by first | exact hb | exact Ext.alloc hb _ | exact Ext.alloc (Ext.alloc hb _) _), Ext.cell (by first | exact hb | exact Ext.alloc hb _ | exact Ext.alloc (Ext.alloc hb _) _) cOp, vBq.ext (by first | exact hb | exact Ext.alloc hb _ | exact Ext.alloc (Ext.alloc hb _) _), Ext.cell (by first | exact hb | exact Ext.alloc hb _ | exact Ext.alloc (Ext.alloc hb _) _) cOq, vBr.ext (by first | exact hb | exact Ext.alloc hb _ | exact Ext.alloc (Ext.alloc hb _) _), Ext.cell (by first | exact hb | exact Ext.alloc hb _ | exact Ext.alloc (Ext.alloc hb _) _) cOr, vBs.ext (by first | exact hb | exact Ext.alloc hb _ | exact Ext.alloc (Ext.alloc hb _) _), Ext.cell (by first | exact hb | exact Ext.alloc hb _ | exact Ext.alloc (Ext.alloc hb _) _) cOs, vBu.ext (by first | exact hb | exact Ext.alloc hb _ | exact Ext.alloc (Ext.alloc hb _) _), Ext.cell (by first | exact hb | exact Ext.alloc hb _ | exact Ext.alloc (Ext.alloc hb _) _) cOu, vBt.ext (by first | exact hb | exact Ext.alloc hb _ | exact Ext.alloc (Ext.alloc hb _) _), Ext.cell (by first | exact hb | exact Ext.alloc hb _ | exact Ext.alloc (Ext.alloc hb _) _) cOt, hv.ext (by first | exact Ext.refl _ | exact Ext.alloc (Ext.refl _) _ | exact Ext.alloc (Ext.alloc (Ext.refl _) _) _), by rw [hO]; simp [go_sem]⟩ ?_
  clear hE vA0 cO0 vA1 cO1 vBp cOp vBq cOq vBr cOr vBs cOs vBu cOu vBt cOt lvA0 lcO0 lvA1 lcO1 lvBp lcOp lvBq lcOq lvBr lcOr lvBs lcOs lvBu lcOu lvBt lcOt hb hc hf hz ha hO hv
  rintro V ⟨hE, vA0, cO0, vA1, cO1, vBp, cOp, vBq, cOq, vBr, cOr, vBs, cOs, vBu, cOu, vBt, cOt, vBw, cOw⟩
  have lvA0 := vA0.lt
  have lcO0 := World.block_lt_of_cell? V _ cO0
  have lvA1 := vA1.lt
  have lcO1 := World.block_lt_of_cell? V _ cO1
  have lvBp := vBp.lt
  have lcOp := World.block_lt_of_cell? V _ cOp
  have lvBq := vBq.lt
  have lcOq := World.block_lt_of_cell? V _ cOq
  have lvBr := vBr.lt
  have lcOr := World.block_lt_of_cell? V _ cOr
  have lvBs := vBs.lt
  have lcOs := World.block_lt_of_cell? V _ cOs
  have lvBu := vBu.lt
  have lcOu := World.block_lt_of_cell? V _ cOu
  have lvBt := vBt.lt
  have lcOt := World.block_lt_of_cell? V _ cOt
  have lvBw := vBw.lt
  have lcOw := World.block_lt_of_cell? V _ cOw
  refine (Union_v kp kt _ vBp (Ext.refl _) vBt (Ext.refl _)).mono ?_
  rintro e w1 ⟨Bx, kx, rfl, hB, hr, hv, hb⟩
  have hc := hb.cellE; have hf := hb.frozenE; have hz := hb.size; have ha := alloc_keeps w1; (try simp only [World.size_alloc] at hc hf hz); (try simp only [World.size_setCell] at hc hf hz); (try simp only [World.size_drew] at hc hf hz)
  clear hr hB
  go_wp2_with fail
  obtain ⟨Ox, hO⟩ : ∃ O, O = w1.heap.size := ⟨_, rfl⟩
  rw [← hO]
  refine calls_name (fun V => Ext w V ∧ VA V B0 0 L0 ∧ V.cell? ⟨O0, 0, none⟩ = some (.slice (some ⟨B0, 0, none⟩) 24 24) ∧ VA V B1 0 L1 ∧ V.cell? ⟨O1, 0, none⟩ = some (.slice (some ⟨B1, 0, none⟩) 24 24) ∧ VA V Bp 0 (growL L0 I) ∧ V.cell? ⟨Op, 0, none⟩ = some (.slice (some ⟨Bp, 0, none⟩) 24 kp) ∧ VA V Bq 0 (growL (growL L0 I) K) ∧ V.cell? ⟨Oq, 0, none⟩ = some (.slice (some ⟨Bq, 0, none⟩) 24 kq) ∧ VA V Br 0 (growL L0 (I + K)) ∧ V.cell? ⟨Or, 0, none⟩ = some (.slice (some ⟨Br, 0, none⟩) 24 kr) ∧ VA V Bs 0 L0 ∧ V.cell? ⟨Os, 0, none⟩ = some (.slice (some ⟨Bs, 0, none⟩) 24 ks) ∧ VA V Bu 0 (unionL L0 L1) ∧ V.cell? ⟨Ou, 0, none⟩ = some (.slice (some ⟨Bu, 0, none⟩) 24 ku) ∧ VA V Bt 0 (growL L1 I) ∧ V.cell? ⟨Ot, 0, none⟩ = some (.slice (some ⟨Bt, 0, none⟩) 24 kt) ∧ VA V Bw 0 (growL (unionL L0 L1) I) ∧ V.cell? ⟨Ow, 0, none⟩ = some (.slice (some ⟨Bw, 0, none⟩) 24 kw) ∧ VA V Bx 0 (unionL (growL L0 I) (growL L1 I)) ∧ V.cell? ⟨Ox, 0, none⟩ = some (.slice (some ⟨Bx, 0, none⟩) 24 kx)) ⟨hE.trans (by first | exact hb | exact Ext.alloc hb _ | exact Ext.alloc (Ext.alloc hb _) _), vA0.ext (by first | exact hb | exact Ext.alloc hb _ | exact Ext.alloc (Ext.alloc hb _) _), Ext.cell (by first | exact hb | exact Ext.alloc hb _ | exact Ext.alloc (Ext.alloc hb _) _) cO0, vA1.ext (by first | exact hb | exact Ext.alloc hb _ | exact Ext.alloc (Ext.alloc hb _) _), Ext.cell (by first | exact hb | exact Ext.alloc hb _ | exact Ext.alloc (Ext.alloc hb _) _) cO1, vBp.ext (by first | exact hb | exact Ext.alloc hb _ | exact Ext.alloc (Ext.alloc hb _) _), Ext.cell (by first | exact hb | exact Ext.alloc hb _ | exact Ext.alloc (Ext.alloc hb _) _) cOp, vBq.ext (by first | exact hb | exact Ext.alloc hb _ | exact Ext.alloc (Ext.alloc hb _) _), Ext.cell (by first | exact hb | exact Ext.alloc hb _ | exact Ext.alloc (Ext.alloc hb _) _) cOq, vBr.ext (by first | exact hb | exact Ext.alloc hb _ | exact Ext.alloc (Ext.alloc hb _) _), Ext.cell (by first | exact hb | exact Ext.alloc hb _ | exact Ext.alloc (Ext.alloc hb _) _) cOr, vBs.ext (by first | exact hb | exact Ext.alloc hb _ | exact Ext.alloc (Ext.alloc hb _) _), Ext.cell (by first | exact hb | exact Ext.alloc hb _ | exact Ext.alloc (Ext.alloc hb _) _) cOs, vBu.ext (by first | exact hb | exact Ext.alloc hb _ | exact Ext.alloc (Ext.alloc hb _) _), Ext.cell (by first | exact hb | exact Ext.alloc hb _ | exact Ext.alloc (Ext.alloc hb _) _) cOu, vBt.ext (by first | exact hb | exact Ext.alloc hb _ | exact Ext.alloc (Ext.alloc hb _) _), Ext.cell (by first | exact hb | exact Ext.alloc hb _ | exact Ext.alloc (Ext.alloc hb _) _) cOt, vBw.ext (by first | exact hb | exact Ext.alloc hb _ | exact Ext.alloc (Ext.alloc hb _) _), Ext.cell (by first | exact hb | exact Ext.alloc hb _ | exact Ext.alloc (Ext.alloc hb _) _) cOw, hv.ext (by first | exact Ext.refl _ | exact Ext.alloc (Ext.refl _) _ | exact Ext.alloc (Ext.alloc (Ext.refl _) _) _), by rw [hO]; simp [go_sem]⟩ ?_
  clear hE vA0 cO0 vA1 cO1 vBp cOp vBq cOq vBr cOr vBs cOs vBu cOu vBt cOt vBw cOw lvA0 lcO0 lvA1 lcO1 lvBp lcOp lvBq lcOq lvBr lcOr lvBs lcOs lvBu lcOu lvBt lcOt lvBw lcOw hb hc hf hz ha hO hv
  rintro V ⟨hE, vA0, cO0, vA1, cO1, vBp, cOp, vBq, cOq, vBr, cOr, vBs, cOs, vBu, cOu, vBt, cOt, vBw, cOw, vBx, cOx⟩
  have lvA0 := vA0.lt
  have lcO0 := World.block_lt_of_cell? V _ cO0
  have lvA1 := vA1.lt
  have lcO1 := World.block_lt_of_cell? V _ cO1
  have lvBp := vBp.lt
  have lcOp := World.block_lt_of_cell? V _ cOp
  have lvBq := vBq.lt
  have lcOq := World.block_lt_of_cell? V _ cOq
  have lvBr := vBr.lt
  have lcOr := World.block_lt_of_cell? V _ cOr
  have lvBs := vBs.lt
  have lcOs := World.block_lt_of_cell? V _ cOs
  have lvBu := vBu.lt
  have lcOu := World.block_lt_of_cell? V _ cOu
  have lvBt := vBt.lt
  have lcOt := World.block_lt_of_cell? V _ cOt
  have lvBw := vBw.lt
  have lcOw := World.block_lt_of_cell? V _ cOw
  have lvBx := vBx.lt
  have lcOx := World.block_lt_of_cell? V _ cOx
  refine (rSame_c kw kx _ vBw.aa (Ext.refl _) vBx.aa (Ext.refl _)).mono ?_
  rintro e w1 ⟨rfl, hb⟩
  have hc := hb.cellE; have hf := hb.frozenE; have hz := hb.size; have ha := alloc_keeps w1; (try simp only [World.size_alloc] at hc hf hz); (try simp only [World.size_setCell] at hc hf hz); (try simp only [World.size_drew] at hc hf hz)
  rw [decide_eq_true (grow_union vA0.2 vA1.2 I)]
  go_wp2_with fail
  refine calls_name (fun V => Ext w V ∧ VA V B0 0 L0 ∧ V.cell? ⟨O0, 0, none⟩ = some (.slice (some ⟨B0, 0, none⟩) 24 24) ∧ VA V B1 0 L1 ∧ V.cell? ⟨O1, 0, none⟩ = some (.slice (some ⟨B1, 0, none⟩) 24 24) ∧ VA V Bp 0 (growL L0 I) ∧ V.cell? ⟨Op, 0, none⟩ = some (.slice (some ⟨Bp, 0, none⟩) 24 kp) ∧ VA V Bq 0 (growL (growL L0 I) K) ∧ V.cell? ⟨Oq, 0, none⟩ = some (.slice (some ⟨Bq, 0, none⟩) 24 kq) ∧ VA V Br 0 (growL L0 (I + K)) ∧ V.cell? ⟨Or, 0, none⟩ = some (.slice (some ⟨Br, 0, none⟩) 24 kr) ∧ VA V Bs 0 L0 ∧ V.cell? ⟨Os, 0, none⟩ = some (.slice (some ⟨Bs, 0, none⟩) 24 ks) ∧ VA V Bu 0 (unionL L0 L1) ∧ V.cell? ⟨Ou, 0, none⟩ = some (.slice (some ⟨Bu, 0, none⟩) 24 ku) ∧ VA V Bt 0 (growL L1 I) ∧ V.cell? ⟨Ot, 0, none⟩ = some (.slice (some ⟨Bt, 0, none⟩) 24 kt) ∧ VA V Bw 0 (growL (unionL L0 L1) I) ∧ V.cell? ⟨Ow, 0, none⟩ = some (.slice (some ⟨Bw, 0, none⟩) 24 kw) ∧ VA V Bx 0 (unionL (growL L0 I) (growL L1 I)) ∧ V.cell? ⟨Ox, 0, none⟩ = some (.slice (some ⟨Bx, 0, none⟩) 24 kx)) ⟨hE.trans (by first | exact hb | exact Ext.alloc hb _ | exact Ext.alloc (Ext.alloc hb _) _), vA0.ext (by first | exact hb | exact Ext.alloc hb _ | exact Ext.alloc (Ext.alloc hb _) _), Ext.cell (by first | exact hb | exact Ext.alloc hb _ | exact Ext.alloc (Ext.alloc hb _) _) cO0, vA1.ext (by first | exact hb | exact Ext.alloc hb _ | exact Ext.alloc (Ext.alloc hb _) _), Ext.cell (by first | exact hb | exact Ext.alloc hb _ | exact Ext.alloc (Ext.alloc hb _) _) cO1, vBp.ext (by first | exact hb | exact Ext.alloc hb _ | exact Ext.alloc (Ext.alloc hb _) _), Ext.cell (by first | exact hb | exact Ext.alloc hb _ | exact Ext.alloc (Ext.alloc hb _) _) cOp, vBq.ext (by first | exact hb | exact Ext.alloc hb _ | exact Ext.alloc (Ext.alloc hb _) _), Ext.cell (by first | exact hb | exact Ext.alloc hb _ | exact Ext.alloc (Ext.alloc hb _) _) cOq, vBr.ext (by first | exact hb | exact Ext.alloc hb _ | exact Ext.alloc (Ext.alloc hb _) _), Ext.cell (by first | exact hb | exact Ext.alloc hb _ | exact Ext.alloc (Ext.alloc hb _) _) cOr, vBs.ext (by first | exact hb | exact Ext.alloc hb _ | exact Ext.alloc (Ext.alloc hb _) _), Ext.cell (by first | exact hb | exact Ext.alloc hb _ | exact Ext.alloc (Ext.alloc hb _) _) cOs, vBu.ext (by first | exact hb | exact Ext.alloc hb _ | exact Ext.alloc (Ext.alloc hb _) _), Ext.cell (by first | exact hb | exact Ext.alloc hb _ | exact Ext.alloc (Ext.alloc hb _) _) cOu, vBt.ext (by first | exact hb | exact Ext.alloc hb _ | exact Ext.alloc (Ext.alloc hb _) _), Ext.cell (by first | exact hb | exact Ext.alloc hb _ | exact Ext.alloc (Ext.alloc hb _) _) cOt, vBw.ext (by first | exact hb | exact Ext.alloc hb _ | exact Ext.alloc (Ext.alloc hb _) _), Ext.cell (by first | exact hb | exact Ext.alloc hb _ | exact Ext.alloc (Ext.alloc hb _) _) cOw, vBx.ext (by first | exact hb | exact Ext.alloc hb _ | exact Ext.alloc (Ext.alloc hb _) _), Ext.cell (by first | exact hb | exact Ext.alloc hb _ | exact Ext.alloc (Ext.alloc hb _) _) cOx⟩ ?_
  clear hE vA0 cO0 vA1 cO1 vBp cOp vBq cOq vBr cOr vBs cOs vBu cOu vBt cOt vBw cOw vBx cOx lvA0 lcO0 lvA1 lcO1 lvBp lcOp lvBq lcOq lvBr lcOr lvBs lcOs lvBu lcOu lvBt lcOt lvBw lcOw lvBx lcOx hb hc hf hz ha
  rintro V ⟨hE, vA0, cO0, vA1, cO1, vBp, cOp, vBq, cOq, vBr, cOr, vBs, cOs, vBu, cOu, vBt, cOt, vBw, cOw, vBx, cOx⟩
  have lvA0 := vA0.lt
  have lcO0 := World.block_lt_of_cell? V _ cO0
  have lvA1 := vA1.lt
  have lcO1 := World.block_lt_of_cell? V _ cO1
  have lvBp := vBp.lt
  have lcOp := World.block_lt_of_cell? V _ cOp
  have lvBq := vBq.lt
  have lcOq := World.block_lt_of_cell? V _ cOq
  have lvBr := vBr.lt
  have lcOr := World.block_lt_of_cell? V _ cOr
  have lvBs := vBs.lt
  have lcOs := World.block_lt_of_cell? V _ cOs
  have lvBu := vBu.lt
  have lcOu := World.block_lt_of_cell? V _ cOu
  have lvBt := vBt.lt
  have lcOt := World.block_lt_of_cell? V _ cOt
  have lvBw := vBw.lt
  have lcOw := World.block_lt_of_cell? V _ cOw
  have lvBx := vBx.lt
  have lcOx := World.block_lt_of_cell? V _ cOx
  refine (Contains_r kw kp _ vBw (Ext.refl _) vBp (Ext.refl _) (contains_grow2 vA0.2 vA1.2 I)).mono ?_
  rintro e w1 ⟨rfl, hb⟩
  have hc := hb.cellE; have hf := hb.frozenE; have hz := hb.size; have ha := alloc_keeps w1; (try simp only [World.size_alloc] at hc hf hz); (try simp only [World.size_setCell] at hc hf hz); (try simp only [World.size_drew] at hc hf hz)
  go_wp2_with fail
  go_ret
  exact ⟨rfl, by (repeat' (first | (with_reducible assumption) | (with_reducible exact Ext.refl _) | (with_reducible refine Ext.alloc ?_ _) | (with_reducible refine Ext.drew ?_) | (with_reducible refine Ext.drewN ?_ _) | (with_reducible refine Ext.setCell ?_ ?_ _) | (with_reducible refine Ext.trans ?_ (by assumption)) | go_size))⟩

end Go.Proofs.YtnfknekbbdfdfaaDoor
