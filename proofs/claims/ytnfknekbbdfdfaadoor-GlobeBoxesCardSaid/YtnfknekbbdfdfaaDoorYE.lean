/- The walk of the law GlobeBoxes. -/
import Derived.Test.YtnfknekbbdfdfaaDoorYA
import Derived.Test.YtnfknekbbdfdfaaDoorMQ
namespace Go.Proofs.YtnfknekbbdfdfaaDoor
open Go.RowKit
open Globe

theorem Box_r {X Y W H : Nat} (x y wide high : Int) (w : World) (hx : x = (X : Int)) (hy : y = (Y : Int)) (hw : wide = (W : Int)) (hh : high = (H : Int)) (b1 : X < 48) (b2 : Y < 24) (b3 : 1 ≤ W ∧ W ≤ 48) (b4 : 1 ≤ H ∧ Y + H ≤ 24) :
    Calls Tryd.prog 19 #[.agg #[.int .i64 x, .int .i64 y], .int .i64 wide, .int .i64 high] w (RetV w (boxL X Y W H)) := by
  subst hx hy hw hh
  exact (Box_y X Y W H w b1 b2 b3.1 b3.2 b4.1 b4.2).mono fun _ _ h => h.v (box_valid _ _ _ _)

set_option maxRecDepth 100000 in
set_option maxHeartbeats 8000000 in
theorem GlobeBoxes_walk (w : World) (v0 : Value) (o0 : Pair v0) (v1 : Value) (o1 : Pair v1) (one : Int) (i1 : IsI one) (two : Int) (i2 : IsI two) (low : Int) (i3 : IsI low) (high : Int) (i4 : IsI high) (hT : Tab w) :
    Calls Tryd.prog 8 #[v0, v1, .int .i64 one, .int .i64 two, .int .i64 low, .int .i64 high] w fun e w' => e = .returned (.bool true) ∧ Ext w w' := by
  obtain ⟨px, py, rfl, ix, iy⟩ := o0
  obtain ⟨qx, qy, rfl, jx, jy⟩ := o1
  have HT := Lib.hid hT; clear hT
  obtain ⟨X, hX⟩ : ∃ X : Nat, pickF px 48 = (X : Int) := ⟨(pickF px 48).toNat, by have := @pickF_bd px 48 (by omega); omega⟩
  have bX : X < 48 := by have := @pickF_bd px 48 (by omega); omega
  obtain ⟨Y, hY⟩ : ∃ X : Nat, pickF py 24 = (X : Int) := ⟨(pickF py 24).toNat, by have := @pickF_bd py 24 (by omega); omega⟩
  have bY : Y < 24 := by have := @pickF_bd py 24 (by omega); omega
  obtain ⟨Zx, hZx⟩ : ∃ X : Nat, pickF qx 48 = (X : Int) := ⟨(pickF qx 48).toNat, by have := @pickF_bd qx 48 (by omega); omega⟩
  have bZx : Zx < 48 := by have := @pickF_bd qx 48 (by omega); omega
  obtain ⟨Zy, hZy⟩ : ∃ X : Nat, pickF qy 24 = (X : Int) := ⟨(pickF qy 24).toNat, by have := @pickF_bd qy 24 (by omega); omega⟩
  have bZy : Zy < 24 := by have := @pickF_bd qy 24 (by omega); omega
  obtain ⟨W, hW⟩ : ∃ X : Nat, pickF one 47 = (X : Int) := ⟨(pickF one 47).toNat, by have := @pickF_bd one 47 (by omega); omega⟩
  have bW : W < 47 := by have := @pickF_bd one 47 (by omega); omega
  obtain ⟨U, hU⟩ : ∃ U : Nat, pickF two (48 - (1 + (W : Int))) = (U : Int) := ⟨(pickF two (48 - (1 + (W : Int)))).toNat, by have := @pickF_bd two (48 - (1 + (W : Int))) (by omega); omega⟩
  have bU : W + U < 47 := by have := @pickF_bd two (48 - (1 + (W : Int))) (by omega); omega
  obtain ⟨H, hH⟩ : ∃ H : Nat, pickF low (24 - (Y : Int)) = (H : Int) := ⟨(pickF low (24 - (Y : Int))).toNat, by have := @pickF_bd low (24 - (Y : Int)) (by omega); omega⟩
  have bH : Y + H < 24 := by have := @pickF_bd low (24 - (Y : Int)) (by omega); omega
  have HP := Lib.hid (And.intro hX hY); have HZ := Lib.hid (And.intro hZx hZy); have HW := Lib.hid hW; have HU := Lib.hid hU; have HH := Lib.hid hH
  clear hX hY hZx hZy hW hU hH
  have HI := Lib.hid (And.intro ix iy); have HJ := Lib.hid (And.intro jx jy); clear ix iy jx jy
  have H1 := Lib.hid i1; have H2 := Lib.hid i2; have H3 := Lib.hid i3; have H4 := Lib.hid i4; clear i1 i2 i3 i4
  go_enter Tryd.func8, Tryd.ntmps8
  go_wp2_with fail
  refine calls_name (fun V => Ext w V ∧ V.cell? ⟨w.heap.size, 0, none⟩ = some (.int .i64 px) ∧ V.cell? ⟨w.heap.size, 1, none⟩ = some (.int .i64 py) ∧ V.cell? ⟨w.heap.size + 1, 0, none⟩ = some (.int .i64 qx) ∧ V.cell? ⟨w.heap.size + 1, 1, none⟩ = some (.int .i64 qy)) ⟨by (repeat' (first | (with_reducible assumption) | (with_reducible exact Ext.refl _) | (with_reducible refine Ext.alloc ?_ _) | (with_reducible refine Ext.drew ?_) | (with_reducible refine Ext.drewN ?_ _) | (with_reducible refine Ext.setCell ?_ ?_ _) | (with_reducible refine Ext.trans ?_ (by assumption)) | go_size)), by simp [go_sem], by simp [go_sem], by simp [go_sem], by simp [go_sem]⟩ ?_
  rintro V ⟨hE, cPx, cPy, cQx, cQy⟩
  have lcPx := World.block_lt_of_cell? V _ cPx
  have lcPy := World.block_lt_of_cell? V _ cPy
  have lcQx := World.block_lt_of_cell? V _ cQx
  have lcQy := World.block_lt_of_cell? V _ cQy
  refine (sane_c _ (HT.out.ext hE)).mono ?_
  rintro e w1 ⟨rfl, hb⟩
  have hc := hb.cellE; have hf := hb.frozenE; have hz := hb.size; have ha := alloc_keeps w1; (try simp only [World.size_alloc] at hc hf hz); (try simp only [World.size_setCell] at hc hf hz); (try simp only [World.size_drew] at hc hf hz)
  go_wp2_with fail
  refine calls_name (fun V => Ext w V ∧ V.cell? ⟨w.heap.size, 0, none⟩ = some (.int .i64 px) ∧ V.cell? ⟨w.heap.size, 1, none⟩ = some (.int .i64 py) ∧ V.cell? ⟨w.heap.size + 1, 0, none⟩ = some (.int .i64 qx) ∧ V.cell? ⟨w.heap.size + 1, 1, none⟩ = some (.int .i64 qy)) ⟨hE.trans (by first | exact hb | exact Ext.alloc hb _ | exact Ext.alloc (Ext.alloc hb _) _), Ext.cell (by first | exact hb | exact Ext.alloc hb _ | exact Ext.alloc (Ext.alloc hb _) _) cPx, Ext.cell (by first | exact hb | exact Ext.alloc hb _ | exact Ext.alloc (Ext.alloc hb _) _) cPy, Ext.cell (by first | exact hb | exact Ext.alloc hb _ | exact Ext.alloc (Ext.alloc hb _) _) cQx, Ext.cell (by first | exact hb | exact Ext.alloc hb _ | exact Ext.alloc (Ext.alloc hb _) _) cQy⟩ ?_
  clear hE cPx cPy cQx cQy lcPx lcPy lcQx lcQy hb hc hf hz ha
  rintro V ⟨hE, cPx, cPy, cQx, cQy⟩
  have lcPx := World.block_lt_of_cell? V _ cPx
  have lcPy := World.block_lt_of_cell? V _ cPy
  have lcQx := World.block_lt_of_cell? V _ cQx
  have lcQy := World.block_lt_of_cell? V _ cQy
  refine (rCell_c px py _ HI.out.1 HI.out.2).mono ?_
  rintro e w1 ⟨rfl, hb⟩
  have hc := hb.cellE; have hf := hb.frozenE; have hz := hb.size; have ha := alloc_keeps w1; (try simp only [World.size_alloc] at hc hf hz); (try simp only [World.size_setCell] at hc hf hz); (try simp only [World.size_drew] at hc hf hz)
  rw [HP.out.1, HP.out.2]
  go_wp2_with fail
  obtain ⟨Oc, hO⟩ : ∃ O, O = w1.heap.size := ⟨_, rfl⟩
  rw [← hO]
  refine calls_name (fun V => Ext w V ∧ V.cell? ⟨w.heap.size + 1, 0, none⟩ = some (.int .i64 qx) ∧ V.cell? ⟨w.heap.size + 1, 1, none⟩ = some (.int .i64 qy) ∧ V.cell? ⟨Oc, 0, none⟩ = some (.int .i64 (X : Int)) ∧ V.cell? ⟨Oc, 1, none⟩ = some (.int .i64 (Y : Int))) ⟨hE.trans (by first | exact hb | exact Ext.alloc hb _ | exact Ext.alloc (Ext.alloc hb _) _), Ext.cell (by first | exact hb | exact Ext.alloc hb _ | exact Ext.alloc (Ext.alloc hb _) _) cQx, Ext.cell (by first | exact hb | exact Ext.alloc hb _ | exact Ext.alloc (Ext.alloc hb _) _) cQy, by rw [hO]; simp [go_sem], by rw [hO]; simp [go_sem]⟩ ?_
  clear hE cPx cPy cQx cQy lcPx lcPy lcQx lcQy hb hc hf hz ha hO
  rintro V ⟨hE, cQx, cQy, cOcx, cOcy⟩
  have lcQx := World.block_lt_of_cell? V _ cQx
  have lcQy := World.block_lt_of_cell? V _ cQy
  have lcOcx := World.block_lt_of_cell? V _ cOcx
  have lcOcy := World.block_lt_of_cell? V _ cOcy
  refine (rCell_c qx qy _ HJ.out.1 HJ.out.2).mono ?_
  rintro e w1 ⟨rfl, hb⟩
  have hc := hb.cellE; have hf := hb.frozenE; have hz := hb.size; have ha := alloc_keeps w1; (try simp only [World.size_alloc] at hc hf hz); (try simp only [World.size_setCell] at hc hf hz); (try simp only [World.size_drew] at hc hf hz)
  rw [HZ.out.1, HZ.out.2]
  go_wp2_with fail
  obtain ⟨Oz, hO⟩ : ∃ O, O = w1.heap.size := ⟨_, rfl⟩
  rw [← hO]
  refine calls_name (fun V => Ext w V ∧ V.cell? ⟨Oc, 0, none⟩ = some (.int .i64 (X : Int)) ∧ V.cell? ⟨Oc, 1, none⟩ = some (.int .i64 (Y : Int)) ∧ V.cell? ⟨Oz, 0, none⟩ = some (.int .i64 (Zx : Int)) ∧ V.cell? ⟨Oz, 1, none⟩ = some (.int .i64 (Zy : Int))) ⟨hE.trans (by first | exact hb | exact Ext.alloc hb _ | exact Ext.alloc (Ext.alloc hb _) _), Ext.cell (by first | exact hb | exact Ext.alloc hb _ | exact Ext.alloc (Ext.alloc hb _) _) cOcx, Ext.cell (by first | exact hb | exact Ext.alloc hb _ | exact Ext.alloc (Ext.alloc hb _) _) cOcy, by rw [hO]; simp [go_sem], by rw [hO]; simp [go_sem]⟩ ?_
  clear hE cQx cQy cOcx cOcy lcQx lcQy lcOcx lcOcy hb hc hf hz ha hO
  rintro V ⟨hE, cOcx, cOcy, cOzx, cOzy⟩
  have lcOcx := World.block_lt_of_cell? V _ cOcx
  have lcOcy := World.block_lt_of_cell? V _ cOcy
  have lcOzx := World.block_lt_of_cell? V _ cOzx
  have lcOzy := World.block_lt_of_cell? V _ cOzy
  refine (pick_c one 47 _ H1.out (by omega) (by omega)).mono ?_
  rintro e w' ⟨rfl, rfl⟩
  rw [HW.out]
  go_wp2_with fail
  refine (pick_c two _ _ H2.out (by omega) (by omega)).mono ?_
  rintro e w' ⟨rfl, rfl⟩
  rw [HU.out]
  go_wp2_with fail
  refine (pick_c low _ _ H3.out (by omega) (by omega)).mono ?_
  rintro e w' ⟨rfl, rfl⟩
  rw [HH.out]
  go_wp2_with fail
  refine (Box_r (X := X) (Y := Y) (W := W + 1) (H := H + 1) _ _ _ _ _ rfl rfl (by omega) (by omega) bX bY (by omega) (by omega)).mono ?_
  rintro e w1 ⟨Ba, ka, rfl, hB, hr, hv, hb⟩
  have hc := hb.cellE; have hf := hb.frozenE; have hz := hb.size; have ha := alloc_keeps w1; (try simp only [World.size_alloc] at hc hf hz); (try simp only [World.size_setCell] at hc hf hz); (try simp only [World.size_drew] at hc hf hz)
  clear hr hB
  go_wp2_with fail
  obtain ⟨Oa, hO⟩ : ∃ O, O = w1.heap.size := ⟨_, rfl⟩
  rw [← hO]
  refine calls_name (fun V => Ext w V ∧ V.cell? ⟨Oc, 0, none⟩ = some (.int .i64 (X : Int)) ∧ V.cell? ⟨Oc, 1, none⟩ = some (.int .i64 (Y : Int)) ∧ V.cell? ⟨Oz, 0, none⟩ = some (.int .i64 (Zx : Int)) ∧ V.cell? ⟨Oz, 1, none⟩ = some (.int .i64 (Zy : Int)) ∧ VA V Ba 0 (boxL X Y (W + 1) (H + 1)) ∧ V.cell? ⟨Oa, 0, none⟩ = some (.slice (some ⟨Ba, 0, none⟩) 24 ka)) ⟨hE.trans (by first | exact hb | exact Ext.alloc hb _ | exact Ext.alloc (Ext.alloc hb _) _), Ext.cell (by first | exact hb | exact Ext.alloc hb _ | exact Ext.alloc (Ext.alloc hb _) _) cOcx, Ext.cell (by first | exact hb | exact Ext.alloc hb _ | exact Ext.alloc (Ext.alloc hb _) _) cOcy, Ext.cell (by first | exact hb | exact Ext.alloc hb _ | exact Ext.alloc (Ext.alloc hb _) _) cOzx, Ext.cell (by first | exact hb | exact Ext.alloc hb _ | exact Ext.alloc (Ext.alloc hb _) _) cOzy, hv.ext (by first | exact Ext.refl _ | exact Ext.alloc (Ext.refl _) _ | exact Ext.alloc (Ext.alloc (Ext.refl _) _) _), by rw [hO]; simp [go_sem]⟩ ?_
  clear hE cOcx cOcy cOzx cOzy lcOcx lcOcy lcOzx lcOzy hb hc hf hz ha hO hv
  rintro V ⟨hE, cOcx, cOcy, cOzx, cOzy, vBa, cOa⟩
  have lcOcx := World.block_lt_of_cell? V _ cOcx
  have lcOcy := World.block_lt_of_cell? V _ cOcy
  have lcOzx := World.block_lt_of_cell? V _ cOzx
  have lcOzy := World.block_lt_of_cell? V _ cOzy
  have lvBa := vBa.lt
  have lcOa := World.block_lt_of_cell? V _ cOa
  obtain ⟨X2, hX2⟩ : ∃ X2 : Nat, X2 = (X + (W + 1)) % 48 := ⟨_, rfl⟩
  have bX2 : X2 < 48 := by omega
  have HM := Lib.hid hX2; clear hX2
  refine (Box_r (X := X2) (Y := Y) (W := U + 1) (H := H + 1) _ _ _ _ _ (by have := HM.out; first | omega | (rw [Int.tmod_eq_emod_of_nonneg (by omega)]; omega)) rfl (by omega) (by omega) bX2 bY (by omega) (by omega)).mono ?_
  rintro e w1 ⟨Bb, kb, rfl, hB, hr, hv, hb⟩
  have hc := hb.cellE; have hf := hb.frozenE; have hz := hb.size; have ha := alloc_keeps w1; (try simp only [World.size_alloc] at hc hf hz); (try simp only [World.size_setCell] at hc hf hz); (try simp only [World.size_drew] at hc hf hz)
  clear hr hB
  go_wp2_with fail
  obtain ⟨Ob, hO⟩ : ∃ O, O = w1.heap.size := ⟨_, rfl⟩
  rw [← hO]
  refine calls_name (fun V => Ext w V ∧ V.cell? ⟨Oc, 0, none⟩ = some (.int .i64 (X : Int)) ∧ V.cell? ⟨Oc, 1, none⟩ = some (.int .i64 (Y : Int)) ∧ V.cell? ⟨Oz, 0, none⟩ = some (.int .i64 (Zx : Int)) ∧ V.cell? ⟨Oz, 1, none⟩ = some (.int .i64 (Zy : Int)) ∧ VA V Ba 0 (boxL X Y (W + 1) (H + 1)) ∧ V.cell? ⟨Oa, 0, none⟩ = some (.slice (some ⟨Ba, 0, none⟩) 24 ka) ∧ VA V Bb 0 (boxL X2 Y (U + 1) (H + 1)) ∧ V.cell? ⟨Ob, 0, none⟩ = some (.slice (some ⟨Bb, 0, none⟩) 24 kb)) ⟨hE.trans (by first | exact hb | exact Ext.alloc hb _ | exact Ext.alloc (Ext.alloc hb _) _), Ext.cell (by first | exact hb | exact Ext.alloc hb _ | exact Ext.alloc (Ext.alloc hb _) _) cOcx, Ext.cell (by first | exact hb | exact Ext.alloc hb _ | exact Ext.alloc (Ext.alloc hb _) _) cOcy, Ext.cell (by first | exact hb | exact Ext.alloc hb _ | exact Ext.alloc (Ext.alloc hb _) _) cOzx, Ext.cell (by first | exact hb | exact Ext.alloc hb _ | exact Ext.alloc (Ext.alloc hb _) _) cOzy, vBa.ext (by first | exact hb | exact Ext.alloc hb _ | exact Ext.alloc (Ext.alloc hb _) _), Ext.cell (by first | exact hb | exact Ext.alloc hb _ | exact Ext.alloc (Ext.alloc hb _) _) cOa, hv.ext (by first | exact Ext.refl _ | exact Ext.alloc (Ext.refl _) _ | exact Ext.alloc (Ext.alloc (Ext.refl _) _) _), by rw [hO]; simp [go_sem]⟩ ?_
  clear hE cOcx cOcy cOzx cOzy vBa cOa lcOcx lcOcy lcOzx lcOzy lvBa lcOa hb hc hf hz ha hO hv
  rintro V ⟨hE, cOcx, cOcy, cOzx, cOzy, vBa, cOa, vBb, cOb⟩
  have lcOcx := World.block_lt_of_cell? V _ cOcx
  have lcOcy := World.block_lt_of_cell? V _ cOcy
  have lcOzx := World.block_lt_of_cell? V _ cOzx
  have lcOzy := World.block_lt_of_cell? V _ cOzy
  have lvBa := vBa.lt
  have lcOa := World.block_lt_of_cell? V _ cOa
  have lvBb := vBb.lt
  have lcOb := World.block_lt_of_cell? V _ cOb
  refine (Union_v ka kb _ vBa (Ext.refl _) vBb (Ext.refl _)).mono ?_
  rintro e w1 ⟨Bu, ku, rfl, hB, hr, hv, hb⟩
  have hc := hb.cellE; have hf := hb.frozenE; have hz := hb.size; have ha := alloc_keeps w1; (try simp only [World.size_alloc] at hc hf hz); (try simp only [World.size_setCell] at hc hf hz); (try simp only [World.size_drew] at hc hf hz)
  clear hr hB
  go_wp2_with fail
  obtain ⟨Ou, hO⟩ : ∃ O, O = w1.heap.size := ⟨_, rfl⟩
  rw [← hO]
  refine calls_name (fun V => Ext w V ∧ V.cell? ⟨Oc, 0, none⟩ = some (.int .i64 (X : Int)) ∧ V.cell? ⟨Oc, 1, none⟩ = some (.int .i64 (Y : Int)) ∧ V.cell? ⟨Oz, 0, none⟩ = some (.int .i64 (Zx : Int)) ∧ V.cell? ⟨Oz, 1, none⟩ = some (.int .i64 (Zy : Int)) ∧ VA V Ba 0 (boxL X Y (W + 1) (H + 1)) ∧ V.cell? ⟨Oa, 0, none⟩ = some (.slice (some ⟨Ba, 0, none⟩) 24 ka) ∧ VA V Bb 0 (boxL X2 Y (U + 1) (H + 1)) ∧ V.cell? ⟨Ob, 0, none⟩ = some (.slice (some ⟨Bb, 0, none⟩) 24 kb) ∧ VA V Bu 0 (unionL (boxL X Y (W + 1) (H + 1)) (boxL X2 Y (U + 1) (H + 1))) ∧ V.cell? ⟨Ou, 0, none⟩ = some (.slice (some ⟨Bu, 0, none⟩) 24 ku)) ⟨hE.trans (by first | exact hb | exact Ext.alloc hb _ | exact Ext.alloc (Ext.alloc hb _) _), Ext.cell (by first | exact hb | exact Ext.alloc hb _ | exact Ext.alloc (Ext.alloc hb _) _) cOcx, Ext.cell (by first | exact hb | exact Ext.alloc hb _ | exact Ext.alloc (Ext.alloc hb _) _) cOcy, Ext.cell (by first | exact hb | exact Ext.alloc hb _ | exact Ext.alloc (Ext.alloc hb _) _) cOzx, Ext.cell (by first | exact hb | exact Ext.alloc hb _ | exact Ext.alloc (Ext.alloc hb _) _) cOzy, vBa.ext (by first | exact hb | exact Ext.alloc hb _ | exact Ext.alloc (Ext.alloc hb _) _), Ext.cell (by first | exact hb | exact Ext.alloc hb _ | exact Ext.alloc (Ext.alloc hb _) _) cOa, vBb.ext (by first | exact hb | exact Ext.alloc hb _ | exact Ext.alloc (Ext.alloc hb _) _), Ext.cell (by first | exact hb | exact Ext.alloc hb _ | exact Ext.alloc (Ext.alloc hb _) _) cOb, hv.ext (by first | exact Ext.refl _ | exact Ext.alloc (Ext.refl _) _ | exact Ext.alloc (Ext.alloc (Ext.refl _) _) _), by rw [hO]; simp [go_sem]⟩ ?_
  clear hE cOcx cOcy cOzx cOzy vBa cOa vBb cOb lcOcx lcOcy lcOzx lcOzy lvBa lcOa lvBb lcOb hb hc hf hz ha hO hv
  rintro V ⟨hE, cOcx, cOcy, cOzx, cOzy, vBa, cOa, vBb, cOb, vBu, cOu⟩
  have lcOcx := World.block_lt_of_cell? V _ cOcx
  have lcOcy := World.block_lt_of_cell? V _ cOcy
  have lcOzx := World.block_lt_of_cell? V _ cOzx
  have lcOzy := World.block_lt_of_cell? V _ cOzy
  have lvBa := vBa.lt
  have lcOa := World.block_lt_of_cell? V _ cOa
  have lvBb := vBb.lt
  have lcOb := World.block_lt_of_cell? V _ cOb
  have lvBu := vBu.lt
  have lcOu := World.block_lt_of_cell? V _ cOu
  refine (Box_r (X := X) (Y := Y) (W := W + 1 + (U + 1)) (H := H + 1) _ _ _ _ _ rfl rfl (by omega) (by omega) bX bY (by omega) (by omega)).mono ?_
  rintro e w1 ⟨Bl, kl, rfl, hB, hr, hv, hb⟩
  have hc := hb.cellE; have hf := hb.frozenE; have hz := hb.size; have ha := alloc_keeps w1; (try simp only [World.size_alloc] at hc hf hz); (try simp only [World.size_setCell] at hc hf hz); (try simp only [World.size_drew] at hc hf hz)
  clear hr hB
  go_wp2_with fail
  obtain ⟨Ol, hO⟩ : ∃ O, O = w1.heap.size := ⟨_, rfl⟩
  rw [← hO]
  refine calls_name (fun V => Ext w V ∧ V.cell? ⟨Oc, 0, none⟩ = some (.int .i64 (X : Int)) ∧ V.cell? ⟨Oc, 1, none⟩ = some (.int .i64 (Y : Int)) ∧ V.cell? ⟨Oz, 0, none⟩ = some (.int .i64 (Zx : Int)) ∧ V.cell? ⟨Oz, 1, none⟩ = some (.int .i64 (Zy : Int)) ∧ VA V Ba 0 (boxL X Y (W + 1) (H + 1)) ∧ V.cell? ⟨Oa, 0, none⟩ = some (.slice (some ⟨Ba, 0, none⟩) 24 ka) ∧ VA V Bb 0 (boxL X2 Y (U + 1) (H + 1)) ∧ V.cell? ⟨Ob, 0, none⟩ = some (.slice (some ⟨Bb, 0, none⟩) 24 kb) ∧ VA V Bu 0 (unionL (boxL X Y (W + 1) (H + 1)) (boxL X2 Y (U + 1) (H + 1))) ∧ V.cell? ⟨Ou, 0, none⟩ = some (.slice (some ⟨Bu, 0, none⟩) 24 ku) ∧ VA V Bl 0 (boxL X Y (W + 1 + (U + 1)) (H + 1)) ∧ V.cell? ⟨Ol, 0, none⟩ = some (.slice (some ⟨Bl, 0, none⟩) 24 kl)) ⟨hE.trans (by first | exact hb | exact Ext.alloc hb _ | exact Ext.alloc (Ext.alloc hb _) _), Ext.cell (by first | exact hb | exact Ext.alloc hb _ | exact Ext.alloc (Ext.alloc hb _) _) cOcx, Ext.cell (by first | exact hb | exact Ext.alloc hb _ | exact Ext.alloc (Ext.alloc hb _) _) cOcy, Ext.cell (by first | exact hb | exact Ext.alloc hb _ | exact Ext.alloc (Ext.alloc hb _) _) cOzx, Ext.cell (by first | exact hb | exact Ext.alloc hb _ | exact Ext.alloc (Ext.alloc hb _) _) cOzy, vBa.ext (by first | exact hb | exact Ext.alloc hb _ | exact Ext.alloc (Ext.alloc hb _) _), Ext.cell (by first | exact hb | exact Ext.alloc hb _ | exact Ext.alloc (Ext.alloc hb _) _) cOa, vBb.ext (by first | exact hb | exact Ext.alloc hb _ | exact Ext.alloc (Ext.alloc hb _) _), Ext.cell (by first | exact hb | exact Ext.alloc hb _ | exact Ext.alloc (Ext.alloc hb _) _) cOb, vBu.ext (by first | exact hb | exact Ext.alloc hb _ | exact Ext.alloc (Ext.alloc hb _) _), Ext.cell (by first | exact hb | exact Ext.alloc hb _ | exact Ext.alloc (Ext.alloc hb _) _) cOu, hv.ext (by first | exact Ext.refl _ | exact Ext.alloc (Ext.refl _) _ | exact Ext.alloc (Ext.alloc (Ext.refl _) _) _), by rw [hO]; simp [go_sem]⟩ ?_
  clear hE cOcx cOcy cOzx cOzy vBa cOa vBb cOb vBu cOu lcOcx lcOcy lcOzx lcOzy lvBa lcOa lvBb lcOb lvBu lcOu hb hc hf hz ha hO hv
  rintro V ⟨hE, cOcx, cOcy, cOzx, cOzy, vBa, cOa, vBb, cOb, vBu, cOu, vBl, cOl⟩
  have lcOcx := World.block_lt_of_cell? V _ cOcx
  have lcOcy := World.block_lt_of_cell? V _ cOcy
  have lcOzx := World.block_lt_of_cell? V _ cOzx
  have lcOzy := World.block_lt_of_cell? V _ cOzy
  have lvBa := vBa.lt
  have lcOa := World.block_lt_of_cell? V _ cOa
  have lvBb := vBb.lt
  have lcOb := World.block_lt_of_cell? V _ cOb
  have lvBu := vBu.lt
  have lcOu := World.block_lt_of_cell? V _ cOu
  have lvBl := vBl.lt
  have lcOl := World.block_lt_of_cell? V _ cOl
  obtain ⟨n1, hn1⟩ : ∃ n1 : Nat, (W + 1) * (H + 1) = n1 := ⟨_, rfl⟩
  obtain ⟨n2, hn2⟩ : ∃ n2 : Nat, (W + 1 + (U + 1)) * (H + 1) = n2 := ⟨_, rfl⟩
  have g1 : n1 ≤ 48 * 24 := by rw [← hn1]; exact Nat.mul_le_mul (by omega) (by omega)
  have g2 : n2 ≤ 48 * 24 := by rw [← hn2]; exact Nat.mul_le_mul (by omega) (by omega)
  have q1 : (1 + (W : Int)) * (1 + (H : Int)) = (n1 : Int) := by rw [← hn1]; push_cast; rw [Int.add_comm 1, Int.add_comm 1]
  have q2 : (1 + (W : Int) + (1 + (U : Int))) * (1 + (H : Int)) = (n2 : Int) := by rw [← hn2]; push_cast; rw [Int.add_comm 1 (W : Int), Int.add_comm 1 (U : Int), Int.add_comm 1 (H : Int)]
  have k1 : IntKind.i64.wrap ((1 + (W : Int)) * (1 + (H : Int))) = (n1 : Int) := by rw [q1, IntKind.wrap_i64]; omega
  have k2 : IntKind.i64.wrap ((1 + (W : Int) + (1 + (U : Int))) * (1 + (H : Int))) = (n2 : Int) := by rw [q2, IntKind.wrap_i64]; omega
  have hc1 := (count_box (cx := X) (cy := Y) (wide := W + 1) (high := H + 1) bX (by omega) (by omega)).trans hn1
  have hc2 := (count_box (cx := X) (cy := Y) (wide := W + 1 + (U + 1)) (high := H + 1) bX (by omega) (by omega)).trans hn2
  have hs := box_side (cy := Y) (h := H + 1) bX bX2 (show W + 1 + (U + 1) ≤ 48 by omega) HM.out
  clear hn1 hn2 q1 q2
  have HC1 := Lib.hid hc1; have HC2 := Lib.hid hc2; have HS := Lib.hid hs; clear hc1 hc2 hs
  refine (Count_r ka _ vBa (Ext.refl _) (HT.out.ext hE) HC1.out).mono ?_
  rintro e w1 ⟨rfl, hb⟩
  have hc := hb.cellE; have hf := hb.frozenE; have hz := hb.size; have ha := alloc_keeps w1; (try simp only [World.size_alloc] at hc hf hz); (try simp only [World.size_setCell] at hc hf hz); (try simp only [World.size_drew] at hc hf hz)
  go_wp2_with fail
  refine calls_name (fun V => Ext w V ∧ V.cell? ⟨Oc, 0, none⟩ = some (.int .i64 (X : Int)) ∧ V.cell? ⟨Oc, 1, none⟩ = some (.int .i64 (Y : Int)) ∧ V.cell? ⟨Oz, 0, none⟩ = some (.int .i64 (Zx : Int)) ∧ V.cell? ⟨Oz, 1, none⟩ = some (.int .i64 (Zy : Int)) ∧ VA V Ba 0 (boxL X Y (W + 1) (H + 1)) ∧ V.cell? ⟨Oa, 0, none⟩ = some (.slice (some ⟨Ba, 0, none⟩) 24 ka) ∧ VA V Bb 0 (boxL X2 Y (U + 1) (H + 1)) ∧ V.cell? ⟨Ob, 0, none⟩ = some (.slice (some ⟨Bb, 0, none⟩) 24 kb) ∧ VA V Bu 0 (unionL (boxL X Y (W + 1) (H + 1)) (boxL X2 Y (U + 1) (H + 1))) ∧ V.cell? ⟨Ou, 0, none⟩ = some (.slice (some ⟨Bu, 0, none⟩) 24 ku) ∧ VA V Bl 0 (boxL X Y (W + 1 + (U + 1)) (H + 1)) ∧ V.cell? ⟨Ol, 0, none⟩ = some (.slice (some ⟨Bl, 0, none⟩) 24 kl)) ⟨hE.trans (by first | exact hb | exact Ext.alloc hb _ | exact Ext.alloc (Ext.alloc hb _) _), Ext.cell (by first | exact hb | exact Ext.alloc hb _ | exact Ext.alloc (Ext.alloc hb _) _) cOcx, Ext.cell (by first | exact hb | exact Ext.alloc hb _ | exact Ext.alloc (Ext.alloc hb _) _) cOcy, Ext.cell (by first | exact hb | exact Ext.alloc hb _ | exact Ext.alloc (Ext.alloc hb _) _) cOzx, Ext.cell (by first | exact hb | exact Ext.alloc hb _ | exact Ext.alloc (Ext.alloc hb _) _) cOzy, vBa.ext (by first | exact hb | exact Ext.alloc hb _ | exact Ext.alloc (Ext.alloc hb _) _), Ext.cell (by first | exact hb | exact Ext.alloc hb _ | exact Ext.alloc (Ext.alloc hb _) _) cOa, vBb.ext (by first | exact hb | exact Ext.alloc hb _ | exact Ext.alloc (Ext.alloc hb _) _), Ext.cell (by first | exact hb | exact Ext.alloc hb _ | exact Ext.alloc (Ext.alloc hb _) _) cOb, vBu.ext (by first | exact hb | exact Ext.alloc hb _ | exact Ext.alloc (Ext.alloc hb _) _), Ext.cell (by first | exact hb | exact Ext.alloc hb _ | exact Ext.alloc (Ext.alloc hb _) _) cOu, vBl.ext (by first | exact hb | exact Ext.alloc hb _ | exact Ext.alloc (Ext.alloc hb _) _), Ext.cell (by first | exact hb | exact Ext.alloc hb _ | exact Ext.alloc (Ext.alloc hb _) _) cOl⟩ ?_
  clear hE cOcx cOcy cOzx cOzy vBa cOa vBb cOb vBu cOu vBl cOl lcOcx lcOcy lcOzx lcOzy lvBa lcOa lvBb lcOb lvBu lcOu lvBl lcOl hb hc hf hz ha
  rintro V ⟨hE, cOcx, cOcy, cOzx, cOzy, vBa, cOa, vBb, cOb, vBu, cOu, vBl, cOl⟩
  have lcOcx := World.block_lt_of_cell? V _ cOcx
  have lcOcy := World.block_lt_of_cell? V _ cOcy
  have lcOzx := World.block_lt_of_cell? V _ cOzx
  have lcOzy := World.block_lt_of_cell? V _ cOzy
  have lvBa := vBa.lt
  have lcOa := World.block_lt_of_cell? V _ cOa
  have lvBb := vBb.lt
  have lcOb := World.block_lt_of_cell? V _ cOb
  have lvBu := vBu.lt
  have lcOu := World.block_lt_of_cell? V _ cOu
  have lvBl := vBl.lt
  have lcOl := World.block_lt_of_cell? V _ cOl
  refine (rSame_r ku kl _ vBu (Ext.refl _) vBl (Ext.refl _) (decide_eq_true HS.out)).mono ?_
  rintro e w1 ⟨rfl, hb⟩
  have hc := hb.cellE; have hf := hb.frozenE; have hz := hb.size; have ha := alloc_keeps w1; (try simp only [World.size_alloc] at hc hf hz); (try simp only [World.size_setCell] at hc hf hz); (try simp only [World.size_drew] at hc hf hz)
  go_wp2_with fail
  refine calls_name (fun V => Ext w V ∧ V.cell? ⟨Oc, 0, none⟩ = some (.int .i64 (X : Int)) ∧ V.cell? ⟨Oc, 1, none⟩ = some (.int .i64 (Y : Int)) ∧ V.cell? ⟨Oz, 0, none⟩ = some (.int .i64 (Zx : Int)) ∧ V.cell? ⟨Oz, 1, none⟩ = some (.int .i64 (Zy : Int)) ∧ VA V Ba 0 (boxL X Y (W + 1) (H + 1)) ∧ V.cell? ⟨Oa, 0, none⟩ = some (.slice (some ⟨Ba, 0, none⟩) 24 ka) ∧ VA V Bb 0 (boxL X2 Y (U + 1) (H + 1)) ∧ V.cell? ⟨Ob, 0, none⟩ = some (.slice (some ⟨Bb, 0, none⟩) 24 kb) ∧ VA V Bu 0 (unionL (boxL X Y (W + 1) (H + 1)) (boxL X2 Y (U + 1) (H + 1))) ∧ V.cell? ⟨Ou, 0, none⟩ = some (.slice (some ⟨Bu, 0, none⟩) 24 ku) ∧ VA V Bl 0 (boxL X Y (W + 1 + (U + 1)) (H + 1)) ∧ V.cell? ⟨Ol, 0, none⟩ = some (.slice (some ⟨Bl, 0, none⟩) 24 kl)) ⟨hE.trans (by first | exact hb | exact Ext.alloc hb _ | exact Ext.alloc (Ext.alloc hb _) _), Ext.cell (by first | exact hb | exact Ext.alloc hb _ | exact Ext.alloc (Ext.alloc hb _) _) cOcx, Ext.cell (by first | exact hb | exact Ext.alloc hb _ | exact Ext.alloc (Ext.alloc hb _) _) cOcy, Ext.cell (by first | exact hb | exact Ext.alloc hb _ | exact Ext.alloc (Ext.alloc hb _) _) cOzx, Ext.cell (by first | exact hb | exact Ext.alloc hb _ | exact Ext.alloc (Ext.alloc hb _) _) cOzy, vBa.ext (by first | exact hb | exact Ext.alloc hb _ | exact Ext.alloc (Ext.alloc hb _) _), Ext.cell (by first | exact hb | exact Ext.alloc hb _ | exact Ext.alloc (Ext.alloc hb _) _) cOa, vBb.ext (by first | exact hb | exact Ext.alloc hb _ | exact Ext.alloc (Ext.alloc hb _) _), Ext.cell (by first | exact hb | exact Ext.alloc hb _ | exact Ext.alloc (Ext.alloc hb _) _) cOb, vBu.ext (by first | exact hb | exact Ext.alloc hb _ | exact Ext.alloc (Ext.alloc hb _) _), Ext.cell (by first | exact hb | exact Ext.alloc hb _ | exact Ext.alloc (Ext.alloc hb _) _) cOu, vBl.ext (by first | exact hb | exact Ext.alloc hb _ | exact Ext.alloc (Ext.alloc hb _) _), Ext.cell (by first | exact hb | exact Ext.alloc hb _ | exact Ext.alloc (Ext.alloc hb _) _) cOl⟩ ?_
  clear hE cOcx cOcy cOzx cOzy vBa cOa vBb cOb vBu cOu vBl cOl lcOcx lcOcy lcOzx lcOzy lvBa lcOa lvBb lcOb lvBu lcOu lvBl lcOl hb hc hf hz ha
  rintro V ⟨hE, cOcx, cOcy, cOzx, cOzy, vBa, cOa, vBb, cOb, vBu, cOu, vBl, cOl⟩
  have lcOcx := World.block_lt_of_cell? V _ cOcx
  have lcOcy := World.block_lt_of_cell? V _ cOcy
  have lcOzx := World.block_lt_of_cell? V _ cOzx
  have lcOzy := World.block_lt_of_cell? V _ cOzy
  have lvBa := vBa.lt
  have lcOa := World.block_lt_of_cell? V _ cOa
  have lvBb := vBb.lt
  have lcOb := World.block_lt_of_cell? V _ cOb
  have lvBu := vBu.lt
  have lcOu := World.block_lt_of_cell? V _ cOu
  have lvBl := vBl.lt
  have lcOl := World.block_lt_of_cell? V _ cOl
  refine (Count_r kl _ vBl (Ext.refl _) (HT.out.ext hE) HC2.out).mono ?_
  rintro e w1 ⟨rfl, hb⟩
  have hc := hb.cellE; have hf := hb.frozenE; have hz := hb.size; have ha := alloc_keeps w1; (try simp only [World.size_alloc] at hc hf hz); (try simp only [World.size_setCell] at hc hf hz); (try simp only [World.size_drew] at hc hf hz)
  go_wp2_with fail
  refine wp_name (fun V => Ext w V ∧ V.cell? ⟨Oc, 0, none⟩ = some (.int .i64 (X : Int)) ∧ V.cell? ⟨Oc, 1, none⟩ = some (.int .i64 (Y : Int)) ∧ V.cell? ⟨Oz, 0, none⟩ = some (.int .i64 (Zx : Int)) ∧ V.cell? ⟨Oz, 1, none⟩ = some (.int .i64 (Zy : Int)) ∧ VA V Ba 0 (boxL X Y (W + 1) (H + 1)) ∧ V.cell? ⟨Oa, 0, none⟩ = some (.slice (some ⟨Ba, 0, none⟩) 24 ka)) ⟨hE.trans (by first | exact hb | exact Ext.alloc hb _ | exact Ext.alloc (Ext.alloc hb _) _), Ext.cell (by first | exact hb | exact Ext.alloc hb _ | exact Ext.alloc (Ext.alloc hb _) _) cOcx, Ext.cell (by first | exact hb | exact Ext.alloc hb _ | exact Ext.alloc (Ext.alloc hb _) _) cOcy, Ext.cell (by first | exact hb | exact Ext.alloc hb _ | exact Ext.alloc (Ext.alloc hb _) _) cOzx, Ext.cell (by first | exact hb | exact Ext.alloc hb _ | exact Ext.alloc (Ext.alloc hb _) _) cOzy, vBa.ext (by first | exact hb | exact Ext.alloc hb _ | exact Ext.alloc (Ext.alloc hb _) _), Ext.cell (by first | exact hb | exact Ext.alloc hb _ | exact Ext.alloc (Ext.alloc hb _) _) cOa⟩ ?_
  clear hE cOcx cOcy cOzx cOzy vBa cOa vBb cOb vBu cOu vBl cOl lcOcx lcOcy lcOzx lcOzy lvBa lcOa lvBb lcOb lvBu lcOu lvBl lcOl hb hc hf hz ha
  rintro V ⟨hE, cOcx, cOcy, cOzx, cOzy, vBa, cOa⟩
  have lcOcx := World.block_lt_of_cell? V _ cOcx
  have lcOcy := World.block_lt_of_cell? V _ cOcy
  have lcOzx := World.block_lt_of_cell? V _ cOzx
  have lcOzy := World.block_lt_of_cell? V _ cOzy
  have lvBa := vBa.lt
  have lcOa := World.block_lt_of_cell? V _ cOa
  obtain ⟨r, hr⟩ : ∃ r, hasL (boxL X Y (W + 1) (H + 1)) Zx Zy = r := ⟨_, rfl⟩
  have hd := hr
  rw [has_box bX (by omega) bZx bZy] at hd
  have Hr := Lib.hid hr; clear hr
  have w14 : IntKind.i64.wrap ((Y : Int) + (1 + (H : Int))) = (Y : Int) + (1 + (H : Int)) := by rw [IntKind.wrap_i64]; omega
  have w20 : IntKind.i64.wrap ((Zx : Int) + 48) = (Zx : Int) + 48 := by rw [IntKind.wrap_i64]; omega
  have w23 : IntKind.i64.wrap ((Zx : Int) + 48 - (X : Int)) = (Zx : Int) + 48 - (X : Int) := by rw [IntKind.wrap_i64]; omega
  have HA := Lib.hid w14; have HB := Lib.hid w20; have HC := Lib.hid w23; clear w14 w20 w23
  go_cut [154] from 126 to 154 (fun s V => s = .bool false ∧ Ext w V ∧ V.cell? ⟨Oc, 0, none⟩ = some (.int .i64 (X : Int)) ∧ V.cell? ⟨Oc, 1, none⟩ = some (.int .i64 (Y : Int)) ∧ VA V Ba 0 (boxL X Y (W + 1) (H + 1)) ∧ V.cell? ⟨Oa, 0, none⟩ = some (.slice (some ⟨Ba, 0, none⟩) 24 ka))
  case first =>
    by_cases hy1 : Y ≤ Zy
    · by_cases hy2 : Zy < Y + (H + 1)
      · have hm0 : ((Zx : Int) + 48 - (X : Int)).tmod 48 = (((Zx + 48 - X) % 48 : Nat) : Int) := by rw [Int.tmod_eq_emod_of_nonneg (by omega)]; omega
        obtain ⟨m, hm⟩ : ∃ m, (Zx + 48 - X) % 48 = m := ⟨_, rfl⟩
        have bm : m < 48 := by omega
        rw [hm] at hm0 hd
        by_cases hx : m < W + 1
        · rw [decide_eq_true (And.intro hy1 hy2), decide_eq_true hx] at hd
          subst hd
          have HM0 := Lib.hid hm0; clear hm0 hm
          refine wp_region_held_drew (S := fun w' => Ext V w' ∧ w'.cell? ⟨Oa, 0, none⟩ = some (.slice (some ⟨Ba, 0, none⟩) 24 ka) ∧ w'.cell? ⟨Oc, 0, none⟩ = some (.int .i64 (X : Int)) ∧ w'.cell? ⟨Oc, 1, none⟩ = some (.int .i64 (Y : Int)) ∧ w'.cell? ⟨Oz, 0, none⟩ = some (.int .i64 (Zx : Int)) ∧ w'.cell? ⟨Oz, 1, none⟩ = some (.int .i64 (Zy : Int))) (by kernel_rfl) ⟨Ext.drew (Ext.refl _), cOa, cOcx, cOcy, cOzx, cOzy⟩ (fun hHeld => ?_)
          (refine rg_take 0 (v := ?_) rfl (by kernel_rfl) (by kernel_rfl) (by kernel_rfl) (fun _ _ _ h => h) (by kernel_rfl) ?_ (by with_reducible assumption) ?_; rotate_left; (focus (intro w hSw; (try dsimp only at hSw); go_simp; (try with_reducible rfl))); (try simp only [Act.put, List.setIfInBounds_toArray, List.set_cons_zero, List.set_cons_succ]))
          (refine rg_take 1 (v := ?_) rfl (by kernel_rfl) (by kernel_rfl) (by kernel_rfl) (fun _ _ _ h => h) (by kernel_rfl) ?_ (by with_reducible assumption) ?_; rotate_left; (focus (intro w hSw; (try dsimp only at hSw); go_simp; (try with_reducible rfl))); (try simp only [Act.put, List.setIfInBounds_toArray, List.set_cons_zero, List.set_cons_succ]))
          (refine rg_take 3 (v := ?_) rfl (by kernel_rfl) (by kernel_rfl) (by kernel_rfl) (fun _ _ _ h => h) (by kernel_rfl) ?_ (by with_reducible assumption) ?_; rotate_left; (focus (intro w hSw; (try dsimp only at hSw); go_simp; (try with_reducible rfl))); (try simp only [Act.put, List.setIfInBounds_toArray, List.set_cons_zero, List.set_cons_succ]))
          (refine rg_take 4 (v := ?_) rfl (by kernel_rfl) (by kernel_rfl) (by kernel_rfl) (fun _ _ _ h => h) (by kernel_rfl) ?_ (by with_reducible assumption) ?_; rotate_left; (focus (intro w hSw; (try dsimp only at hSw); go_simp; (try with_reducible rfl))); (try simp only [Act.put, List.setIfInBounds_toArray, List.set_cons_zero, List.set_cons_succ]))
          (refine rg_take 5 (v := ?_) rfl (by kernel_rfl) (by kernel_rfl) (by kernel_rfl) (fun _ _ _ h => h) (by kernel_rfl) ?_ (by with_reducible assumption) ?_; rotate_left; (focus (intro w hSw; (try dsimp only at hSw); go_simp; (try with_reducible rfl))); (try simp only [Act.put, List.setIfInBounds_toArray, List.set_cons_zero, List.set_cons_succ]))
          (refine rg_take 6 (v := ?_) rfl (by kernel_rfl) (by kernel_rfl) (by kernel_rfl) (fun _ _ _ h => h) (by kernel_rfl) ?_ (by with_reducible assumption) ?_; rotate_left; (focus (intro w hSw; (try dsimp only at hSw); go_simp; (try with_reducible rfl))); (try simp only [Act.put, List.setIfInBounds_toArray, List.set_cons_zero, List.set_cons_succ]))
          (refine rg_take 7 (v := ?_) rfl (by kernel_rfl) (by kernel_rfl) (by kernel_rfl) (fun _ _ _ h => h) (by kernel_rfl) ?_ (by with_reducible assumption) ?_; rotate_left; (focus (intro w hSw; (try dsimp only at hSw); go_simp; (try with_reducible rfl))); (try simp only [Act.put, List.setIfInBounds_toArray, List.set_cons_zero, List.set_cons_succ]))
          (refine rg_step 2 rfl (by kernel_rfl) (by kernel_rfl) (fun K hK => ?_); go_simp; (go_at_call 31; refine (Has_r _ _ vBa hHeld.1 bZx bZy Hr.out).mono ?_; rintro e w1 ⟨rfl, hb⟩); refine hK.out _ _ (⟨hHeld.1.trans hb, hb.cell hHeld.2.1, hb.cell hHeld.2.2.1, hb.cell hHeld.2.2.2.1, hb.cell hHeld.2.2.2.2.1, hb.cell hHeld.2.2.2.2.2⟩) (fun hHeld => ?_); clear hK K; (try simp only [Act.put, List.setIfInBounds_toArray, List.set_cons_zero, List.set_cons_succ]))
          (refine rg_take 8 (v := ?_) rfl (by kernel_rfl) (by kernel_rfl) (by kernel_rfl) (fun _ _ _ h => h) (by kernel_rfl) ?_ (by with_reducible assumption) ?_; rotate_left; (focus (intro w hSw; (try dsimp only at hSw); go_simp; (try with_reducible rfl))); (try simp only [Act.put, List.setIfInBounds_toArray, List.set_cons_zero, List.set_cons_succ]))
          (refine rg_take 9 (v := ?_) rfl (by kernel_rfl) (by kernel_rfl) (by kernel_rfl) (fun _ _ _ h => h) (by kernel_rfl) ?_ (by with_reducible assumption) ?_; rotate_left; (focus (intro w hSw; (try dsimp only at hSw); go_simp; (try with_reducible rfl))); (try simp only [Act.put, List.setIfInBounds_toArray, List.set_cons_zero, List.set_cons_succ]))
          (refine rg_take 10 (v := ?_) rfl (by kernel_rfl) (by kernel_rfl) (by kernel_rfl) (fun _ _ _ h => h) (by kernel_rfl) ?_ (by with_reducible assumption) ?_; rotate_left; (focus (intro w hSw; (try dsimp only at hSw); go_simp; (try with_reducible rfl))); (try simp only [Act.put, List.setIfInBounds_toArray, List.set_cons_zero, List.set_cons_succ]))
          (refine rg_take 11 (v := ?_) rfl (by kernel_rfl) (by kernel_rfl) (by kernel_rfl) (fun _ _ _ h => h) (by kernel_rfl) ?_ (by with_reducible assumption) ?_; rotate_left; (focus (intro w hSw; (try dsimp only at hSw); go_simp; (try with_reducible rfl))); (try simp only [Act.put, List.setIfInBounds_toArray, List.set_cons_zero, List.set_cons_succ]))
          (refine rg_take 12 (v := ?_) rfl (by kernel_rfl) (by kernel_rfl) (by kernel_rfl) (fun _ _ _ h => h) (by kernel_rfl) ?_ (by with_reducible assumption) ?_; rotate_left; (focus (intro w hSw; (try dsimp only at hSw); go_simp; (try with_reducible rfl))); (try simp only [Act.put, List.setIfInBounds_toArray, List.set_cons_zero, List.set_cons_succ]))
          (refine rg_take 13 (v := ?_) rfl (by kernel_rfl) (by kernel_rfl) (by kernel_rfl) (fun _ _ _ h => h) (by kernel_rfl) ?_ (by with_reducible assumption) ?_; rotate_left; (focus (intro w hSw; (try dsimp only at hSw); go_simp; (try with_reducible rfl))); (try simp only [Act.put, List.setIfInBounds_toArray, List.set_cons_zero, List.set_cons_succ]))
          (refine rg_take 14 (v := ?_) rfl (by kernel_rfl) (by kernel_rfl) (by kernel_rfl) (fun _ _ _ h => h) (by kernel_rfl) ?_ (by with_reducible assumption) ?_; rotate_left; (focus (intro w hSw; (try dsimp only at hSw); have k0 := HA.out; go_simp; (try with_reducible rfl))); (try simp only [Act.put, List.setIfInBounds_toArray, List.set_cons_zero, List.set_cons_succ]))
          (refine rg_take 15 (v := ?_) rfl (by kernel_rfl) (by kernel_rfl) (by kernel_rfl) (fun _ _ _ h => h) (by kernel_rfl) ?_ (by with_reducible assumption) ?_; rotate_left; (focus (intro w hSw; (try dsimp only at hSw); have k0 : ((Zy : Int) < (Y : Int) + (1 + (H : Int))) := (by omega); go_simp; (try with_reducible rfl))); (try simp only [Act.put, List.setIfInBounds_toArray, List.set_cons_zero, List.set_cons_succ]))
          (refine rg_take 16 (v := ?_) rfl (by kernel_rfl) (by kernel_rfl) (by kernel_rfl) (fun _ _ _ h => h) (by kernel_rfl) ?_ (by with_reducible assumption) ?_; rotate_left; (focus (intro w hSw; (try dsimp only at hSw); go_simp; (try with_reducible rfl))); (try simp only [Act.put, List.setIfInBounds_toArray, List.set_cons_zero, List.set_cons_succ]))
          (refine rg_take 17 (v := ?_) rfl (by kernel_rfl) (by kernel_rfl) (by kernel_rfl) (fun _ _ _ h => h) (by kernel_rfl) ?_ (by with_reducible assumption) ?_; rotate_left; (focus (intro w hSw; (try dsimp only at hSw); go_simp; (try with_reducible rfl))); (try simp only [Act.put, List.setIfInBounds_toArray, List.set_cons_zero, List.set_cons_succ]))
          (refine rg_take 18 (v := ?_) rfl (by kernel_rfl) (by kernel_rfl) (by kernel_rfl) (fun _ _ _ h => h) (by kernel_rfl) ?_ (by with_reducible assumption) ?_; rotate_left; (focus (intro w hSw; (try dsimp only at hSw); go_simp; (try with_reducible rfl))); (try simp only [Act.put, List.setIfInBounds_toArray, List.set_cons_zero, List.set_cons_succ]))
          (refine rg_take 19 (v := ?_) rfl (by kernel_rfl) (by kernel_rfl) (by kernel_rfl) (fun _ _ _ h => h) (by kernel_rfl) ?_ (by with_reducible assumption) ?_; rotate_left; (focus (intro w hSw; (try dsimp only at hSw); go_simp; (try with_reducible rfl))); (try simp only [Act.put, List.setIfInBounds_toArray, List.set_cons_zero, List.set_cons_succ]))
          (refine rg_take 20 (v := ?_) rfl (by kernel_rfl) (by kernel_rfl) (by kernel_rfl) (fun _ _ _ h => h) (by kernel_rfl) ?_ (by with_reducible assumption) ?_; rotate_left; (focus (intro w hSw; (try dsimp only at hSw); have k0 := HB.out; go_simp; (try with_reducible rfl))); (try simp only [Act.put, List.setIfInBounds_toArray, List.set_cons_zero, List.set_cons_succ]))
          (refine rg_take 21 (v := ?_) rfl (by kernel_rfl) (by kernel_rfl) (by kernel_rfl) (fun _ _ _ h => h) (by kernel_rfl) ?_ (by with_reducible assumption) ?_; rotate_left; (focus (intro w hSw; (try dsimp only at hSw); go_simp; (try with_reducible rfl))); (try simp only [Act.put, List.setIfInBounds_toArray, List.set_cons_zero, List.set_cons_succ]))
          (refine rg_take 22 (v := ?_) rfl (by kernel_rfl) (by kernel_rfl) (by kernel_rfl) (fun _ _ _ h => h) (by kernel_rfl) ?_ (by with_reducible assumption) ?_; rotate_left; (focus (intro w hSw; (try dsimp only at hSw); go_simp; (try with_reducible rfl))); (try simp only [Act.put, List.setIfInBounds_toArray, List.set_cons_zero, List.set_cons_succ]))
          (refine rg_take 23 (v := ?_) rfl (by kernel_rfl) (by kernel_rfl) (by kernel_rfl) (fun _ _ _ h => h) (by kernel_rfl) ?_ (by with_reducible assumption) ?_; rotate_left; (focus (intro w hSw; (try dsimp only at hSw); have k0 := HC.out; go_simp; (try with_reducible rfl))); (try simp only [Act.put, List.setIfInBounds_toArray, List.set_cons_zero, List.set_cons_succ]))
          (refine rg_take 24 (v := ?_) rfl (by kernel_rfl) (by kernel_rfl) (by kernel_rfl) (fun _ _ _ h => h) (by kernel_rfl) ?_ (by with_reducible assumption) ?_; rotate_left; (focus (intro w hSw; (try dsimp only at hSw); have k0 := HM0.out; go_simp; (try with_reducible rfl))); (try simp only [Act.put, List.setIfInBounds_toArray, List.set_cons_zero, List.set_cons_succ]))
          (refine rg_take 25 (v := ?_) rfl (by kernel_rfl) (by kernel_rfl) (by kernel_rfl) (fun _ _ _ h => h) (by kernel_rfl) ?_ (by with_reducible assumption) ?_; rotate_left; (focus (intro w hSw; (try dsimp only at hSw); go_simp; (try with_reducible rfl))); (try simp only [Act.put, List.setIfInBounds_toArray, List.set_cons_zero, List.set_cons_succ]))
          (refine rg_take 26 (v := ?_) rfl (by kernel_rfl) (by kernel_rfl) (by kernel_rfl) (fun _ _ _ h => h) (by kernel_rfl) ?_ (by with_reducible assumption) ?_; rotate_left; (focus (intro w hSw; (try dsimp only at hSw); have k0 : ((m : Int) < 1 + (W : Int)) := (by omega); go_simp; (try with_reducible rfl))); (try simp only [Act.put, List.setIfInBounds_toArray, List.set_cons_zero, List.set_cons_succ]))
          (refine rg_take 27 (v := ?_) rfl (by kernel_rfl) (by kernel_rfl) (by kernel_rfl) (fun _ _ _ h => h) (by kernel_rfl) ?_ (by with_reducible assumption) ?_; rotate_left; (focus (intro w hSw; (try dsimp only at hSw); go_simp; (try with_reducible rfl))); (try simp only [Act.put, List.setIfInBounds_toArray, List.set_cons_zero, List.set_cons_succ]))
          (refine rg_take 28 (v := ?_) rfl (by kernel_rfl) (by kernel_rfl) (by kernel_rfl) (fun _ _ _ h => h) (by kernel_rfl) ?_ (by with_reducible assumption) ?_; rotate_left; (focus (intro w hSw; (try dsimp only at hSw); go_simp; (try with_reducible rfl))); (try simp only [Act.put, List.setIfInBounds_toArray, List.set_cons_zero, List.set_cons_succ]))
          refine wpAnyH_done (by kernel_rfl) ?_ _
          go_wp2_with fail
          go_meet
          have hb := hHeld.1
          refine ⟨rfl, hE.trans hb, hHeld.2.2.1, hHeld.2.2.2.1, vBa.ext hb, hHeld.2.1⟩
        · rw [decide_eq_true (And.intro hy1 hy2), decide_eq_false hx] at hd
          subst hd
          have HM0 := Lib.hid hm0; clear hm0 hm
          refine wp_region_held_drew (S := fun w' => Ext V w' ∧ w'.cell? ⟨Oa, 0, none⟩ = some (.slice (some ⟨Ba, 0, none⟩) 24 ka) ∧ w'.cell? ⟨Oc, 0, none⟩ = some (.int .i64 (X : Int)) ∧ w'.cell? ⟨Oc, 1, none⟩ = some (.int .i64 (Y : Int)) ∧ w'.cell? ⟨Oz, 0, none⟩ = some (.int .i64 (Zx : Int)) ∧ w'.cell? ⟨Oz, 1, none⟩ = some (.int .i64 (Zy : Int))) (by kernel_rfl) ⟨Ext.drew (Ext.refl _), cOa, cOcx, cOcy, cOzx, cOzy⟩ (fun hHeld => ?_)
          (refine rg_take 0 (v := ?_) rfl (by kernel_rfl) (by kernel_rfl) (by kernel_rfl) (fun _ _ _ h => h) (by kernel_rfl) ?_ (by with_reducible assumption) ?_; rotate_left; (focus (intro w hSw; (try dsimp only at hSw); go_simp; (try with_reducible rfl))); (try simp only [Act.put, List.setIfInBounds_toArray, List.set_cons_zero, List.set_cons_succ]))
          (refine rg_take 1 (v := ?_) rfl (by kernel_rfl) (by kernel_rfl) (by kernel_rfl) (fun _ _ _ h => h) (by kernel_rfl) ?_ (by with_reducible assumption) ?_; rotate_left; (focus (intro w hSw; (try dsimp only at hSw); go_simp; (try with_reducible rfl))); (try simp only [Act.put, List.setIfInBounds_toArray, List.set_cons_zero, List.set_cons_succ]))
          (refine rg_take 3 (v := ?_) rfl (by kernel_rfl) (by kernel_rfl) (by kernel_rfl) (fun _ _ _ h => h) (by kernel_rfl) ?_ (by with_reducible assumption) ?_; rotate_left; (focus (intro w hSw; (try dsimp only at hSw); go_simp; (try with_reducible rfl))); (try simp only [Act.put, List.setIfInBounds_toArray, List.set_cons_zero, List.set_cons_succ]))
          (refine rg_take 4 (v := ?_) rfl (by kernel_rfl) (by kernel_rfl) (by kernel_rfl) (fun _ _ _ h => h) (by kernel_rfl) ?_ (by with_reducible assumption) ?_; rotate_left; (focus (intro w hSw; (try dsimp only at hSw); go_simp; (try with_reducible rfl))); (try simp only [Act.put, List.setIfInBounds_toArray, List.set_cons_zero, List.set_cons_succ]))
          (refine rg_take 5 (v := ?_) rfl (by kernel_rfl) (by kernel_rfl) (by kernel_rfl) (fun _ _ _ h => h) (by kernel_rfl) ?_ (by with_reducible assumption) ?_; rotate_left; (focus (intro w hSw; (try dsimp only at hSw); go_simp; (try with_reducible rfl))); (try simp only [Act.put, List.setIfInBounds_toArray, List.set_cons_zero, List.set_cons_succ]))
          (refine rg_take 6 (v := ?_) rfl (by kernel_rfl) (by kernel_rfl) (by kernel_rfl) (fun _ _ _ h => h) (by kernel_rfl) ?_ (by with_reducible assumption) ?_; rotate_left; (focus (intro w hSw; (try dsimp only at hSw); go_simp; (try with_reducible rfl))); (try simp only [Act.put, List.setIfInBounds_toArray, List.set_cons_zero, List.set_cons_succ]))
          (refine rg_take 7 (v := ?_) rfl (by kernel_rfl) (by kernel_rfl) (by kernel_rfl) (fun _ _ _ h => h) (by kernel_rfl) ?_ (by with_reducible assumption) ?_; rotate_left; (focus (intro w hSw; (try dsimp only at hSw); go_simp; (try with_reducible rfl))); (try simp only [Act.put, List.setIfInBounds_toArray, List.set_cons_zero, List.set_cons_succ]))
          (refine rg_step 2 rfl (by kernel_rfl) (by kernel_rfl) (fun K hK => ?_); go_simp; (go_at_call 31; refine (Has_r _ _ vBa hHeld.1 bZx bZy Hr.out).mono ?_; rintro e w1 ⟨rfl, hb⟩); refine hK.out _ _ (⟨hHeld.1.trans hb, hb.cell hHeld.2.1, hb.cell hHeld.2.2.1, hb.cell hHeld.2.2.2.1, hb.cell hHeld.2.2.2.2.1, hb.cell hHeld.2.2.2.2.2⟩) (fun hHeld => ?_); clear hK K; (try simp only [Act.put, List.setIfInBounds_toArray, List.set_cons_zero, List.set_cons_succ]))
          (refine rg_take 8 (v := ?_) rfl (by kernel_rfl) (by kernel_rfl) (by kernel_rfl) (fun _ _ _ h => h) (by kernel_rfl) ?_ (by with_reducible assumption) ?_; rotate_left; (focus (intro w hSw; (try dsimp only at hSw); go_simp; (try with_reducible rfl))); (try simp only [Act.put, List.setIfInBounds_toArray, List.set_cons_zero, List.set_cons_succ]))
          (refine rg_take 9 (v := ?_) rfl (by kernel_rfl) (by kernel_rfl) (by kernel_rfl) (fun _ _ _ h => h) (by kernel_rfl) ?_ (by with_reducible assumption) ?_; rotate_left; (focus (intro w hSw; (try dsimp only at hSw); go_simp; (try with_reducible rfl))); (try simp only [Act.put, List.setIfInBounds_toArray, List.set_cons_zero, List.set_cons_succ]))
          (refine rg_take 10 (v := ?_) rfl (by kernel_rfl) (by kernel_rfl) (by kernel_rfl) (fun _ _ _ h => h) (by kernel_rfl) ?_ (by with_reducible assumption) ?_; rotate_left; (focus (intro w hSw; (try dsimp only at hSw); go_simp; (try with_reducible rfl))); (try simp only [Act.put, List.setIfInBounds_toArray, List.set_cons_zero, List.set_cons_succ]))
          (refine rg_take 11 (v := ?_) rfl (by kernel_rfl) (by kernel_rfl) (by kernel_rfl) (fun _ _ _ h => h) (by kernel_rfl) ?_ (by with_reducible assumption) ?_; rotate_left; (focus (intro w hSw; (try dsimp only at hSw); go_simp; (try with_reducible rfl))); (try simp only [Act.put, List.setIfInBounds_toArray, List.set_cons_zero, List.set_cons_succ]))
          (refine rg_take 12 (v := ?_) rfl (by kernel_rfl) (by kernel_rfl) (by kernel_rfl) (fun _ _ _ h => h) (by kernel_rfl) ?_ (by with_reducible assumption) ?_; rotate_left; (focus (intro w hSw; (try dsimp only at hSw); go_simp; (try with_reducible rfl))); (try simp only [Act.put, List.setIfInBounds_toArray, List.set_cons_zero, List.set_cons_succ]))
          (refine rg_take 13 (v := ?_) rfl (by kernel_rfl) (by kernel_rfl) (by kernel_rfl) (fun _ _ _ h => h) (by kernel_rfl) ?_ (by with_reducible assumption) ?_; rotate_left; (focus (intro w hSw; (try dsimp only at hSw); go_simp; (try with_reducible rfl))); (try simp only [Act.put, List.setIfInBounds_toArray, List.set_cons_zero, List.set_cons_succ]))
          (refine rg_take 14 (v := ?_) rfl (by kernel_rfl) (by kernel_rfl) (by kernel_rfl) (fun _ _ _ h => h) (by kernel_rfl) ?_ (by with_reducible assumption) ?_; rotate_left; (focus (intro w hSw; (try dsimp only at hSw); have k0 := HA.out; go_simp; (try with_reducible rfl))); (try simp only [Act.put, List.setIfInBounds_toArray, List.set_cons_zero, List.set_cons_succ]))
          (refine rg_take 15 (v := ?_) rfl (by kernel_rfl) (by kernel_rfl) (by kernel_rfl) (fun _ _ _ h => h) (by kernel_rfl) ?_ (by with_reducible assumption) ?_; rotate_left; (focus (intro w hSw; (try dsimp only at hSw); have k0 : ((Zy : Int) < (Y : Int) + (1 + (H : Int))) := (by omega); go_simp; (try with_reducible rfl))); (try simp only [Act.put, List.setIfInBounds_toArray, List.set_cons_zero, List.set_cons_succ]))
          (refine rg_take 16 (v := ?_) rfl (by kernel_rfl) (by kernel_rfl) (by kernel_rfl) (fun _ _ _ h => h) (by kernel_rfl) ?_ (by with_reducible assumption) ?_; rotate_left; (focus (intro w hSw; (try dsimp only at hSw); go_simp; (try with_reducible rfl))); (try simp only [Act.put, List.setIfInBounds_toArray, List.set_cons_zero, List.set_cons_succ]))
          (refine rg_take 17 (v := ?_) rfl (by kernel_rfl) (by kernel_rfl) (by kernel_rfl) (fun _ _ _ h => h) (by kernel_rfl) ?_ (by with_reducible assumption) ?_; rotate_left; (focus (intro w hSw; (try dsimp only at hSw); go_simp; (try with_reducible rfl))); (try simp only [Act.put, List.setIfInBounds_toArray, List.set_cons_zero, List.set_cons_succ]))
          (refine rg_take 18 (v := ?_) rfl (by kernel_rfl) (by kernel_rfl) (by kernel_rfl) (fun _ _ _ h => h) (by kernel_rfl) ?_ (by with_reducible assumption) ?_; rotate_left; (focus (intro w hSw; (try dsimp only at hSw); go_simp; (try with_reducible rfl))); (try simp only [Act.put, List.setIfInBounds_toArray, List.set_cons_zero, List.set_cons_succ]))
          (refine rg_take 19 (v := ?_) rfl (by kernel_rfl) (by kernel_rfl) (by kernel_rfl) (fun _ _ _ h => h) (by kernel_rfl) ?_ (by with_reducible assumption) ?_; rotate_left; (focus (intro w hSw; (try dsimp only at hSw); go_simp; (try with_reducible rfl))); (try simp only [Act.put, List.setIfInBounds_toArray, List.set_cons_zero, List.set_cons_succ]))
          (refine rg_take 20 (v := ?_) rfl (by kernel_rfl) (by kernel_rfl) (by kernel_rfl) (fun _ _ _ h => h) (by kernel_rfl) ?_ (by with_reducible assumption) ?_; rotate_left; (focus (intro w hSw; (try dsimp only at hSw); have k0 := HB.out; go_simp; (try with_reducible rfl))); (try simp only [Act.put, List.setIfInBounds_toArray, List.set_cons_zero, List.set_cons_succ]))
          (refine rg_take 21 (v := ?_) rfl (by kernel_rfl) (by kernel_rfl) (by kernel_rfl) (fun _ _ _ h => h) (by kernel_rfl) ?_ (by with_reducible assumption) ?_; rotate_left; (focus (intro w hSw; (try dsimp only at hSw); go_simp; (try with_reducible rfl))); (try simp only [Act.put, List.setIfInBounds_toArray, List.set_cons_zero, List.set_cons_succ]))
          (refine rg_take 22 (v := ?_) rfl (by kernel_rfl) (by kernel_rfl) (by kernel_rfl) (fun _ _ _ h => h) (by kernel_rfl) ?_ (by with_reducible assumption) ?_; rotate_left; (focus (intro w hSw; (try dsimp only at hSw); go_simp; (try with_reducible rfl))); (try simp only [Act.put, List.setIfInBounds_toArray, List.set_cons_zero, List.set_cons_succ]))
          (refine rg_take 23 (v := ?_) rfl (by kernel_rfl) (by kernel_rfl) (by kernel_rfl) (fun _ _ _ h => h) (by kernel_rfl) ?_ (by with_reducible assumption) ?_; rotate_left; (focus (intro w hSw; (try dsimp only at hSw); have k0 := HC.out; go_simp; (try with_reducible rfl))); (try simp only [Act.put, List.setIfInBounds_toArray, List.set_cons_zero, List.set_cons_succ]))
          (refine rg_take 24 (v := ?_) rfl (by kernel_rfl) (by kernel_rfl) (by kernel_rfl) (fun _ _ _ h => h) (by kernel_rfl) ?_ (by with_reducible assumption) ?_; rotate_left; (focus (intro w hSw; (try dsimp only at hSw); have k0 := HM0.out; go_simp; (try with_reducible rfl))); (try simp only [Act.put, List.setIfInBounds_toArray, List.set_cons_zero, List.set_cons_succ]))
          (refine rg_take 25 (v := ?_) rfl (by kernel_rfl) (by kernel_rfl) (by kernel_rfl) (fun _ _ _ h => h) (by kernel_rfl) ?_ (by with_reducible assumption) ?_; rotate_left; (focus (intro w hSw; (try dsimp only at hSw); go_simp; (try with_reducible rfl))); (try simp only [Act.put, List.setIfInBounds_toArray, List.set_cons_zero, List.set_cons_succ]))
          (refine rg_take 26 (v := ?_) rfl (by kernel_rfl) (by kernel_rfl) (by kernel_rfl) (fun _ _ _ h => h) (by kernel_rfl) ?_ (by with_reducible assumption) ?_; rotate_left; (focus (intro w hSw; (try dsimp only at hSw); have k0 : ¬ ((m : Int) < 1 + (W : Int)) := (by omega); go_simp; (try with_reducible rfl))); (try simp only [Act.put, List.setIfInBounds_toArray, List.set_cons_zero, List.set_cons_succ]))
          (refine rg_take 27 (v := ?_) rfl (by kernel_rfl) (by kernel_rfl) (by kernel_rfl) (fun _ _ _ h => h) (by kernel_rfl) ?_ (by with_reducible assumption) ?_; rotate_left; (focus (intro w hSw; (try dsimp only at hSw); go_simp; (try with_reducible rfl))); (try simp only [Act.put, List.setIfInBounds_toArray, List.set_cons_zero, List.set_cons_succ]))
          (refine rg_take 28 (v := ?_) rfl (by kernel_rfl) (by kernel_rfl) (by kernel_rfl) (fun _ _ _ h => h) (by kernel_rfl) ?_ (by with_reducible assumption) ?_; rotate_left; (focus (intro w hSw; (try dsimp only at hSw); go_simp; (try with_reducible rfl))); (try simp only [Act.put, List.setIfInBounds_toArray, List.set_cons_zero, List.set_cons_succ]))
          refine wpAnyH_done (by kernel_rfl) ?_ _
          go_wp2_with fail
          go_meet
          have hb := hHeld.1
          refine ⟨rfl, hE.trans hb, hHeld.2.2.1, hHeld.2.2.2.1, vBa.ext hb, hHeld.2.1⟩
      · rw [decide_eq_false (show ¬ (Y ≤ Zy ∧ Zy < Y + (H + 1)) by omega), Bool.false_and] at hd
        subst hd
        refine wp_region_held_drew (S := fun w' => Ext V w' ∧ w'.cell? ⟨Oa, 0, none⟩ = some (.slice (some ⟨Ba, 0, none⟩) 24 ka) ∧ w'.cell? ⟨Oc, 0, none⟩ = some (.int .i64 (X : Int)) ∧ w'.cell? ⟨Oc, 1, none⟩ = some (.int .i64 (Y : Int)) ∧ w'.cell? ⟨Oz, 0, none⟩ = some (.int .i64 (Zx : Int)) ∧ w'.cell? ⟨Oz, 1, none⟩ = some (.int .i64 (Zy : Int))) (by kernel_rfl) ⟨Ext.drew (Ext.refl _), cOa, cOcx, cOcy, cOzx, cOzy⟩ (fun hHeld => ?_)
        (refine rg_take 0 (v := ?_) rfl (by kernel_rfl) (by kernel_rfl) (by kernel_rfl) (fun _ _ _ h => h) (by kernel_rfl) ?_ (by with_reducible assumption) ?_; rotate_left; (focus (intro w hSw; (try dsimp only at hSw); go_simp; (try with_reducible rfl))); (try simp only [Act.put, List.setIfInBounds_toArray, List.set_cons_zero, List.set_cons_succ]))
        (refine rg_take 1 (v := ?_) rfl (by kernel_rfl) (by kernel_rfl) (by kernel_rfl) (fun _ _ _ h => h) (by kernel_rfl) ?_ (by with_reducible assumption) ?_; rotate_left; (focus (intro w hSw; (try dsimp only at hSw); go_simp; (try with_reducible rfl))); (try simp only [Act.put, List.setIfInBounds_toArray, List.set_cons_zero, List.set_cons_succ]))
        (refine rg_take 3 (v := ?_) rfl (by kernel_rfl) (by kernel_rfl) (by kernel_rfl) (fun _ _ _ h => h) (by kernel_rfl) ?_ (by with_reducible assumption) ?_; rotate_left; (focus (intro w hSw; (try dsimp only at hSw); go_simp; (try with_reducible rfl))); (try simp only [Act.put, List.setIfInBounds_toArray, List.set_cons_zero, List.set_cons_succ]))
        (refine rg_take 4 (v := ?_) rfl (by kernel_rfl) (by kernel_rfl) (by kernel_rfl) (fun _ _ _ h => h) (by kernel_rfl) ?_ (by with_reducible assumption) ?_; rotate_left; (focus (intro w hSw; (try dsimp only at hSw); go_simp; (try with_reducible rfl))); (try simp only [Act.put, List.setIfInBounds_toArray, List.set_cons_zero, List.set_cons_succ]))
        (refine rg_take 5 (v := ?_) rfl (by kernel_rfl) (by kernel_rfl) (by kernel_rfl) (fun _ _ _ h => h) (by kernel_rfl) ?_ (by with_reducible assumption) ?_; rotate_left; (focus (intro w hSw; (try dsimp only at hSw); go_simp; (try with_reducible rfl))); (try simp only [Act.put, List.setIfInBounds_toArray, List.set_cons_zero, List.set_cons_succ]))
        (refine rg_take 6 (v := ?_) rfl (by kernel_rfl) (by kernel_rfl) (by kernel_rfl) (fun _ _ _ h => h) (by kernel_rfl) ?_ (by with_reducible assumption) ?_; rotate_left; (focus (intro w hSw; (try dsimp only at hSw); go_simp; (try with_reducible rfl))); (try simp only [Act.put, List.setIfInBounds_toArray, List.set_cons_zero, List.set_cons_succ]))
        (refine rg_take 7 (v := ?_) rfl (by kernel_rfl) (by kernel_rfl) (by kernel_rfl) (fun _ _ _ h => h) (by kernel_rfl) ?_ (by with_reducible assumption) ?_; rotate_left; (focus (intro w hSw; (try dsimp only at hSw); go_simp; (try with_reducible rfl))); (try simp only [Act.put, List.setIfInBounds_toArray, List.set_cons_zero, List.set_cons_succ]))
        (refine rg_step 2 rfl (by kernel_rfl) (by kernel_rfl) (fun K hK => ?_); go_simp; (go_at_call 31; refine (Has_r _ _ vBa hHeld.1 bZx bZy Hr.out).mono ?_; rintro e w1 ⟨rfl, hb⟩); refine hK.out _ _ (⟨hHeld.1.trans hb, hb.cell hHeld.2.1, hb.cell hHeld.2.2.1, hb.cell hHeld.2.2.2.1, hb.cell hHeld.2.2.2.2.1, hb.cell hHeld.2.2.2.2.2⟩) (fun hHeld => ?_); clear hK K; (try simp only [Act.put, List.setIfInBounds_toArray, List.set_cons_zero, List.set_cons_succ]))
        (refine rg_take 8 (v := ?_) rfl (by kernel_rfl) (by kernel_rfl) (by kernel_rfl) (fun _ _ _ h => h) (by kernel_rfl) ?_ (by with_reducible assumption) ?_; rotate_left; (focus (intro w hSw; (try dsimp only at hSw); go_simp; (try with_reducible rfl))); (try simp only [Act.put, List.setIfInBounds_toArray, List.set_cons_zero, List.set_cons_succ]))
        (refine rg_take 9 (v := ?_) rfl (by kernel_rfl) (by kernel_rfl) (by kernel_rfl) (fun _ _ _ h => h) (by kernel_rfl) ?_ (by with_reducible assumption) ?_; rotate_left; (focus (intro w hSw; (try dsimp only at hSw); go_simp; (try with_reducible rfl))); (try simp only [Act.put, List.setIfInBounds_toArray, List.set_cons_zero, List.set_cons_succ]))
        (refine rg_take 10 (v := ?_) rfl (by kernel_rfl) (by kernel_rfl) (by kernel_rfl) (fun _ _ _ h => h) (by kernel_rfl) ?_ (by with_reducible assumption) ?_; rotate_left; (focus (intro w hSw; (try dsimp only at hSw); go_simp; (try with_reducible rfl))); (try simp only [Act.put, List.setIfInBounds_toArray, List.set_cons_zero, List.set_cons_succ]))
        (refine rg_take 11 (v := ?_) rfl (by kernel_rfl) (by kernel_rfl) (by kernel_rfl) (fun _ _ _ h => h) (by kernel_rfl) ?_ (by with_reducible assumption) ?_; rotate_left; (focus (intro w hSw; (try dsimp only at hSw); go_simp; (try with_reducible rfl))); (try simp only [Act.put, List.setIfInBounds_toArray, List.set_cons_zero, List.set_cons_succ]))
        (refine rg_take 12 (v := ?_) rfl (by kernel_rfl) (by kernel_rfl) (by kernel_rfl) (fun _ _ _ h => h) (by kernel_rfl) ?_ (by with_reducible assumption) ?_; rotate_left; (focus (intro w hSw; (try dsimp only at hSw); go_simp; (try with_reducible rfl))); (try simp only [Act.put, List.setIfInBounds_toArray, List.set_cons_zero, List.set_cons_succ]))
        (refine rg_take 13 (v := ?_) rfl (by kernel_rfl) (by kernel_rfl) (by kernel_rfl) (fun _ _ _ h => h) (by kernel_rfl) ?_ (by with_reducible assumption) ?_; rotate_left; (focus (intro w hSw; (try dsimp only at hSw); go_simp; (try with_reducible rfl))); (try simp only [Act.put, List.setIfInBounds_toArray, List.set_cons_zero, List.set_cons_succ]))
        (refine rg_take 14 (v := ?_) rfl (by kernel_rfl) (by kernel_rfl) (by kernel_rfl) (fun _ _ _ h => h) (by kernel_rfl) ?_ (by with_reducible assumption) ?_; rotate_left; (focus (intro w hSw; (try dsimp only at hSw); have k0 := HA.out; go_simp; (try with_reducible rfl))); (try simp only [Act.put, List.setIfInBounds_toArray, List.set_cons_zero, List.set_cons_succ]))
        (refine rg_take 15 (v := ?_) rfl (by kernel_rfl) (by kernel_rfl) (by kernel_rfl) (fun _ _ _ h => h) (by kernel_rfl) ?_ (by with_reducible assumption) ?_; rotate_left; (focus (intro w hSw; (try dsimp only at hSw); have k0 : ¬ ((Zy : Int) < (Y : Int) + (1 + (H : Int))) := (by omega); go_simp; (try with_reducible rfl))); (try simp only [Act.put, List.setIfInBounds_toArray, List.set_cons_zero, List.set_cons_succ]))
        (refine rg_take 16 (v := ?_) rfl (by kernel_rfl) (by kernel_rfl) (by kernel_rfl) (fun _ _ _ h => h) (by kernel_rfl) ?_ (by with_reducible assumption) ?_; rotate_left; (focus (intro w hSw; (try dsimp only at hSw); go_simp; (try with_reducible rfl))); (try simp only [Act.put, List.setIfInBounds_toArray, List.set_cons_zero, List.set_cons_succ]))
        (refine rg_take 17 (v := ?_) rfl (by kernel_rfl) (by kernel_rfl) (by kernel_rfl) (fun _ _ _ h => h) (by kernel_rfl) ?_ (by with_reducible assumption) ?_; rotate_left; (focus (intro w hSw; (try dsimp only at hSw); go_simp; (try with_reducible rfl))); (try simp only [Act.put, List.setIfInBounds_toArray, List.set_cons_zero, List.set_cons_succ]))
        (refine rg_skip 18 rfl (by kernel_rfl) (by kernel_rfl) (by kernel_rfl) (fun _ _ _ h => h) (by kernel_rfl) (by with_reducible assumption) ?_; (try simp only [Act.put, List.setIfInBounds_toArray, List.set_cons_zero, List.set_cons_succ]))
        (refine rg_skip 19 rfl (by kernel_rfl) (by kernel_rfl) (by kernel_rfl) (fun _ _ _ h => h) (by kernel_rfl) (by with_reducible assumption) ?_; (try simp only [Act.put, List.setIfInBounds_toArray, List.set_cons_zero, List.set_cons_succ]))
        (refine rg_skip 20 rfl (by kernel_rfl) (by kernel_rfl) (by kernel_rfl) (fun _ _ _ h => h) (by kernel_rfl) (by with_reducible assumption) ?_; (try simp only [Act.put, List.setIfInBounds_toArray, List.set_cons_zero, List.set_cons_succ]))
        (refine rg_skip 21 rfl (by kernel_rfl) (by kernel_rfl) (by kernel_rfl) (fun _ _ _ h => h) (by kernel_rfl) (by with_reducible assumption) ?_; (try simp only [Act.put, List.setIfInBounds_toArray, List.set_cons_zero, List.set_cons_succ]))
        (refine rg_skip 22 rfl (by kernel_rfl) (by kernel_rfl) (by kernel_rfl) (fun _ _ _ h => h) (by kernel_rfl) (by with_reducible assumption) ?_; (try simp only [Act.put, List.setIfInBounds_toArray, List.set_cons_zero, List.set_cons_succ]))
        (refine rg_skip 23 rfl (by kernel_rfl) (by kernel_rfl) (by kernel_rfl) (fun _ _ _ h => h) (by kernel_rfl) (by with_reducible assumption) ?_; (try simp only [Act.put, List.setIfInBounds_toArray, List.set_cons_zero, List.set_cons_succ]))
        (refine rg_skip 24 rfl (by kernel_rfl) (by kernel_rfl) (by kernel_rfl) (fun _ _ _ h => h) (by kernel_rfl) (by with_reducible assumption) ?_; (try simp only [Act.put, List.setIfInBounds_toArray, List.set_cons_zero, List.set_cons_succ]))
        (refine rg_skip 25 rfl (by kernel_rfl) (by kernel_rfl) (by kernel_rfl) (fun _ _ _ h => h) (by kernel_rfl) (by with_reducible assumption) ?_; (try simp only [Act.put, List.setIfInBounds_toArray, List.set_cons_zero, List.set_cons_succ]))
        (refine rg_skip 26 rfl (by kernel_rfl) (by kernel_rfl) (by kernel_rfl) (fun _ _ _ h => h) (by kernel_rfl) (by with_reducible assumption) ?_; (try simp only [Act.put, List.setIfInBounds_toArray, List.set_cons_zero, List.set_cons_succ]))
        (refine rg_take 27 (v := ?_) rfl (by kernel_rfl) (by kernel_rfl) (by kernel_rfl) (fun _ _ _ h => h) (by kernel_rfl) ?_ (by with_reducible assumption) ?_; rotate_left; (focus (intro w hSw; (try dsimp only at hSw); go_simp; (try with_reducible rfl))); (try simp only [Act.put, List.setIfInBounds_toArray, List.set_cons_zero, List.set_cons_succ]))
        (refine rg_take 28 (v := ?_) rfl (by kernel_rfl) (by kernel_rfl) (by kernel_rfl) (fun _ _ _ h => h) (by kernel_rfl) ?_ (by with_reducible assumption) ?_; rotate_left; (focus (intro w hSw; (try dsimp only at hSw); go_simp; (try with_reducible rfl))); (try simp only [Act.put, List.setIfInBounds_toArray, List.set_cons_zero, List.set_cons_succ]))
        refine wpAnyH_done (by kernel_rfl) ?_ _
        go_wp2_with fail
        go_meet
        have hb := hHeld.1
        refine ⟨rfl, hE.trans hb, hHeld.2.2.1, hHeld.2.2.2.1, vBa.ext hb, hHeld.2.1⟩
    · rw [decide_eq_false (show ¬ (Y ≤ Zy ∧ Zy < Y + (H + 1)) by omega), Bool.false_and] at hd
      subst hd
      refine wp_region_held_drew (S := fun w' => Ext V w' ∧ w'.cell? ⟨Oa, 0, none⟩ = some (.slice (some ⟨Ba, 0, none⟩) 24 ka) ∧ w'.cell? ⟨Oc, 0, none⟩ = some (.int .i64 (X : Int)) ∧ w'.cell? ⟨Oc, 1, none⟩ = some (.int .i64 (Y : Int)) ∧ w'.cell? ⟨Oz, 0, none⟩ = some (.int .i64 (Zx : Int)) ∧ w'.cell? ⟨Oz, 1, none⟩ = some (.int .i64 (Zy : Int))) (by kernel_rfl) ⟨Ext.drew (Ext.refl _), cOa, cOcx, cOcy, cOzx, cOzy⟩ (fun hHeld => ?_)
      (refine rg_take 0 (v := ?_) rfl (by kernel_rfl) (by kernel_rfl) (by kernel_rfl) (fun _ _ _ h => h) (by kernel_rfl) ?_ (by with_reducible assumption) ?_; rotate_left; (focus (intro w hSw; (try dsimp only at hSw); go_simp; (try with_reducible rfl))); (try simp only [Act.put, List.setIfInBounds_toArray, List.set_cons_zero, List.set_cons_succ]))
      (refine rg_take 1 (v := ?_) rfl (by kernel_rfl) (by kernel_rfl) (by kernel_rfl) (fun _ _ _ h => h) (by kernel_rfl) ?_ (by with_reducible assumption) ?_; rotate_left; (focus (intro w hSw; (try dsimp only at hSw); go_simp; (try with_reducible rfl))); (try simp only [Act.put, List.setIfInBounds_toArray, List.set_cons_zero, List.set_cons_succ]))
      (refine rg_take 3 (v := ?_) rfl (by kernel_rfl) (by kernel_rfl) (by kernel_rfl) (fun _ _ _ h => h) (by kernel_rfl) ?_ (by with_reducible assumption) ?_; rotate_left; (focus (intro w hSw; (try dsimp only at hSw); go_simp; (try with_reducible rfl))); (try simp only [Act.put, List.setIfInBounds_toArray, List.set_cons_zero, List.set_cons_succ]))
      (refine rg_take 4 (v := ?_) rfl (by kernel_rfl) (by kernel_rfl) (by kernel_rfl) (fun _ _ _ h => h) (by kernel_rfl) ?_ (by with_reducible assumption) ?_; rotate_left; (focus (intro w hSw; (try dsimp only at hSw); go_simp; (try with_reducible rfl))); (try simp only [Act.put, List.setIfInBounds_toArray, List.set_cons_zero, List.set_cons_succ]))
      (refine rg_take 5 (v := ?_) rfl (by kernel_rfl) (by kernel_rfl) (by kernel_rfl) (fun _ _ _ h => h) (by kernel_rfl) ?_ (by with_reducible assumption) ?_; rotate_left; (focus (intro w hSw; (try dsimp only at hSw); go_simp; (try with_reducible rfl))); (try simp only [Act.put, List.setIfInBounds_toArray, List.set_cons_zero, List.set_cons_succ]))
      (refine rg_take 6 (v := ?_) rfl (by kernel_rfl) (by kernel_rfl) (by kernel_rfl) (fun _ _ _ h => h) (by kernel_rfl) ?_ (by with_reducible assumption) ?_; rotate_left; (focus (intro w hSw; (try dsimp only at hSw); go_simp; (try with_reducible rfl))); (try simp only [Act.put, List.setIfInBounds_toArray, List.set_cons_zero, List.set_cons_succ]))
      (refine rg_take 7 (v := ?_) rfl (by kernel_rfl) (by kernel_rfl) (by kernel_rfl) (fun _ _ _ h => h) (by kernel_rfl) ?_ (by with_reducible assumption) ?_; rotate_left; (focus (intro w hSw; (try dsimp only at hSw); go_simp; (try with_reducible rfl))); (try simp only [Act.put, List.setIfInBounds_toArray, List.set_cons_zero, List.set_cons_succ]))
      (refine rg_step 2 rfl (by kernel_rfl) (by kernel_rfl) (fun K hK => ?_); go_simp; (go_at_call 31; refine (Has_r _ _ vBa hHeld.1 bZx bZy Hr.out).mono ?_; rintro e w1 ⟨rfl, hb⟩); refine hK.out _ _ (⟨hHeld.1.trans hb, hb.cell hHeld.2.1, hb.cell hHeld.2.2.1, hb.cell hHeld.2.2.2.1, hb.cell hHeld.2.2.2.2.1, hb.cell hHeld.2.2.2.2.2⟩) (fun hHeld => ?_); clear hK K; (try simp only [Act.put, List.setIfInBounds_toArray, List.set_cons_zero, List.set_cons_succ]))
      (refine rg_take 8 (v := ?_) rfl (by kernel_rfl) (by kernel_rfl) (by kernel_rfl) (fun _ _ _ h => h) (by kernel_rfl) ?_ (by with_reducible assumption) ?_; rotate_left; (focus (intro w hSw; (try dsimp only at hSw); go_simp; (try with_reducible rfl))); (try simp only [Act.put, List.setIfInBounds_toArray, List.set_cons_zero, List.set_cons_succ]))
      (refine rg_skip 9 rfl (by kernel_rfl) (by kernel_rfl) (by kernel_rfl) (fun _ _ _ h => h) (by kernel_rfl) (by with_reducible assumption) ?_; (try simp only [Act.put, List.setIfInBounds_toArray, List.set_cons_zero, List.set_cons_succ]))
      (refine rg_skip 10 rfl (by kernel_rfl) (by kernel_rfl) (by kernel_rfl) (fun _ _ _ h => h) (by kernel_rfl) (by with_reducible assumption) ?_; (try simp only [Act.put, List.setIfInBounds_toArray, List.set_cons_zero, List.set_cons_succ]))
      (refine rg_skip 11 rfl (by kernel_rfl) (by kernel_rfl) (by kernel_rfl) (fun _ _ _ h => h) (by kernel_rfl) (by with_reducible assumption) ?_; (try simp only [Act.put, List.setIfInBounds_toArray, List.set_cons_zero, List.set_cons_succ]))
      (refine rg_skip 12 rfl (by kernel_rfl) (by kernel_rfl) (by kernel_rfl) (fun _ _ _ h => h) (by kernel_rfl) (by with_reducible assumption) ?_; (try simp only [Act.put, List.setIfInBounds_toArray, List.set_cons_zero, List.set_cons_succ]))
      (refine rg_skip 13 rfl (by kernel_rfl) (by kernel_rfl) (by kernel_rfl) (fun _ _ _ h => h) (by kernel_rfl) (by with_reducible assumption) ?_; (try simp only [Act.put, List.setIfInBounds_toArray, List.set_cons_zero, List.set_cons_succ]))
      (refine rg_skip 14 rfl (by kernel_rfl) (by kernel_rfl) (by kernel_rfl) (fun _ _ _ h => h) (by kernel_rfl) (by with_reducible assumption) ?_; (try simp only [Act.put, List.setIfInBounds_toArray, List.set_cons_zero, List.set_cons_succ]))
      (refine rg_skip 15 rfl (by kernel_rfl) (by kernel_rfl) (by kernel_rfl) (fun _ _ _ h => h) (by kernel_rfl) (by with_reducible assumption) ?_; (try simp only [Act.put, List.setIfInBounds_toArray, List.set_cons_zero, List.set_cons_succ]))
      (refine rg_take 16 (v := ?_) rfl (by kernel_rfl) (by kernel_rfl) (by kernel_rfl) (fun _ _ _ h => h) (by kernel_rfl) ?_ (by with_reducible assumption) ?_; rotate_left; (focus (intro w hSw; (try dsimp only at hSw); go_simp; (try with_reducible rfl))); (try simp only [Act.put, List.setIfInBounds_toArray, List.set_cons_zero, List.set_cons_succ]))
      (refine rg_take 17 (v := ?_) rfl (by kernel_rfl) (by kernel_rfl) (by kernel_rfl) (fun _ _ _ h => h) (by kernel_rfl) ?_ (by with_reducible assumption) ?_; rotate_left; (focus (intro w hSw; (try dsimp only at hSw); go_simp; (try with_reducible rfl))); (try simp only [Act.put, List.setIfInBounds_toArray, List.set_cons_zero, List.set_cons_succ]))
      (refine rg_skip 18 rfl (by kernel_rfl) (by kernel_rfl) (by kernel_rfl) (fun _ _ _ h => h) (by kernel_rfl) (by with_reducible assumption) ?_; (try simp only [Act.put, List.setIfInBounds_toArray, List.set_cons_zero, List.set_cons_succ]))
      (refine rg_skip 19 rfl (by kernel_rfl) (by kernel_rfl) (by kernel_rfl) (fun _ _ _ h => h) (by kernel_rfl) (by with_reducible assumption) ?_; (try simp only [Act.put, List.setIfInBounds_toArray, List.set_cons_zero, List.set_cons_succ]))
      (refine rg_skip 20 rfl (by kernel_rfl) (by kernel_rfl) (by kernel_rfl) (fun _ _ _ h => h) (by kernel_rfl) (by with_reducible assumption) ?_; (try simp only [Act.put, List.setIfInBounds_toArray, List.set_cons_zero, List.set_cons_succ]))
      (refine rg_skip 21 rfl (by kernel_rfl) (by kernel_rfl) (by kernel_rfl) (fun _ _ _ h => h) (by kernel_rfl) (by with_reducible assumption) ?_; (try simp only [Act.put, List.setIfInBounds_toArray, List.set_cons_zero, List.set_cons_succ]))
      (refine rg_skip 22 rfl (by kernel_rfl) (by kernel_rfl) (by kernel_rfl) (fun _ _ _ h => h) (by kernel_rfl) (by with_reducible assumption) ?_; (try simp only [Act.put, List.setIfInBounds_toArray, List.set_cons_zero, List.set_cons_succ]))
      (refine rg_skip 23 rfl (by kernel_rfl) (by kernel_rfl) (by kernel_rfl) (fun _ _ _ h => h) (by kernel_rfl) (by with_reducible assumption) ?_; (try simp only [Act.put, List.setIfInBounds_toArray, List.set_cons_zero, List.set_cons_succ]))
      (refine rg_skip 24 rfl (by kernel_rfl) (by kernel_rfl) (by kernel_rfl) (fun _ _ _ h => h) (by kernel_rfl) (by with_reducible assumption) ?_; (try simp only [Act.put, List.setIfInBounds_toArray, List.set_cons_zero, List.set_cons_succ]))
      (refine rg_skip 25 rfl (by kernel_rfl) (by kernel_rfl) (by kernel_rfl) (fun _ _ _ h => h) (by kernel_rfl) (by with_reducible assumption) ?_; (try simp only [Act.put, List.setIfInBounds_toArray, List.set_cons_zero, List.set_cons_succ]))
      (refine rg_skip 26 rfl (by kernel_rfl) (by kernel_rfl) (by kernel_rfl) (fun _ _ _ h => h) (by kernel_rfl) (by with_reducible assumption) ?_; (try simp only [Act.put, List.setIfInBounds_toArray, List.set_cons_zero, List.set_cons_succ]))
      (refine rg_take 27 (v := ?_) rfl (by kernel_rfl) (by kernel_rfl) (by kernel_rfl) (fun _ _ _ h => h) (by kernel_rfl) ?_ (by with_reducible assumption) ?_; rotate_left; (focus (intro w hSw; (try dsimp only at hSw); go_simp; (try with_reducible rfl))); (try simp only [Act.put, List.setIfInBounds_toArray, List.set_cons_zero, List.set_cons_succ]))
      (refine rg_take 28 (v := ?_) rfl (by kernel_rfl) (by kernel_rfl) (by kernel_rfl) (fun _ _ _ h => h) (by kernel_rfl) ?_ (by with_reducible assumption) ?_; rotate_left; (focus (intro w hSw; (try dsimp only at hSw); go_simp; (try with_reducible rfl))); (try simp only [Act.put, List.setIfInBounds_toArray, List.set_cons_zero, List.set_cons_succ]))
      refine wpAnyH_done (by kernel_rfl) ?_ _
      go_wp2_with fail
      go_meet
      have hb := hHeld.1
      refine ⟨rfl, hE.trans hb, hHeld.2.2.1, hHeld.2.2.2.1, vBa.ext hb, hHeld.2.1⟩
  case rest =>
  clear hE cOcx cOcy cOzx cOzy vBa cOa lcOcx lcOcy lcOzx lcOzy lvBa lcOa
  obtain ⟨rfl, hE, cOcx, cOcy, vBa, cOa⟩ := hcut
  obtain ⟨V, rfl⟩ : ∃ V, V = wc := ⟨_, rfl⟩
  have lcOcx := World.block_lt_of_cell? V _ cOcx
  have lcOcy := World.block_lt_of_cell? V _ cOcy
  have lvBa := vBa.lt
  have lcOa := World.block_lt_of_cell? V _ cOa
  by_cases h24 : Y + H + 1 = 24
  · go_wp2_with fail
    refine (Box_n _ _ _ _ _ (Bool.eq_false_iff.2 fun h => by have := boxB_t.1 h; omega)).mono ?_
    rintro e w1 ⟨rfl, hb⟩
    have hc := hb.cellE; have hf := hb.frozenE; have hz := hb.size; have ha := alloc_keeps w1; (try simp only [World.size_alloc] at hc hf hz); (try simp only [World.size_setCell] at hc hf hz); (try simp only [World.size_drew] at hc hf hz)
    go_wp2_with fail
    go_ret
    exact ⟨rfl, by (repeat' (first | (with_reducible assumption) | (with_reducible exact Ext.refl _) | (with_reducible refine Ext.alloc ?_ _) | (with_reducible refine Ext.drew ?_) | (with_reducible refine Ext.drewN ?_ _) | (with_reducible refine Ext.setCell ?_ ?_ _) | (with_reducible refine Ext.trans ?_ (by assumption)) | go_size))⟩
  obtain ⟨N, hN⟩ : ∃ N : Nat, pickF high (24 - (Y : Int) - (1 + (H : Int))) = (N : Int) := ⟨(pickF high (24 - (Y : Int) - (1 + (H : Int)))).toNat, by have := @pickF_bd high (24 - (Y : Int) - (1 + (H : Int))) (by omega); omega⟩
  have bN : Y + H + 1 + N < 24 := by have := @pickF_bd high (24 - (Y : Int) - (1 + (H : Int))) (by omega); omega
  have HN := Lib.hid hN; clear hN
  go_wp2_with fail
  refine (pick_c high _ _ H4.out (by omega) (by omega)).mono ?_
  rintro e w' ⟨rfl, rfl⟩
  rw [HN.out]
  go_wp2_with fail
  refine (Box_r (X := X) (Y := Y + (H + 1)) (W := W + 1) (H := N + 1) _ _ _ _ _ rfl (by omega) (by omega) (by omega) bX (by omega) (by omega) (by omega)).mono ?_
  rintro e w1 ⟨Bb, kb, rfl, hB, hr, hv, hb⟩
  have hc := hb.cellE; have hf := hb.frozenE; have hz := hb.size; have ha := alloc_keeps w1; (try simp only [World.size_alloc] at hc hf hz); (try simp only [World.size_setCell] at hc hf hz); (try simp only [World.size_drew] at hc hf hz)
  clear hr hB
  go_wp2_with fail
  obtain ⟨Ob, hO⟩ : ∃ O, O = w1.heap.size := ⟨_, rfl⟩
  rw [← hO]
  refine calls_name (fun V => Ext w V ∧ V.cell? ⟨Oc, 0, none⟩ = some (.int .i64 (X : Int)) ∧ V.cell? ⟨Oc, 1, none⟩ = some (.int .i64 (Y : Int)) ∧ VA V Ba 0 (boxL X Y (W + 1) (H + 1)) ∧ V.cell? ⟨Oa, 0, none⟩ = some (.slice (some ⟨Ba, 0, none⟩) 24 ka) ∧ VA V Bb 0 (boxL X (Y + (H + 1)) (W + 1) (N + 1)) ∧ V.cell? ⟨Ob, 0, none⟩ = some (.slice (some ⟨Bb, 0, none⟩) 24 kb)) ⟨hE.trans (by first | exact hb | exact Ext.alloc hb _ | exact Ext.alloc (Ext.alloc hb _) _), Ext.cell (by first | exact hb | exact Ext.alloc hb _ | exact Ext.alloc (Ext.alloc hb _) _) cOcx, Ext.cell (by first | exact hb | exact Ext.alloc hb _ | exact Ext.alloc (Ext.alloc hb _) _) cOcy, vBa.ext (by first | exact hb | exact Ext.alloc hb _ | exact Ext.alloc (Ext.alloc hb _) _), Ext.cell (by first | exact hb | exact Ext.alloc hb _ | exact Ext.alloc (Ext.alloc hb _) _) cOa, hv.ext (by first | exact Ext.refl _ | exact Ext.alloc (Ext.refl _) _ | exact Ext.alloc (Ext.alloc (Ext.refl _) _) _), by rw [hO]; simp [go_sem]⟩ ?_
  clear hE cOcx cOcy vBa cOa lcOcx lcOcy lvBa lcOa hb hc hf hz ha hO hv
  rintro V ⟨hE, cOcx, cOcy, vBa, cOa, vBb, cOb⟩
  have lcOcx := World.block_lt_of_cell? V _ cOcx
  have lcOcy := World.block_lt_of_cell? V _ cOcy
  have lvBa := vBa.lt
  have lcOa := World.block_lt_of_cell? V _ cOa
  have lvBb := vBb.lt
  have lcOb := World.block_lt_of_cell? V _ cOb
  refine (Box_r (X := X) (Y := Y) (W := W + 1) (H := H + 1 + (N + 1)) _ _ _ _ _ rfl rfl (by omega) (by omega) bX bY (by omega) (by omega)).mono ?_
  rintro e w1 ⟨Bt, kt, rfl, hB, hr, hv, hb⟩
  have hc := hb.cellE; have hf := hb.frozenE; have hz := hb.size; have ha := alloc_keeps w1; (try simp only [World.size_alloc] at hc hf hz); (try simp only [World.size_setCell] at hc hf hz); (try simp only [World.size_drew] at hc hf hz)
  clear hr hB
  go_wp2_with fail
  obtain ⟨Ot, hO⟩ : ∃ O, O = w1.heap.size := ⟨_, rfl⟩
  rw [← hO]
  refine calls_name (fun V => Ext w V ∧ V.cell? ⟨Oc, 0, none⟩ = some (.int .i64 (X : Int)) ∧ V.cell? ⟨Oc, 1, none⟩ = some (.int .i64 (Y : Int)) ∧ VA V Ba 0 (boxL X Y (W + 1) (H + 1)) ∧ V.cell? ⟨Oa, 0, none⟩ = some (.slice (some ⟨Ba, 0, none⟩) 24 ka) ∧ VA V Bb 0 (boxL X (Y + (H + 1)) (W + 1) (N + 1)) ∧ V.cell? ⟨Ob, 0, none⟩ = some (.slice (some ⟨Bb, 0, none⟩) 24 kb) ∧ VA V Bt 0 (boxL X Y (W + 1) (H + 1 + (N + 1))) ∧ V.cell? ⟨Ot, 0, none⟩ = some (.slice (some ⟨Bt, 0, none⟩) 24 kt)) ⟨hE.trans (by first | exact hb | exact Ext.alloc hb _ | exact Ext.alloc (Ext.alloc hb _) _), Ext.cell (by first | exact hb | exact Ext.alloc hb _ | exact Ext.alloc (Ext.alloc hb _) _) cOcx, Ext.cell (by first | exact hb | exact Ext.alloc hb _ | exact Ext.alloc (Ext.alloc hb _) _) cOcy, vBa.ext (by first | exact hb | exact Ext.alloc hb _ | exact Ext.alloc (Ext.alloc hb _) _), Ext.cell (by first | exact hb | exact Ext.alloc hb _ | exact Ext.alloc (Ext.alloc hb _) _) cOa, vBb.ext (by first | exact hb | exact Ext.alloc hb _ | exact Ext.alloc (Ext.alloc hb _) _), Ext.cell (by first | exact hb | exact Ext.alloc hb _ | exact Ext.alloc (Ext.alloc hb _) _) cOb, hv.ext (by first | exact Ext.refl _ | exact Ext.alloc (Ext.refl _) _ | exact Ext.alloc (Ext.alloc (Ext.refl _) _) _), by rw [hO]; simp [go_sem]⟩ ?_
  clear hE cOcx cOcy vBa cOa vBb cOb lcOcx lcOcy lvBa lcOa lvBb lcOb hb hc hf hz ha hO hv
  rintro V ⟨hE, cOcx, cOcy, vBa, cOa, vBb, cOb, vBt, cOt⟩
  have lcOcx := World.block_lt_of_cell? V _ cOcx
  have lcOcy := World.block_lt_of_cell? V _ cOcy
  have lvBa := vBa.lt
  have lcOa := World.block_lt_of_cell? V _ cOa
  have lvBb := vBb.lt
  have lcOb := World.block_lt_of_cell? V _ cOb
  have lvBt := vBt.lt
  have lcOt := World.block_lt_of_cell? V _ cOt
  refine (Union_v ka kb _ vBa (Ext.refl _) vBb (Ext.refl _)).mono ?_
  rintro e w1 ⟨Bu, ku, rfl, hB, hr, hv, hb⟩
  have hc := hb.cellE; have hf := hb.frozenE; have hz := hb.size; have ha := alloc_keeps w1; (try simp only [World.size_alloc] at hc hf hz); (try simp only [World.size_setCell] at hc hf hz); (try simp only [World.size_drew] at hc hf hz)
  clear hr hB
  go_wp2_with fail
  obtain ⟨Ou, hO⟩ : ∃ O, O = w1.heap.size := ⟨_, rfl⟩
  rw [← hO]
  refine calls_name (fun V => Ext w V ∧ V.cell? ⟨Oc, 0, none⟩ = some (.int .i64 (X : Int)) ∧ V.cell? ⟨Oc, 1, none⟩ = some (.int .i64 (Y : Int)) ∧ VA V Ba 0 (boxL X Y (W + 1) (H + 1)) ∧ V.cell? ⟨Oa, 0, none⟩ = some (.slice (some ⟨Ba, 0, none⟩) 24 ka) ∧ VA V Bb 0 (boxL X (Y + (H + 1)) (W + 1) (N + 1)) ∧ V.cell? ⟨Ob, 0, none⟩ = some (.slice (some ⟨Bb, 0, none⟩) 24 kb) ∧ VA V Bt 0 (boxL X Y (W + 1) (H + 1 + (N + 1))) ∧ V.cell? ⟨Ot, 0, none⟩ = some (.slice (some ⟨Bt, 0, none⟩) 24 kt) ∧ VA V Bu 0 (unionL (boxL X Y (W + 1) (H + 1)) (boxL X (Y + (H + 1)) (W + 1) (N + 1))) ∧ V.cell? ⟨Ou, 0, none⟩ = some (.slice (some ⟨Bu, 0, none⟩) 24 ku)) ⟨hE.trans (by first | exact hb | exact Ext.alloc hb _ | exact Ext.alloc (Ext.alloc hb _) _), Ext.cell (by first | exact hb | exact Ext.alloc hb _ | exact Ext.alloc (Ext.alloc hb _) _) cOcx, Ext.cell (by first | exact hb | exact Ext.alloc hb _ | exact Ext.alloc (Ext.alloc hb _) _) cOcy, vBa.ext (by first | exact hb | exact Ext.alloc hb _ | exact Ext.alloc (Ext.alloc hb _) _), Ext.cell (by first | exact hb | exact Ext.alloc hb _ | exact Ext.alloc (Ext.alloc hb _) _) cOa, vBb.ext (by first | exact hb | exact Ext.alloc hb _ | exact Ext.alloc (Ext.alloc hb _) _), Ext.cell (by first | exact hb | exact Ext.alloc hb _ | exact Ext.alloc (Ext.alloc hb _) _) cOb, vBt.ext (by first | exact hb | exact Ext.alloc hb _ | exact Ext.alloc (Ext.alloc hb _) _), Ext.cell (by first | exact hb | exact Ext.alloc hb _ | exact Ext.alloc (Ext.alloc hb _) _) cOt, hv.ext (by first | exact Ext.refl _ | exact Ext.alloc (Ext.refl _) _ | exact Ext.alloc (Ext.alloc (Ext.refl _) _) _), by rw [hO]; simp [go_sem]⟩ ?_
  clear hE cOcx cOcy vBa cOa vBb cOb vBt cOt lcOcx lcOcy lvBa lcOa lvBb lcOb lvBt lcOt hb hc hf hz ha hO hv
  rintro V ⟨hE, cOcx, cOcy, vBa, cOa, vBb, cOb, vBt, cOt, vBu, cOu⟩
  have lcOcx := World.block_lt_of_cell? V _ cOcx
  have lcOcy := World.block_lt_of_cell? V _ cOcy
  have lvBa := vBa.lt
  have lcOa := World.block_lt_of_cell? V _ cOa
  have lvBb := vBb.lt
  have lcOb := World.block_lt_of_cell? V _ cOb
  have lvBt := vBt.lt
  have lcOt := World.block_lt_of_cell? V _ cOt
  have lvBu := vBu.lt
  have lcOu := World.block_lt_of_cell? V _ cOu
  refine (rSame_r ku kt _ vBu (Ext.refl _) vBt (Ext.refl _) (decide_eq_true (box_pile bX (by omega) rfl))).mono ?_
  rintro e w1 ⟨rfl, hb⟩
  have hc := hb.cellE; have hf := hb.frozenE; have hz := hb.size; have ha := alloc_keeps w1; (try simp only [World.size_alloc] at hc hf hz); (try simp only [World.size_setCell] at hc hf hz); (try simp only [World.size_drew] at hc hf hz)
  go_wp2_with fail
  go_ret
  exact ⟨rfl, by (repeat' (first | (with_reducible assumption) | (with_reducible exact Ext.refl _) | (with_reducible refine Ext.alloc ?_ _) | (with_reducible refine Ext.drew ?_) | (with_reducible refine Ext.drewN ?_ _) | (with_reducible refine Ext.setCell ?_ ?_ _) | (with_reducible refine Ext.trans ?_ (by assumption)) | go_size))⟩

end Go.Proofs.YtnfknekbbdfdfaaDoor
