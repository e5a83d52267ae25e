/- The walk of the law SunNoon. -/
import Derived.Test.YtknlnmalaidaiaaDoorS8
import Derived.Test.YtknlnmalaidaiaaDoorS6
import Derived.Test.YtknlnmalaidaiaaDoorM8
import Derived.Deep.CutRange
namespace Go.Proofs.YtknlnmalaidaiaaDoor
open Go.RowKit

set_option maxRecDepth 100000 in
set_option maxHeartbeats 8000000 in
theorem SunNoon_walk (a0 : Int) (w0 : IsI a0) (a1 : Int) (w1 : IsI a1) (a2 : Int) (w2 : IsI a2) (a3 : Int) (w3 : IsI a3) (a4 : Int) (w4 : IsI a4) (w : World) (hT : Tab w) :
    Calls Tryd.prog 5 #[.int .i64 a0, .int .i64 a1, .int .i64 a2, .int .i64 a3, .int .i64 a4] w fun e w' => e = .returned (.bool true) ∧ Ext w w' := by
  obtain ⟨x0, x1⟩ := @pickF_bd a0 48 (by omega)
  obtain ⟨y0, y1⟩ := @pickF_bd a1 24 (by omega)
  obtain ⟨u0, u1⟩ := @pickF_bd a2 48 (by omega)
  obtain ⟨v0, v1⟩ := @pickF_bd a3 24 (by omega)
  obtain ⟨t0, t1⟩ := @pickF_bd a4 1000001 (by omega)
  have hm : Sun.minB (pickF a4 1000001) = true := Sun.minB_t.2 (by omega)
  obtain ⟨f1, f2, f3⟩ := @Sun.height_ac (pickF a0 48) (pickF a2 48) (pickF a1 24) (pickF a4 1000001)
  obtain ⟨f4, f5, f6⟩ := @Sun.height_ds (pickF a0 48) (pickF a1 24) (pickF a3 24) (pickF a4 1000001)
  obtain ⟨g1, g2, g3⟩ := Sun.ds_is (pickF a1 24) (pickF a4 1000001)
  obtain ⟨g4, g5, g6⟩ := Sun.ds_is (pickF a3 24) (pickF a4 1000001)
  obtain ⟨b1, b2⟩ := @Sun.height_bd (pickF a0 48) (pickF a1 24) (pickF a4 1000001) t0 x0 (by omega) y0 (by omega)
  obtain ⟨b3, b4⟩ := @Sun.height_bd (pickF a2 48) (pickF a1 24) (pickF a4 1000001) t0 u0 (by omega) y0 (by omega)
  obtain ⟨b5, b6⟩ := @Sun.height_bd (pickF a0 48) (pickF a3 24) (pickF a4 1000001) t0 x0 (by omega) v0 (by omega)
  obtain ⟨e1, e2⟩ := @Sun.ac_bd (pickF a0 48) (pickF a4 1000001) t0 x0 (by omega)
  obtain ⟨e3, e4⟩ := @Sun.ac_bd (pickF a2 48) (pickF a4 1000001) t0 u0 (by omega)
  have hsb := Sun.season_bd (pickF a4 1000001)
  have s1 : 0 ≤ Sun.ds (pickF a1 24) (pickF a4 1000001) ∧ Sun.ds (pickF a1 24) (pickF a4 1000001) ≤ 24000 := by omega
  have s2 : 0 ≤ Sun.ds (pickF a3 24) (pickF a4 1000001) ∧ Sun.ds (pickF a3 24) (pickF a4 1000001) ≤ 24000 := by omega
  have F1 := Lib.hid f1; have F2 := Lib.hid f2; have F3 := Lib.hid f3; have F4 := Lib.hid f4; have F5 := Lib.hid f5; have F6 := Lib.hid f6; have G3 := Lib.hid g3; have G6 := Lib.hid g6
  clear f1 f2 f3 f4 f5 f6 g3 g6
  go_enter Tryd.func5, Tryd.ntmps5
  go_wp2_with (first | (go_at_call 11; refine (sane_c _ hT).mono ?_; rintro e wS ⟨rfl, hbS⟩; have hcS := hbS.cellE; have hfS := hbS.frozenE; have hzS := hbS.size; have haS := alloc_keeps wS; (try simp only [World.size_alloc] at hcS hfS hzS); (try simp only [World.size_setCell] at hcS hfS hzS); (try simp only [World.size_drew] at hcS hfS hzS)) | (go_at_call 13; refine (pick_c _ _ _ (by assumption) (by omega) (by omega)).mono ?_; rintro e w' ⟨rfl, rfl⟩) | (go_at_call 12; refine (rCell_c _ _ _ (by assumption) (by assumption)).mono ?_; rintro e wC ⟨rfl, hbC⟩; have hcC := hbC.cellE; have hfC := hbC.frozenE; have hzC := hbC.size; have haC := alloc_keeps wC; (try simp only [World.size_alloc] at hcC hfC hzC); (try simp only [World.size_setCell] at hcC hfC hzC); (try simp only [World.size_drew] at hcC hfC hzC)))
  refine wp_name (fun V => Ext w V ∧ V.cell? ⟨wC.heap.size, 0, none⟩ = some (.int .i64 (pickF a0 48)) ∧ V.cell? ⟨wC.heap.size, 1, none⟩ = some (.int .i64 (pickF a1 24))) ⟨by (repeat' (first | (with_reducible assumption) | (with_reducible exact Ext.refl _) | (with_reducible refine Ext.alloc ?_ _) | (with_reducible refine Ext.drew ?_) | (with_reducible refine Ext.drewN ?_ _) | (with_reducible refine Ext.setCell ?_ ?_ _) | (with_reducible refine Ext.trans ?_ (by assumption)) | go_size)), by simp [go_sem], by simp [go_sem]⟩ ?_
  rintro V ⟨hE, c0, c1⟩
  have hV := World.block_lt_of_cell? V _ c0
  generalize wC.heap.size = B at *
  clear hcC hfC hzC haC hbC hcS hfS hzS haS hbS
  apply wp_merge (fun U => Ext w U ∧ U.cell? ⟨B, 0, none⟩ = some (.int .i64 (pickF a0 48)) ∧ U.cell? ⟨B, 1, none⟩ = some (.int .i64 (pickF a1 24)) ∧ U.cell? ⟨V.heap.size, 0, none⟩ = some (.int .i64 (pickF a2 48)) ∧ U.cell? ⟨V.heap.size, 1, none⟩ = some (.int .i64 (pickF a1 24)))
  case h1 =>
    go_region_held3 (fun w' => w'.cell? ⟨B, 0, none⟩ = some (.int .i64 (pickF a0 48)) ∧ w'.cell? ⟨B, 1, none⟩ = some (.int .i64 (pickF a1 24)) ∧ Ext V w')
      ((first | ((repeat' (with_reducible apply And.intro)) <;> (first | (with_reducible assumption) | (simp [go_sem]; done) | ((repeat' (first | (with_reducible assumption) | (with_reducible exact Ext.refl _) | (with_reducible refine Ext.alloc ?_ _) | (with_reducible refine Ext.drew ?_) | (with_reducible refine Ext.drewN ?_ _) | (with_reducible refine Ext.setCell ?_ ?_ _) | (with_reducible refine Ext.trans ?_ (by assumption)) | go_size)); done) | (refine Ext.cell ?_ (by assumption); (repeat' (first | (with_reducible assumption) | (with_reducible exact Ext.refl _) | (with_reducible refine Ext.alloc ?_ _) | (with_reducible refine Ext.drew ?_) | (with_reducible refine Ext.drewN ?_ _) | (with_reducible refine Ext.setCell ?_ ?_ _) | (with_reducible refine Ext.trans ?_ (by assumption)) | go_size)); done)))))
      ((go_at_call 13; refine (pick_c _ _ _ (by assumption) (by omega) (by omega)).mono ?_; rintro e w' ⟨rfl, rfl⟩))
    all_goals exact ⟨rfl, rfl, by (repeat' (first | (with_reducible assumption) | (with_reducible exact Ext.refl _) | (with_reducible refine Ext.alloc ?_ _) | (with_reducible refine Ext.drew ?_) | (with_reducible refine Ext.drewN ?_ _) | (with_reducible refine Ext.setCell ?_ ?_ _) | (with_reducible refine Ext.trans ?_ (by assumption)) | go_size)), Ext.cell (by (repeat' (first | (with_reducible assumption) | (with_reducible exact Ext.refl _) | (with_reducible refine Ext.alloc ?_ _) | (with_reducible refine Ext.drew ?_) | (with_reducible refine Ext.drewN ?_ _) | (with_reducible refine Ext.setCell ?_ ?_ _) | (with_reducible refine Ext.trans ?_ (by assumption)) | go_size))) c0, Ext.cell (by (repeat' (first | (with_reducible assumption) | (with_reducible exact Ext.refl _) | (with_reducible refine Ext.alloc ?_ _) | (with_reducible refine Ext.drew ?_) | (with_reducible refine Ext.drewN ?_ _) | (with_reducible refine Ext.setCell ?_ ?_ _) | (with_reducible refine Ext.trans ?_ (by assumption)) | go_size))) c1, by simp [go_sem], by simp [go_sem]⟩
  case h2 =>
   rintro U ⟨hEU, c2, c3, d0, d1⟩
   have hU := World.block_lt_of_cell? U _ c2
   have hU2 := World.block_lt_of_cell? U _ d0
   generalize V.heap.size = D at *
   clear c0 c1 hV hE
   go_wp2_with fail
   apply wp_merge (fun U' => Ext w U' ∧ U'.cell? ⟨B, 0, none⟩ = some (.int .i64 (pickF a0 48)) ∧ U'.cell? ⟨B, 1, none⟩ = some (.int .i64 (pickF a1 24)) ∧ U'.cell? ⟨D, 0, none⟩ = some (.int .i64 (pickF a2 48)) ∧ U'.cell? ⟨D, 1, none⟩ = some (.int .i64 (pickF a1 24)) ∧ U'.cell? ⟨U.heap.size, 0, none⟩ = some (.int .i64 (pickF a0 48)) ∧ U'.cell? ⟨U.heap.size, 1, none⟩ = some (.int .i64 (pickF a3 24)))
   case h1 =>
    go_region_held3 (fun w' => w'.cell? ⟨B, 0, none⟩ = some (.int .i64 (pickF a0 48)) ∧ w'.cell? ⟨B, 1, none⟩ = some (.int .i64 (pickF a1 24)) ∧ Ext U w')
      ((first | ((repeat' (with_reducible apply And.intro)) <;> (first | (with_reducible assumption) | (simp [go_sem]; done) | ((repeat' (first | (with_reducible assumption) | (with_reducible exact Ext.refl _) | (with_reducible refine Ext.alloc ?_ _) | (with_reducible refine Ext.drew ?_) | (with_reducible refine Ext.drewN ?_ _) | (with_reducible refine Ext.setCell ?_ ?_ _) | (with_reducible refine Ext.trans ?_ (by assumption)) | go_size)); done) | (refine Ext.cell ?_ (by assumption); (repeat' (first | (with_reducible assumption) | (with_reducible exact Ext.refl _) | (with_reducible refine Ext.alloc ?_ _) | (with_reducible refine Ext.drew ?_) | (with_reducible refine Ext.drewN ?_ _) | (with_reducible refine Ext.setCell ?_ ?_ _) | (with_reducible refine Ext.trans ?_ (by assumption)) | go_size)); done)))))
      ((go_at_call 13; refine (pick_c _ _ _ (by assumption) (by omega) (by omega)).mono ?_; rintro e w' ⟨rfl, rfl⟩))
    all_goals exact ⟨rfl, rfl, by (repeat' (first | (with_reducible assumption) | (with_reducible exact Ext.refl _) | (with_reducible refine Ext.alloc ?_ _) | (with_reducible refine Ext.drew ?_) | (with_reducible refine Ext.drewN ?_ _) | (with_reducible refine Ext.setCell ?_ ?_ _) | (with_reducible refine Ext.trans ?_ (by assumption)) | go_size)), Ext.cell (by (repeat' (first | (with_reducible assumption) | (with_reducible exact Ext.refl _) | (with_reducible refine Ext.alloc ?_ _) | (with_reducible refine Ext.drew ?_) | (with_reducible refine Ext.drewN ?_ _) | (with_reducible refine Ext.setCell ?_ ?_ _) | (with_reducible refine Ext.trans ?_ (by assumption)) | go_size))) c2, Ext.cell (by (repeat' (first | (with_reducible assumption) | (with_reducible exact Ext.refl _) | (with_reducible refine Ext.alloc ?_ _) | (with_reducible refine Ext.drew ?_) | (with_reducible refine Ext.drewN ?_ _) | (with_reducible refine Ext.setCell ?_ ?_ _) | (with_reducible refine Ext.trans ?_ (by assumption)) | go_size))) c3, Ext.cell (by (repeat' (first | (with_reducible assumption) | (with_reducible exact Ext.refl _) | (with_reducible refine Ext.alloc ?_ _) | (with_reducible refine Ext.drew ?_) | (with_reducible refine Ext.drewN ?_ _) | (with_reducible refine Ext.setCell ?_ ?_ _) | (with_reducible refine Ext.trans ?_ (by assumption)) | go_size))) d0, Ext.cell (by (repeat' (first | (with_reducible assumption) | (with_reducible exact Ext.refl _) | (with_reducible refine Ext.alloc ?_ _) | (with_reducible refine Ext.drew ?_) | (with_reducible refine Ext.drewN ?_ _) | (with_reducible refine Ext.setCell ?_ ?_ _) | (with_reducible refine Ext.trans ?_ (by assumption)) | go_size))) d1, by simp [go_sem], by simp [go_sem]⟩
   case h2 =>
    rintro T ⟨hE, c0, c1, d2, d3, p0, p1⟩
    have hT := World.block_lt_of_cell? T _ c0
    have hT2 := World.block_lt_of_cell? T _ d2
    have hT3 := World.block_lt_of_cell? T _ p0
    generalize U.heap.size = G at *
    clear c2 c3 d0 d1 hU hU2 hEU
    generalize pickF a0 48 = X at *
    generalize pickF a1 24 = Y at *
    generalize pickF a2 48 = X2 at *
    generalize pickF a3 24 = Y2 at *
    generalize pickF a4 1000001 = mi at *
    clear hT hT2 hT3
    go_upto_region 15 with (first | (go_at_call 18; refine (Height_yes _ _ _ _ hm (Globe.vcB_t.2 (by omega))).mono ?_; rintro e wH ⟨rfl, hb⟩; replace hE := hE.trans hb; replace c0 := hb.cell c0; replace c1 := hb.cell c1; replace d2 := hb.cell d2; replace d3 := hb.cell d3; replace p0 := hb.cell p0; replace p1 := hb.cell p1; clear hb) | (go_at_call 16; refine (Season_yes _ _ hm).mono ?_; rintro e wN ⟨rfl, hb⟩; replace hE := hE.trans hb; replace c0 := hb.cell c0; replace c1 := hb.cell c1; replace d2 := hb.cell d2; replace d3 := hb.cell d3; replace p0 := hb.cell p0; replace p1 := hb.cell p1; clear hb) | (go_at_call 31; refine (across_c _ _ _ hm (by omega) (by omega)).mono ?_; rintro e w' ⟨rfl, rfl⟩))
    clear c0 d2 d3 p0 x0 x1 u0 u1 t0 t1 hm
    generalize Sun.height X Y mi = ha at *
    generalize Sun.height X2 Y mi = hd at *
    generalize Sun.height X Y2 mi = hu at *
    generalize Sun.ac X mi = one at *
    generalize Sun.ac X2 mi = two at *
    generalize Sun.ds Y mi = dp at *
    generalize Sun.ds Y2 mi = dq at *
    generalize Sun.season mi = se at *
    go_cut [131] from 29 to 131 (fun s w' => s = .bool false ∧ w' = wN)
    case first =>
      have f1 := F1.out; have f2 := F2.out
      go_wp2_with fail
      all_goals go_meet
      all_goals first | exact ⟨rfl, rfl⟩ | exact ⟨congrArg Value.bool (by simp; omega), rfl⟩
    case rest =>
    obtain ⟨rfl, rfl⟩ := hcut
    go_upto_region 17 with fail
    go_cut [17, 25, 151] from 132 to 151 (fun s17 s25 s w' => s = .bool false ∧ w' = wc ∧ s17 = .int .i64 hd ∧ s25 = .int .i64 two)
    case first =>
      have f3 := F3.out
      go_wp2_with fail
      all_goals go_meet
      all_goals refine ⟨?_, rfl, by first | rfl | exact congrArg _ (by omega), by first | rfl | exact congrArg _ (by omega)⟩
      all_goals first | rfl | exact congrArg Value.bool (by simp; omega)
    case rest =>
    obtain ⟨rfl, rfl, rfl, rfl⟩ := hcut
    go_upto_region 19 with fail
    go_cut [27] from 152 to 164 (fun s w' => s = .int .i64 dp ∧ w' = wc)
    case first =>
      have g3 := G3.out
      go_wp2_with fail
      all_goals go_meet
      all_goals exact ⟨congrArg _ (by omega), rfl⟩
    case rest =>
    obtain ⟨rfl, rfl⟩ := hcut
    go_upto_region 20 with fail
    go_cut [28] from 165 to 177 (fun s w' => s = .int .i64 dq ∧ w' = wc)
    case first =>
      have g6 := G6.out
      go_wp2_with fail
      all_goals go_meet
      all_goals exact ⟨congrArg _ (by omega), rfl⟩
    case rest =>
    obtain ⟨rfl, rfl⟩ := hcut
    go_upto_region 21 with fail
    go_cut [195] from 178 to 195 (fun s w' => s = .bool false ∧ w' = wc)
    case first =>
      have f4 := F4.out; have f5 := F5.out
      go_wp2_with fail
      all_goals go_meet
      all_goals first | exact ⟨rfl, rfl⟩ | exact ⟨congrArg Value.bool (by simp; omega), rfl⟩
    case rest =>
    obtain ⟨rfl, rfl⟩ := hcut
    have f6 := F6.out
    go_wp2_with fail
    all_goals (go_ret; first | exact ⟨rfl, hE⟩ | (refine ⟨ret_bool ?_, hE⟩; rcases F6.out with h | h | h | h <;> first | omega | (simp [h]; done)))

end Go.Proofs.YtknlnmalaidaiaaDoor
