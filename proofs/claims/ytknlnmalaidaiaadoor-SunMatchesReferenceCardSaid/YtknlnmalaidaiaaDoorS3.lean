/- Contracts of the reference's functions on the sun, and of the small helpers. -/
import Derived.Test.YtknlnmalaidaiaaDoorR1
import Derived.Test.YtknlnmalaidaiaaDoorM6
namespace Go.Proofs.YtknlnmalaidaiaaDoor
open Go.RowKit

theorem rminute_c (t : Int) (w : World) : Calls Tryd.prog 35 #[.int .i64 t] w fun e w' => e = .returned (.bool (Sun.minB t)) ∧ w = w' := by
  go_enter Tryd.func35, Tryd.ntmps35
  go_wp2
  all_goals (go_ret; refine ⟨ret_bool ?_, rfl⟩; first | (rw [Sun.minB_f.2 (by omega)]; done) | (simp [Sun.minB]; omega))

theorem down_c (n : Int) (w : World) (h0 : -1000000000 ≤ n) (h1 : n ≤ 1000000000) : Calls Tryd.prog 36 #[.int .i64 n] w fun e w' => e = .returned (.int .i64 (n / 3)) ∧ w = w' := by
  by_cases h : n < 0
  · go_enter Tryd.func36, Tryd.ntmps36
    go_wp2
    all_goals (go_ret; exact ⟨ret_int (by omega), rfl⟩)
  · go_enter Tryd.func36, Tryd.ntmps36
    go_wp2
    all_goals (go_ret; exact ⟨rfl, rfl⟩)

theorem raway_c (a b : Int) (w : World) (h1 : -1000000000 ≤ a) (h2 : a ≤ 1000000000) (h3 : -1000000000 ≤ b) (h4 : b ≤ 1000000000) :
    Calls Tryd.prog 41 #[.int .i64 a, .int .i64 b] w fun e w' => e = .returned (.int .i64 (Sun.away a b)) ∧ w = w' := by
  go_enter Tryd.func41, Tryd.ntmps41
  go_wp2
  all_goals (go_ret; refine ⟨ret_int ?_, rfl⟩; unfold Sun.away; omega)

theorem rNoon_yes (t : Int) (w : World) (h : Sun.minB t = true) : Calls Tryd.prog 15 #[.int .i64 t] w fun e w' => e = .returned (.tuple #[.int .i64 (Sun.noon t), .int .i64 0]) ∧ w = w' := by
  obtain ⟨h0, h1⟩ := Sun.minB_t.1 h
  go_enter Tryd.func15, Tryd.ntmps15
  go_wp2_with (first | (go_at_call 35; refine (rminute_c _ _).mono ?_; rintro e w' ⟨rfl, rfl⟩) | (go_at_call 36; refine (down_c _ _ (by omega) (by omega)).mono ?_; rintro e w' ⟨rfl, rfl⟩))
  go_ret2
  exact ⟨rfl, rfl⟩
theorem rNoon_no (t : Int) (w : World) (h : Sun.minB t = false) : Calls Tryd.prog 15 #[.int .i64 t] w fun e w' => e = .returned (.tuple #[.int .i64 0, .int .i64 60]) ∧ w = w' := by
  go_enter Tryd.func15, Tryd.ntmps15
  go_wp2_with (go_at_call 35; refine (rminute_c _ _).mono ?_; rintro e w' ⟨rfl, rfl⟩)
  go_ret2
  exact ⟨rfl, rfl⟩

theorem rSeason_yes (t : Int) (w : World) (h : Sun.minB t = true) : Calls Tryd.prog 17 #[.int .i64 t] w fun e w' => e = .returned (.tuple #[.int .i64 (Sun.season t), .int .i64 0]) ∧ w = w' := by
  obtain ⟨h0, h1⟩ := Sun.minB_t.1 h
  go_enter Tryd.func17, Tryd.ntmps17
  go_wp2_with (first | (go_at_call 35; refine (rminute_c _ _).mono ?_; rintro e w' ⟨rfl, rfl⟩) | (go_at_call 36; refine (down_c _ _ (by omega) (by omega)).mono ?_; rintro e w' ⟨rfl, rfl⟩))
  all_goals (go_ret2; refine ⟨ret2_int ?_, rfl⟩; first | (rw [Sun.season_a (by omega)]; omega) | (rw [Sun.season_b (by omega) (by omega)]; omega) | (rw [Sun.season_c (by omega)]; omega))
theorem rSeason_no (t : Int) (w : World) (h : Sun.minB t = false) : Calls Tryd.prog 17 #[.int .i64 t] w fun e w' => e = .returned (.tuple #[.int .i64 0, .int .i64 60]) ∧ w = w' := by
  go_enter Tryd.func17, Tryd.ntmps17
  go_wp2_with (go_at_call 35; refine (rminute_c _ _).mono ?_; rintro e w' ⟨rfl, rfl⟩)
  go_ret2
  exact ⟨rfl, rfl⟩

theorem rHeight_yes (x y t : Int) (w : World) (h : Sun.minB t = true) (hv : Globe.vcB x y = true) :
    Calls Tryd.prog 19 #[.agg #[.int .i64 x, .int .i64 y], .int .i64 t] w fun e w' => e = .returned (.tuple #[.int .i64 (Sun.height x y t), .int .i64 0]) ∧ Ext w w' := by
  obtain ⟨h0, h1⟩ := Sun.minB_t.1 h
  obtain ⟨h2, h3, h4, h5⟩ := Globe.vcB_t.1 hv
  have hn := Sun.noon_bd h0
  have hs := Sun.season_bd t
  have ha := @Sun.away_bd (1000 * x + 500) (Sun.noon t) 48000 (by omega) (by omega) (by omega) (by omega)
  have hy := @Sun.away_bd (1000 * y + 500) (Sun.season t) 24000 (by omega) (by omega) (by omega) (by omega)
  go_enter Tryd.func19, Tryd.ntmps19
  go_wp2_with (first | (go_at_call 40; refine (rValidCell_c _ _ _).mono ?_; rintro e w1 ⟨rfl, hb⟩; have hc := hb.cellE; have hf := hb.frozenE; have hz := hb.size; have ha := alloc_keeps w1; (try simp only [World.size_alloc] at hc hf hz); (try simp only [World.size_setCell] at hc hf hz); (try simp only [World.size_drew] at hc hf hz)) | (go_at_call 15; refine (rNoon_yes _ _ h).mono ?_; rintro e w' ⟨rfl, rfl⟩) | (go_at_call 17; refine (rSeason_yes _ _ h).mono ?_; rintro e w' ⟨rfl, rfl⟩) | (go_at_call 41; refine (raway_c _ _ _ (by omega) (by omega) (by omega) (by omega)).mono ?_; rintro e w' ⟨rfl, rfl⟩))
  all_goals (go_ret2; exact ⟨ret2_int (by unfold Sun.height Sun.ac Sun.ds; omega), by (repeat' (first | (with_reducible assumption) | (with_reducible exact Ext.refl _) | (with_reducible refine Ext.alloc ?_ _) | (with_reducible refine Ext.drew ?_) | (with_reducible refine Ext.drewN ?_ _) | (with_reducible refine Ext.setCell ?_ ?_ _) | (with_reducible refine Ext.trans ?_ (by assumption)) | go_size))⟩)
theorem rHeight_no (x y t : Int) (w : World) (h : (Sun.minB t && Globe.vcB x y) = false) :
    Calls Tryd.prog 19 #[.agg #[.int .i64 x, .int .i64 y], .int .i64 t] w fun e w' => e = .returned (.tuple #[.int .i64 0, .int .i64 60]) ∧ Ext w w' := by
  cases hm : Sun.minB t
  · clear h
    go_enter Tryd.func19, Tryd.ntmps19
    go_wp2_with (first | (go_at_call 15; refine (rNoon_no _ _ hm).mono ?_; rintro e w' ⟨rfl, rfl⟩) | (go_at_call 17; refine (rSeason_no _ _ hm).mono ?_; rintro e w' ⟨rfl, rfl⟩) | (go_at_call 40; refine (rValidCell_c _ _ _).mono ?_; rintro e w1 ⟨rfl, hb⟩; have hc := hb.cellE; have hf := hb.frozenE; have hz := hb.size; have ha := alloc_keeps w1; (try simp only [World.size_alloc] at hc hf hz); (try simp only [World.size_setCell] at hc hf hz); (try simp only [World.size_drew] at hc hf hz)))
    all_goals (go_ret2; exact ⟨rfl, by (repeat' (first | (with_reducible assumption) | (with_reducible exact Ext.refl _) | (with_reducible refine Ext.alloc ?_ _) | (with_reducible refine Ext.drew ?_) | (with_reducible refine Ext.drewN ?_ _) | (with_reducible refine Ext.setCell ?_ ?_ _) | (with_reducible refine Ext.trans ?_ (by assumption)) | go_size))⟩)
  · have hv : Globe.vcB x y = false := by simpa [hm] using h
    clear h
    go_enter Tryd.func19, Tryd.ntmps19
    go_wp2_with (first | (go_at_call 15; refine (rNoon_yes _ _ hm).mono ?_; rintro e w' ⟨rfl, rfl⟩) | (go_at_call 17; refine (rSeason_yes _ _ hm).mono ?_; rintro e w' ⟨rfl, rfl⟩) | (go_at_call 40; refine (rValidCell_c _ _ _).mono ?_; rintro e w1 ⟨rfl, hb⟩; have hc := hb.cellE; have hf := hb.frozenE; have hz := hb.size; have ha := alloc_keeps w1; (try simp only [World.size_alloc] at hc hf hz); (try simp only [World.size_setCell] at hc hf hz); (try simp only [World.size_drew] at hc hf hz)))
    all_goals (go_ret2; exact ⟨rfl, by (repeat' (first | (with_reducible assumption) | (with_reducible exact Ext.refl _) | (with_reducible refine Ext.alloc ?_ _) | (with_reducible refine Ext.drew ?_) | (with_reducible refine Ext.drewN ?_ _) | (with_reducible refine Ext.setCell ?_ ?_ _) | (with_reducible refine Ext.trans ?_ (by assumption)) | go_size))⟩)

theorem rLit_c (x y t : Int) (w : World) :
    Calls Tryd.prog 23 #[.agg #[.int .i64 x, .int .i64 y], .int .i64 t] w fun e w' => e = .returned (.bool (Sun.litB x y t)) ∧ Ext w w' := by
  cases hb : (Sun.minB t && Globe.vcB x y)
  · have hr : Sun.litB x y t = false := by rw [Sun.litB, hb]; rfl
    have Hr := Lib.hid hr; clear hr
    go_enter Tryd.func23, Tryd.ntmps23
    go_wp2_with (go_at_call 19; refine (rHeight_no _ _ _ _ hb).mono ?_; rintro e w1 ⟨rfl, hb⟩; have hc := hb.cellE; have hf := hb.frozenE; have hz := hb.size; have ha := alloc_keeps w1; (try simp only [World.size_alloc] at hc hf hz); (try simp only [World.size_setCell] at hc hf hz); (try simp only [World.size_drew] at hc hf hz))
    all_goals (go_ret; exact ⟨ret_bool (by rw [Hr.out]), by (repeat' (first | (with_reducible assumption) | (with_reducible exact Ext.refl _) | (with_reducible refine Ext.alloc ?_ _) | (with_reducible refine Ext.drew ?_) | (with_reducible refine Ext.drewN ?_ _) | (with_reducible refine Ext.setCell ?_ ?_ _) | (with_reducible refine Ext.trans ?_ (by assumption)) | go_size))⟩)
  · obtain ⟨h1, h2⟩ := Bool.and_eq_true_iff.1 hb
    have hr : Sun.litB x y t = decide (0 < Sun.height x y t) := by rw [Sun.litB, hb]; rfl
    have Hr := Lib.hid hr; clear hr
    go_enter Tryd.func23, Tryd.ntmps23
    go_wp2_with (go_at_call 19; refine (rHeight_yes _ _ _ _ h1 h2).mono ?_; rintro e w1 ⟨rfl, hb⟩; have hc := hb.cellE; have hf := hb.frozenE; have hz := hb.size; have ha := alloc_keeps w1; (try simp only [World.size_alloc] at hc hf hz); (try simp only [World.size_setCell] at hc hf hz); (try simp only [World.size_drew] at hc hf hz))
    all_goals (go_ret; exact ⟨ret_bool (by rw [Hr.out]), by (repeat' (first | (with_reducible assumption) | (with_reducible exact Ext.refl _) | (with_reducible refine Ext.alloc ?_ _) | (with_reducible refine Ext.drew ?_) | (with_reducible refine Ext.drewN ?_ _) | (with_reducible refine Ext.setCell ?_ ?_ _) | (with_reducible refine Ext.trans ?_ (by assumption)) | go_size))⟩)

theorem rDark_c (x y t : Int) (w : World) :
    Calls Tryd.prog 25 #[.agg #[.int .i64 x, .int .i64 y], .int .i64 t] w fun e w' => e = .returned (.bool (Sun.darkB x y t)) ∧ Ext w w' := by
  cases hb : (Sun.minB t && Globe.vcB x y)
  · have hr : Sun.darkB x y t = false := by rw [Sun.darkB, hb]; rfl
    have Hr := Lib.hid hr; clear hr
    go_enter Tryd.func25, Tryd.ntmps25
    go_wp2_with (go_at_call 19; refine (rHeight_no _ _ _ _ hb).mono ?_; rintro e w1 ⟨rfl, hb⟩; have hc := hb.cellE; have hf := hb.frozenE; have hz := hb.size; have ha := alloc_keeps w1; (try simp only [World.size_alloc] at hc hf hz); (try simp only [World.size_setCell] at hc hf hz); (try simp only [World.size_drew] at hc hf hz))
    all_goals (go_ret; exact ⟨ret_bool (by rw [Hr.out]), by (repeat' (first | (with_reducible assumption) | (with_reducible exact Ext.refl _) | (with_reducible refine Ext.alloc ?_ _) | (with_reducible refine Ext.drew ?_) | (with_reducible refine Ext.drewN ?_ _) | (with_reducible refine Ext.setCell ?_ ?_ _) | (with_reducible refine Ext.trans ?_ (by assumption)) | go_size))⟩)
  · obtain ⟨h1, h2⟩ := Bool.and_eq_true_iff.1 hb
    have hr : Sun.darkB x y t = decide (Sun.height x y t < -20) := by rw [Sun.darkB, hb]; rfl
    have Hr := Lib.hid hr; clear hr
    go_enter Tryd.func25, Tryd.ntmps25
    go_wp2_with (go_at_call 19; refine (rHeight_yes _ _ _ _ h1 h2).mono ?_; rintro e w1 ⟨rfl, hb⟩; have hc := hb.cellE; have hf := hb.frozenE; have hz := hb.size; have ha := alloc_keeps w1; (try simp only [World.size_alloc] at hc hf hz); (try simp only [World.size_setCell] at hc hf hz); (try simp only [World.size_drew] at hc hf hz))
    all_goals (go_ret; exact ⟨ret_bool (by rw [Hr.out]), by (repeat' (first | (with_reducible assumption) | (with_reducible exact Ext.refl _) | (with_reducible refine Ext.alloc ?_ _) | (with_reducible refine Ext.drew ?_) | (with_reducible refine Ext.drewN ?_ _) | (with_reducible refine Ext.setCell ?_ ?_ _) | (with_reducible refine Ext.trans ?_ (by assumption)) | go_size))⟩)

end Go.Proofs.YtknlnmalaidaiaaDoor
