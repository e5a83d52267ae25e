/- Contracts of package sun: Season, Height, Lit, Dark. -/
import Derived.Test.YtknlnmalaidaiaaDoorS1
namespace Go.Proofs.YtknlnmalaidaiaaDoor
open Go.RowKit

theorem part_0 (w : World) : (Instr.index 58 (.agg #[.int .i64 90, .func (.func 47) #[] #[], .int .i64 270, .func (.func 48) #[] #[], .int .i64 360, .func (.func 49) #[] #[]]) (.int .i64 0)).run Tryd.prog w = .ok (.agg #[.int .i64 90, .func (.func 47) #[] #[]]) w := by kernel_rfl
theorem part_1 (w : World) : (Instr.index 58 (.agg #[.int .i64 90, .func (.func 47) #[] #[], .int .i64 270, .func (.func 48) #[] #[], .int .i64 360, .func (.func 49) #[] #[]]) (.int .i64 1)).run Tryd.prog w = .ok (.agg #[.int .i64 270, .func (.func 48) #[] #[]]) w := by kernel_rfl
theorem part_2 (w : World) : (Instr.index 58 (.agg #[.int .i64 90, .func (.func 47) #[] #[], .int .i64 270, .func (.func 48) #[] #[], .int .i64 360, .func (.func 49) #[] #[]]) (.int .i64 2)).run Tryd.prog w = .ok (.agg #[.int .i64 360, .func (.func 49) #[] #[]]) w := by kernel_rfl

theorem Season_yes (t : Int) (w : World) (h : Sun.minB t = true) : Calls Tryd.prog 16 #[.int .i64 t] w fun e w' => e = .returned (.tuple #[.int .i64 (Sun.season t), .int .i64 0]) ∧ Ext w w' := by
  obtain ⟨h0, h1⟩ := Sun.minB_t.1 h
  have i0 := part_0
  have i1 := part_1
  have i2 := part_2
  by_cases c1 : t / 1440 % 360 ≤ 90
  · go_enter Tryd.func16, Tryd.ntmps16
    go_wp2_with (first | (go_at_call 33; refine (isMinute_c _ _).mono ?_; rintro e w' ⟨rfl, rfl⟩) | (go_at_call 37; refine (parts_c _).mono ?_; rintro e w1 ⟨rfl, hb⟩; have hc := hb.cellE; have hf := hb.frozenE; have hz := hb.size; have ha := alloc_keeps w1; (try simp only [World.size_alloc] at hc hf hz); (try simp only [World.size_setCell] at hc hf hz); (try simp only [World.size_drew] at hc hf hz)))
    refine wp_loop_rounds 4 ?_
    rw [rounds_succ]
    go_wp2_with (first | (go_at_call 47; refine (part1_c _ _ (by omega) (by omega)).mono ?_; rintro e w' ⟨rfl, rfl⟩) | (go_at_call 34; refine (third_c _ _ (by omega) (by omega)).mono ?_; rintro e w' ⟨rfl, rfl⟩))
    go_ret2
    exact ⟨by rw [Sun.season_a (by omega)]; rfl, by (repeat' (first | (with_reducible assumption) | (with_reducible exact Ext.refl _) | (with_reducible refine Ext.alloc ?_ _) | (with_reducible refine Ext.drew ?_) | (with_reducible refine Ext.drewN ?_ _) | (with_reducible refine Ext.setCell ?_ ?_ _) | (with_reducible refine Ext.trans ?_ (by assumption)) | go_size))⟩
  · by_cases c2 : t / 1440 % 360 ≤ 270
    · go_enter Tryd.func16, Tryd.ntmps16
      go_wp2_with (first | (go_at_call 33; refine (isMinute_c _ _).mono ?_; rintro e w' ⟨rfl, rfl⟩) | (go_at_call 37; refine (parts_c _).mono ?_; rintro e w1 ⟨rfl, hb⟩; have hc := hb.cellE; have hf := hb.frozenE; have hz := hb.size; have ha := alloc_keeps w1; (try simp only [World.size_alloc] at hc hf hz); (try simp only [World.size_setCell] at hc hf hz); (try simp only [World.size_drew] at hc hf hz)))
      refine wp_loop_rounds 4 ?_
      rw [rounds_succ]
      go_wp2_with fail
      rw [rounds_succ]
      go_wp2_with (first | (go_at_call 48; refine (part2_c _ _ (by omega) (by omega)).mono ?_; rintro e w' ⟨rfl, rfl⟩) | (go_at_call 34; refine (third_c _ _ (by omega) (by omega)).mono ?_; rintro e w' ⟨rfl, rfl⟩))
      go_ret2
      exact ⟨by rw [Sun.season_b (by omega) (by omega)]; rfl, by (repeat' (first | (with_reducible assumption) | (with_reducible exact Ext.refl _) | (with_reducible refine Ext.alloc ?_ _) | (with_reducible refine Ext.drew ?_) | (with_reducible refine Ext.drewN ?_ _) | (with_reducible refine Ext.setCell ?_ ?_ _) | (with_reducible refine Ext.trans ?_ (by assumption)) | go_size))⟩
    · go_enter Tryd.func16, Tryd.ntmps16
      go_wp2_with (first | (go_at_call 33; refine (isMinute_c _ _).mono ?_; rintro e w' ⟨rfl, rfl⟩) | (go_at_call 37; refine (parts_c _).mono ?_; rintro e w1 ⟨rfl, hb⟩; have hc := hb.cellE; have hf := hb.frozenE; have hz := hb.size; have ha := alloc_keeps w1; (try simp only [World.size_alloc] at hc hf hz); (try simp only [World.size_setCell] at hc hf hz); (try simp only [World.size_drew] at hc hf hz)))
      refine wp_loop_rounds 4 ?_
      rw [rounds_succ]
      go_wp2_with fail
      rw [rounds_succ]
      go_wp2_with fail
      rw [rounds_succ]
      go_wp2_with (first | (go_at_call 49; refine (part3_c _ _ (by omega) (by omega)).mono ?_; rintro e w' ⟨rfl, rfl⟩) | (go_at_call 34; refine (third_c _ _ (by omega) (by omega)).mono ?_; rintro e w' ⟨rfl, rfl⟩))
      go_ret2
      exact ⟨by rw [Sun.season_c (by omega)]; rfl, by (repeat' (first | (with_reducible assumption) | (with_reducible exact Ext.refl _) | (with_reducible refine Ext.alloc ?_ _) | (with_reducible refine Ext.drew ?_) | (with_reducible refine Ext.drewN ?_ _) | (with_reducible refine Ext.setCell ?_ ?_ _) | (with_reducible refine Ext.trans ?_ (by assumption)) | go_size))⟩
theorem Season_no (t : Int) (w : World) (h : Sun.minB t = false) : Calls Tryd.prog 16 #[.int .i64 t] w fun e w' => e = .returned (.tuple #[.int .i64 0, .int .i64 60]) ∧ Ext w w' := by
  go_enter Tryd.func16, Tryd.ntmps16
  go_wp2_with (go_at_call 33; refine (isMinute_c _ _).mono ?_; rintro e w' ⟨rfl, rfl⟩)
  go_ret2
  exact ⟨rfl, by (repeat' (first | (with_reducible assumption) | (with_reducible exact Ext.refl _) | (with_reducible refine Ext.alloc ?_ _) | (with_reducible refine Ext.drew ?_) | (with_reducible refine Ext.drewN ?_ _) | (with_reducible refine Ext.setCell ?_ ?_ _) | (with_reducible refine Ext.trans ?_ (by assumption)) | go_size))⟩

theorem Height_yes (x y t : Int) (w : World) (h : Sun.minB t = true) (hv : Globe.vcB x y = true) :
    Calls Tryd.prog 18 #[.agg #[.int .i64 x, .int .i64 y], .int .i64 t] w fun e w' => e = .returned (.tuple #[.int .i64 (Sun.height x y t), .int .i64 0]) ∧ Ext w w' := by
  obtain ⟨h0, h1⟩ := Sun.minB_t.1 h
  obtain ⟨h2, h3, h4, h5⟩ := Globe.vcB_t.1 hv
  have hn := Sun.noon_bd h0
  have hs := Sun.season_bd t
  have ha := @Sun.away_bd (1000 * x + 500) (Sun.noon t) 48000 (by omega) (by omega) (by omega) (by omega)
  have hy := @Sun.away_bd (1000 * y + 500) (Sun.season t) 24000 (by omega) (by omega) (by omega) (by omega)
  go_enter Tryd.func18, Tryd.ntmps18
  go_wp2_with (first | (go_at_call 33; refine (isMinute_c _ _).mono ?_; rintro e w' ⟨rfl, rfl⟩) | (go_at_call 38; refine (ValidCell_c _ _ _).mono ?_; rintro e w1 ⟨rfl, hb⟩; have hc := hb.cellE; have hf := hb.frozenE; have hz := hb.size; have ha := alloc_keeps w1; (try simp only [World.size_alloc] at hc hf hz); (try simp only [World.size_setCell] at hc hf hz); (try simp only [World.size_drew] at hc hf hz)) | (go_at_call 14; refine (Noon_yes _ _ h).mono ?_; rintro e w' ⟨rfl, rfl⟩) | (go_at_call 16; refine (Season_yes _ _ h).mono ?_; rintro e w1 ⟨rfl, hb⟩; have hc := hb.cellE; have hf := hb.frozenE; have hz := hb.size; have ha := alloc_keeps w1; (try simp only [World.size_alloc] at hc hf hz); (try simp only [World.size_setCell] at hc hf hz); (try simp only [World.size_drew] at hc hf hz)) | (go_at_call 39; refine (away_c _ _ _ (by omega) (by omega) (by omega) (by omega)).mono ?_; rintro e w' ⟨rfl, rfl⟩))
  all_goals (go_ret2; exact ⟨ret2_int (by unfold Sun.height Sun.ac Sun.ds; omega), by (repeat' (first | (with_reducible assumption) | (with_reducible exact Ext.refl _) | (with_reducible refine Ext.alloc ?_ _) | (with_reducible refine Ext.drew ?_) | (with_reducible refine Ext.drewN ?_ _) | (with_reducible refine Ext.setCell ?_ ?_ _) | (with_reducible refine Ext.trans ?_ (by assumption)) | go_size))⟩)
theorem Height_no (x y t : Int) (w : World) (h : (Sun.minB t && Globe.vcB x y) = false) :
    Calls Tryd.prog 18 #[.agg #[.int .i64 x, .int .i64 y], .int .i64 t] w fun e w' => e = .returned (.tuple #[.int .i64 0, .int .i64 60]) ∧ Ext w w' := by
  rcases Bool.and_eq_false_iff.1 h with h1 | h1
  all_goals
    clear h
    go_enter Tryd.func18, Tryd.ntmps18
    go_wp2_with (first | (go_at_call 33; refine (isMinute_c _ _).mono ?_; rintro e w' ⟨rfl, rfl⟩) | (go_at_call 38; refine (ValidCell_c _ _ _).mono ?_; rintro e w1 ⟨rfl, hb⟩; have hc := hb.cellE; have hf := hb.frozenE; have hz := hb.size; have ha := alloc_keeps w1; (try simp only [World.size_alloc] at hc hf hz); (try simp only [World.size_setCell] at hc hf hz); (try simp only [World.size_drew] at hc hf hz)))
    all_goals (go_ret2; exact ⟨rfl, by (repeat' (first | (with_reducible assumption) | (with_reducible exact Ext.refl _) | (with_reducible refine Ext.alloc ?_ _) | (with_reducible refine Ext.drew ?_) | (with_reducible refine Ext.drewN ?_ _) | (with_reducible refine Ext.setCell ?_ ?_ _) | (with_reducible refine Ext.trans ?_ (by assumption)) | go_size))⟩)

theorem Lit_c (x y t : Int) (w : World) :
    Calls Tryd.prog 22 #[.agg #[.int .i64 x, .int .i64 y], .int .i64 t] w fun e w' => e = .returned (.bool (Sun.litB x y t)) ∧ Ext w w' := by
  cases hb : (Sun.minB t && Globe.vcB x y)
  · have hr : Sun.litB x y t = false := by rw [Sun.litB, hb]; rfl
    have Hr := Lib.hid hr; clear hr
    go_enter Tryd.func22, Tryd.ntmps22
    go_wp2_with (go_at_call 18; refine (Height_no _ _ _ _ hb).mono ?_; rintro e w1 ⟨rfl, hb⟩; have hc := hb.cellE; have hf := hb.frozenE; have hz := hb.size; have ha := alloc_keeps w1; (try simp only [World.size_alloc] at hc hf hz); (try simp only [World.size_setCell] at hc hf hz); (try simp only [World.size_drew] at hc hf hz))
    all_goals (go_ret; exact ⟨ret_bool (by rw [Hr.out]), by (repeat' (first | (with_reducible assumption) | (with_reducible exact Ext.refl _) | (with_reducible refine Ext.alloc ?_ _) | (with_reducible refine Ext.drew ?_) | (with_reducible refine Ext.drewN ?_ _) | (with_reducible refine Ext.setCell ?_ ?_ _) | (with_reducible refine Ext.trans ?_ (by assumption)) | go_size))⟩)
  · obtain ⟨h1, h2⟩ := Bool.and_eq_true_iff.1 hb
    have hr : Sun.litB x y t = decide (0 < Sun.height x y t) := by rw [Sun.litB, hb]; rfl
    have Hr := Lib.hid hr; clear hr
    go_enter Tryd.func22, Tryd.ntmps22
    go_wp2_with (go_at_call 18; refine (Height_yes _ _ _ _ h1 h2).mono ?_; rintro e w1 ⟨rfl, hb⟩; have hc := hb.cellE; have hf := hb.frozenE; have hz := hb.size; have ha := alloc_keeps w1; (try simp only [World.size_alloc] at hc hf hz); (try simp only [World.size_setCell] at hc hf hz); (try simp only [World.size_drew] at hc hf hz))
    all_goals (go_ret; exact ⟨ret_bool (by rw [Hr.out]), by (repeat' (first | (with_reducible assumption) | (with_reducible exact Ext.refl _) | (with_reducible refine Ext.alloc ?_ _) | (with_reducible refine Ext.drew ?_) | (with_reducible refine Ext.drewN ?_ _) | (with_reducible refine Ext.setCell ?_ ?_ _) | (with_reducible refine Ext.trans ?_ (by assumption)) | go_size))⟩)

theorem Dark_c (x y t : Int) (w : World) :
    Calls Tryd.prog 24 #[.agg #[.int .i64 x, .int .i64 y], .int .i64 t] w fun e w' => e = .returned (.bool (Sun.darkB x y t)) ∧ Ext w w' := by
  cases hb : (Sun.minB t && Globe.vcB x y)
  · have hr : Sun.darkB x y t = false := by rw [Sun.darkB, hb]; rfl
    have Hr := Lib.hid hr; clear hr
    go_enter Tryd.func24, Tryd.ntmps24
    go_wp2_with (go_at_call 18; refine (Height_no _ _ _ _ hb).mono ?_; rintro e w1 ⟨rfl, hb⟩; have hc := hb.cellE; have hf := hb.frozenE; have hz := hb.size; have ha := alloc_keeps w1; (try simp only [World.size_alloc] at hc hf hz); (try simp only [World.size_setCell] at hc hf hz); (try simp only [World.size_drew] at hc hf hz))
    all_goals (go_ret; exact ⟨ret_bool (by rw [Hr.out]), by (repeat' (first | (with_reducible assumption) | (with_reducible exact Ext.refl _) | (with_reducible refine Ext.alloc ?_ _) | (with_reducible refine Ext.drew ?_) | (with_reducible refine Ext.drewN ?_ _) | (with_reducible refine Ext.setCell ?_ ?_ _) | (with_reducible refine Ext.trans ?_ (by assumption)) | go_size))⟩)
  · obtain ⟨h1, h2⟩ := Bool.and_eq_true_iff.1 hb
    have hr : Sun.darkB x y t = decide (Sun.height x y t < -20) := by rw [Sun.darkB, hb]; rfl
    have Hr := Lib.hid hr; clear hr
    go_enter Tryd.func24, Tryd.ntmps24
    go_wp2_with (go_at_call 18; refine (Height_yes _ _ _ _ h1 h2).mono ?_; rintro e w1 ⟨rfl, hb⟩; have hc := hb.cellE; have hf := hb.frozenE; have hz := hb.size; have ha := alloc_keeps w1; (try simp only [World.size_alloc] at hc hf hz); (try simp only [World.size_setCell] at hc hf hz); (try simp only [World.size_drew] at hc hf hz))
    all_goals (go_ret; exact ⟨ret_bool (by rw [Hr.out]), by (repeat' (first | (with_reducible assumption) | (with_reducible exact Ext.refl _) | (with_reducible refine Ext.alloc ?_ _) | (with_reducible refine Ext.drew ?_) | (with_reducible refine Ext.drewN ?_ _) | (with_reducible refine Ext.setCell ?_ ?_ _) | (with_reducible refine Ext.trans ?_ (by assumption)) | go_size))⟩)

end Go.Proofs.YtknlnmalaidaiaaDoor
