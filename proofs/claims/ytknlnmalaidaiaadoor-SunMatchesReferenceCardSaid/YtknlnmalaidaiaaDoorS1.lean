/- Contracts of package sun's small functions. -/
import Derived.Test.YtknlnmalaidaiaaDoorG1
import Derived.Test.YtknlnmalaidaiaaDoorM6
namespace Go.Proofs.YtknlnmalaidaiaaDoor
open Go.RowKit

theorem isMinute_c (t : Int) (w : World) : Calls Tryd.prog 33 #[.int .i64 t] w fun e w' => e = .returned (.bool (Sun.minB t)) ∧ w = w' := by
  go_enter Tryd.func33, Tryd.ntmps33
  go_wp2
  all_goals (go_ret; refine ⟨ret_bool ?_, rfl⟩; first | (rw [Sun.minB_f.2 (by omega)]; done) | (simp [Sun.minB]; omega))

theorem tdiv3 (n : Int) (h : n < 0) : n - 2 ≤ 3 * n.tdiv 3 ∧ 3 * n.tdiv 3 ≤ n + 2 ∧ n ≤ 3 * n.tdiv 3 := by
  obtain ⟨m, rfl⟩ : ∃ m : Int, n = -m := ⟨-n, by omega⟩
  rw [Int.neg_tdiv, Int.tdiv_eq_ediv_of_nonneg (by omega)]
  omega

theorem third_c (n : Int) (w : World) (h0 : -1000000000 ≤ n) (h1 : n ≤ 1000000000) : Calls Tryd.prog 34 #[.int .i64 n] w fun e w' => e = .returned (.int .i64 (n / 3)) ∧ w = w' := by
  by_cases h : n < 0
  · obtain ⟨h2, h3, h4⟩ := tdiv3 n h
    go_enter Tryd.func34, Tryd.ntmps34
    go_wp2
    all_goals (go_ret; refine ⟨?_, rfl⟩; exact ret_int (by omega))
  · go_enter Tryd.func34, Tryd.ntmps34
    go_wp2
    all_goals (go_ret; exact ⟨rfl, rfl⟩)

theorem away_c (a b : Int) (w : World) (h1 : -100000000 ≤ a) (h2 : a ≤ 1000000000) (h3 : -1000000000 ≤ b) (h4 : b ≤ 1000000000) :
    Calls Tryd.prog 39 #[.int .i64 a, .int .i64 b] w fun e w' => e = .returned (.int .i64 (Sun.away a b)) ∧ w = w' := by
  go_enter Tryd.func39, Tryd.ntmps39
  go_wp2
  all_goals (go_ret; refine ⟨ret_int ?_, rfl⟩; unfold Sun.away; omega)

theorem Noon_yes (t : Int) (w : World) (h : Sun.minB t = true) : Calls Tryd.prog 14 #[.int .i64 t] w fun e w' => e = .returned (.tuple #[.int .i64 (Sun.noon t), .int .i64 0]) ∧ w = w' := by
  obtain ⟨h0, h1⟩ := Sun.minB_t.1 h
  go_enter Tryd.func14, Tryd.ntmps14
  go_wp2_with (first | (go_at_call 33; refine (isMinute_c _ _).mono ?_; rintro e w' ⟨rfl, rfl⟩) | (go_at_call 34; refine (third_c _ _ (by omega) (by omega)).mono ?_; rintro e w' ⟨rfl, rfl⟩))
  go_ret2
  exact ⟨rfl, rfl⟩
theorem Noon_no (t : Int) (w : World) (h : Sun.minB t = false) : Calls Tryd.prog 14 #[.int .i64 t] w fun e w' => e = .returned (.tuple #[.int .i64 0, .int .i64 60]) ∧ w = w' := by
  go_enter Tryd.func14, Tryd.ntmps14
  go_wp2_with (go_at_call 33; refine (isMinute_c _ _).mono ?_; rintro e w' ⟨rfl, rfl⟩)
  go_ret2
  exact ⟨rfl, rfl⟩

/-! The parts of the year: three functions. -/
theorem part1_c (d : Int) (w : World) (h0 : 0 ≤ d) (h1 : d ≤ 360) : Calls Tryd.prog 47 #[.int .i64 d] w fun e w' => e = .returned (.int .i64 (100 * d)) ∧ w = w' := by
  go_enter Tryd.func47, Tryd.ntmps47
  go_wp2
  go_ret
  exact ⟨rfl, rfl⟩
theorem part2_c (d : Int) (w : World) (h0 : 0 ≤ d) (h1 : d ≤ 360) : Calls Tryd.prog 48 #[.int .i64 d] w fun e w' => e = .returned (.int .i64 (100 * (180 - d))) ∧ w = w' := by
  go_enter Tryd.func48, Tryd.ntmps48
  go_wp2
  go_ret
  exact ⟨rfl, rfl⟩
theorem part3_c (d : Int) (w : World) (h0 : 0 ≤ d) (h1 : d ≤ 360) : Calls Tryd.prog 49 #[.int .i64 d] w fun e w' => e = .returned (.int .i64 (100 * (d - 360))) ∧ w = w' := by
  go_enter Tryd.func49, Tryd.ntmps49
  go_wp2
  go_ret
  exact ⟨rfl, rfl⟩
theorem parts_c (w : World) : Calls Tryd.prog 37 #[] w fun e w' => e = .returned (.agg #[.int .i64 90, .func (.func 47) #[] #[], .int .i64 270, .func (.func 48) #[] #[], .int .i64 360, .func (.func 49) #[] #[]]) ∧ Ext w w' := by
  go_enter Tryd.func37, Tryd.ntmps37
  go_wp2
  go_returns
  exact ⟨rfl, by (repeat' (first | (with_reducible assumption) | (with_reducible exact Ext.refl _) | (with_reducible refine Ext.alloc ?_ _) | (with_reducible refine Ext.drew ?_) | (with_reducible refine Ext.drewN ?_ _) | (with_reducible refine Ext.setCell ?_ ?_ _) | (with_reducible refine Ext.trans ?_ (by assumption)) | go_size))⟩

end Go.Proofs.YtknlnmalaidaiaaDoor
