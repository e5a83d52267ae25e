/- Contracts of package globe: Valid. -/
import Derived.Test.YtglfoglkdbbmmaaDoorW2
import Derived.Test.YtglfoglkdbbmmaaDoorG1
namespace Go.Proofs.YtglfoglkdbbmmaaDoor
open Go.RowKit

theorem Valid1_c (r : Int) (w : World) : Calls Tryd.prog 64 #[.int .i64 r] w fun e w' => e = .returned (.bool (!Globe.rowOk r)) ∧ w = w' := by
  rw [show Globe.rowOk r = Globe.inB r 0 281474976710655 from rfl]
  go_enter Tryd.func64, Tryd.ntmps64
  go_wp2_with (go_at_call 65; refine (isIn_c _ _ _ _).mono ?_; rintro e w' ⟨rfl, rfl⟩)
  go_ret
  exact ⟨rfl, rfl⟩

set_option maxHeartbeats 400000 in
theorem IndexFunc_c (a : Option Addr) (l : List Int) (c : Nat) (w : World) (h : IntsAt w a l) (hl : l.length ≤ 140737488355328) :
    Calls Tryd.prog 76 #[.slice a l.length c, .func (.func 64) #[] #[]] w fun e w' => e = .returned (.int .i64 (Globe.badAt l)) ∧ w = w' := by
  rcases h with rfl | ⟨b, off, rfl, hc⟩
  · go_enter Tryd.func76, Tryd.ntmps76
    go_wp2_with fail
    refine wp_loop_rounds 1 ?_
    rw [rounds_succ]
    go_wp2_with fail
    go_ret
    exact ⟨rfl, rfl⟩
  · go_enter Tryd.func76, Tryd.ntmps76
    go_wp2_with fail
    go_loop [5, 8] (fun _ i => ∃ k : Nat, k ≤ l.length ∧ i = .int .i64 k ∧ Hid (∀ j, j < k → Globe.rowOk (Globe.nth l j) = true)) (fun _ i => l.length - (intOf i).toNat)
    case atStart => exact ⟨0, by omega, rfl, fun j hj => by omega⟩
    case round =>
      obtain ⟨k, hk, rfl, Hp⟩ := hrel
      by_cases hlt : k < l.length
      · have h0 : (0 : Int) ≤ (k : Int) := by omega
        cases hq : Globe.rowOk (Globe.nth l k)
        all_goals
          go_wp2_with (go_at_call 64; refine (Valid1_c _ _).mono ?_; rintro e w' ⟨rfl, rfl⟩)
        · go_ret
          exact ⟨ret_int (Globe.badAt_first hlt Hp.out hq).symm, rfl⟩
        · go_round
          case rel => exact ⟨k + 1, by omega, by go_num, fun j hj => by
            rcases Nat.lt_or_ge j k with h | h
            · exact Hp.out j h
            · rw [show j = k by omega]; exact hq⟩
          case measure => simp [intOf]; omega
      · obtain rfl : k = l.length := by omega
        go_wp2_with fail
        go_ret
        exact ⟨ret_int (Globe.badAt_all (List.all_eq_true.2 fun r hr => by
          obtain ⟨j, hj, rfl⟩ := List.getElem_of_mem hr
          have := Hp.out j hj
          rwa [Globe.nth_lt hj] at this)).symm, rfl⟩

theorem ContainsFunc_c (a : Option Addr) (l : List Int) (c : Nat) (w : World) (h : IntsAt w a l) (hl : l.length ≤ 140737488355328) :
    Calls Tryd.prog 63 #[.slice a l.length c, .func (.func 64) #[] #[]] w fun e w' => e = .returned (.bool (!l.all Globe.rowOk)) ∧ w = w' := by
  cases hq : l.all Globe.rowOk
  · have h1 := Globe.badAt_no hq
    go_enter Tryd.func63, Tryd.ntmps63
    go_wp2_with (go_at_call 76; refine (IndexFunc_c _ _ _ _ h hl).mono ?_; rintro e w' ⟨rfl, rfl⟩)
    go_ret
    exact ⟨rfl, rfl⟩
  · have h1 := Globe.badAt_all hq
    go_enter Tryd.func63, Tryd.ntmps63
    go_wp2_with (go_at_call 76; refine (IndexFunc_c _ _ _ _ h hl).mono ?_; rintro e w' ⟨rfl, rfl⟩)
    go_ret
    exact ⟨rfl, rfl⟩

theorem Valid_c (a : Option Addr) (l : List Int) (c : Nat) (w : World) (h : IntsAt w a l) (hl : l.length ≤ 140737488355328) :
    Calls Tryd.prog 38 #[.agg #[.slice a l.length c]] w fun e w' => e = .returned (.bool (Globe.validL l)) ∧ Ext w w' := by
  have H := Lib.hid h; clear h
  cases h24 : ((l.length : Int) == 24)
  · have hv : Globe.validL l = false := by simp [Globe.validL]; intro h; simp [h] at h24
    go_enter Tryd.func38, Tryd.ntmps38
    go_wp2_with fail
    go_ret
    exact ⟨ret_bool (by rw [hv]), by (repeat' (first | (with_reducible assumption) | (with_reducible exact Ext.refl _) | (with_reducible refine Ext.alloc ?_ _) | (with_reducible refine Ext.drew ?_) | (with_reducible refine Ext.drewN ?_ _) | (with_reducible refine Ext.setCell ?_ ?_ _) | (with_reducible refine Ext.trans ?_ (by assumption)) | go_size))⟩
  · have hv : Globe.validL l = l.all Globe.rowOk := by
      have e : l.length = 24 := by simp at h24; omega
      rw [Globe.validL, e]; simp
    have Hv := Lib.hid hv; clear hv
    go_enter Tryd.func38, Tryd.ntmps38
    go_wp2_with (go_at_call 63; refine (ContainsFunc_c _ _ _ _ (H.out.ext (by (repeat' (first | (with_reducible assumption) | (with_reducible exact Ext.refl _) | (with_reducible refine Ext.alloc ?_ _) | (with_reducible refine Ext.drew ?_) | (with_reducible refine Ext.drewN ?_ _) | (with_reducible refine Ext.setCell ?_ ?_ _) | (with_reducible refine Ext.trans ?_ (by assumption)) | go_size)))) hl).mono ?_; rintro e w' ⟨rfl, rfl⟩)
    go_ret
    exact ⟨ret_bool (by rw [Hv.out]), by (repeat' (first | (with_reducible assumption) | (with_reducible exact Ext.refl _) | (with_reducible refine Ext.alloc ?_ _) | (with_reducible refine Ext.drew ?_) | (with_reducible refine Ext.drewN ?_ _) | (with_reducible refine Ext.setCell ?_ ?_ _) | (with_reducible refine Ext.trans ?_ (by assumption)) | go_size))⟩

end Go.Proofs.YtglfoglkdbbmmaaDoor
