/- Contracts of package globe: isIn, ValidCell. -/
import Derived.Test.YtknlnmalaidaiaaDoorW1
import Derived.Test.YtknlnmalaidaiaaDoorMG
namespace Go.Proofs.YtknlnmalaidaiaaDoor
open Go.RowKit

theorem isIn_c (n lo hi : Int) (w : World) : Calls Tryd.prog 50 #[.int .i64 n, .int .i64 lo, .int .i64 hi] w fun e w' => e = .returned (.bool (Globe.inB n lo hi)) ∧ w = w' := by
  go_enter Tryd.func50, Tryd.ntmps50
  go_wp2
  all_goals (go_ret; refine ⟨ret_bool ?_, rfl⟩; first | (rw [Globe.inB_f.2 (by omega)]; done) | (rw [Bool.eq_iff_iff, Globe.inB_t]; first | (simp; omega) | (simp; done)))

theorem ValidCell_c (x y : Int) (w : World) :
    Calls Tryd.prog 38 #[.agg #[.int .i64 x, .int .i64 y]] w fun e w' => e = .returned (.bool (Globe.vcB x y)) ∧ Ext w w' := by
  rw [Globe.vcB_in]
  go_enter Tryd.func38, Tryd.ntmps38
  go_wp2_with (go_at_call 50; refine (isIn_c _ _ _ _).mono ?_; rintro e w' ⟨rfl, rfl⟩)
  all_goals (go_ret; refine ⟨ret_bool ?_, by (repeat' (first | (with_reducible assumption) | (with_reducible exact Ext.refl _) | (with_reducible refine Ext.alloc ?_ _) | (with_reducible refine Ext.drew ?_) | (with_reducible refine Ext.drewN ?_ _) | (with_reducible refine Ext.setCell ?_ ?_ _) | (with_reducible refine Ext.trans ?_ (by assumption)) | go_size))⟩; first | rfl | (simp [*]; done))

end Go.Proofs.YtknlnmalaidaiaaDoor
