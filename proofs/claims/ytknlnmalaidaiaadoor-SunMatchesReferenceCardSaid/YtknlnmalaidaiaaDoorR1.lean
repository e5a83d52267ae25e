/- Contracts of the reference of package globe: ValidCell. -/
import Derived.Test.YtknlnmalaidaiaaDoorW1
import Derived.Test.YtknlnmalaidaiaaDoorMG
namespace Go.Proofs.YtknlnmalaidaiaaDoor
open Go.RowKit

theorem rValidCell_c (x y : Int) (w : World) :
    Calls Tryd.prog 40 #[.agg #[.int .i64 x, .int .i64 y]] w fun e w' => e = .returned (.bool (Globe.vcB x y)) ∧ Ext w w' := by
  go_enter Tryd.func40, Tryd.ntmps40
  go_wp2
  all_goals (go_ret; refine ⟨ret_bool ?_, by (repeat' (first | (with_reducible assumption) | (with_reducible exact Ext.refl _) | (with_reducible refine Ext.alloc ?_ _) | (with_reducible refine Ext.drew ?_) | (with_reducible refine Ext.drewN ?_ _) | (with_reducible refine Ext.setCell ?_ ?_ _) | (with_reducible refine Ext.trans ?_ (by assumption)) | go_size))⟩; first | (rw [Globe.vcB_f.2 (by omega)]; done) | (rw [Bool.eq_iff_iff, Globe.vcB_t]; first | (simp; omega) | (simp; done)))

end Go.Proofs.YtknlnmalaidaiaaDoor
