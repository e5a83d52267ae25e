/- Contracts of package globe: isIn, ValidCell. -/
import Derived.Test.YtglfoglkdbbmmaaDoorW1
import Derived.Test.YtglfoglkdbbmmaaDoorMG
namespace Go.Proofs.YtglfoglkdbbmmaaDoor
open Go.RowKit

theorem isIn_c (n lo hi : Int) (w : World) : Calls Tryd.prog 65 #[.int .i64 n, .int .i64 lo, .int .i64 hi] w fun e w' => e = .returned (.bool (Globe.inB n lo hi)) ∧ w = w' := by
  go_enter Tryd.func65, Tryd.ntmps65
  go_wp2
  all_goals (go_ret; refine ⟨ret_bool ?_, rfl⟩; first | (rw [Globe.inB_f.2 (by omega)]; done) | (rw [Bool.eq_iff_iff, Globe.inB_t]; first | (simp; omega) | (simp; done)))


end Go.Proofs.YtglfoglkdbbmmaaDoor
