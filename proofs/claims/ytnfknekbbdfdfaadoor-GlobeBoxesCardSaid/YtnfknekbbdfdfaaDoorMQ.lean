/- Boxes side by side, one above the other: plain Lean. -/
import Derived.Test.YtnfknekbbdfdfaaDoorML
namespace Go.Proofs.YtnfknekbbdfdfaaDoor
namespace Globe

theorem box_side {cx cy w v h c2 : Nat} (hc : cx < 48) (h2 : c2 < 48) (hw : w + v ≤ 48) (he : c2 = (cx + w) % 48) :
    unionL (boxL cx cy w h) (boxL c2 cy v h) = boxL cx cy (w + v) h := by
  refine ext_has (union_valid (box_valid _ _ _ _) (box_valid _ _ _ _)) (box_valid _ _ _ _) fun x y hx hy => ?_
  rw [has_union hy, has_box hc (by omega) hx hy, has_box h2 (by omega) hx hy, has_box hc hw hx hy, ← Bool.and_or_distrib_left]
  congr 1
  rw [Bool.eq_iff_iff]
  simp only [Bool.or_eq_true, decide_eq_true_eq]
  omega

theorem box_pile {cx cy w h k c2 : Nat} (hc : cx < 48) (hw : w ≤ 48) (he : c2 = cy + h) :
    unionL (boxL cx cy w h) (boxL cx c2 w k) = boxL cx cy w (h + k) := by
  refine ext_has (union_valid (box_valid _ _ _ _) (box_valid _ _ _ _)) (box_valid _ _ _ _) fun x y hx hy => ?_
  rw [has_union hy, has_box hc hw hx hy, has_box hc hw hx hy, has_box hc hw hx hy, ← Bool.and_or_distrib_right]
  congr 1
  rw [Bool.eq_iff_iff]
  simp only [Bool.or_eq_true, decide_eq_true_eq]
  omega

end Globe
end Go.Proofs.YtnfknekbbdfdfaaDoor
