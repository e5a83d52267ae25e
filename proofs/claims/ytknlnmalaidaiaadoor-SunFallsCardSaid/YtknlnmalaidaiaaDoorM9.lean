/- Plain law: the height falls away from the minute of noon. -/
import Derived.Test.YtknlnmalaidaiaaDoorM6
namespace Go.Proofs.YtknlnmalaidaiaaDoor
namespace Sun

theorem noon_at (D s : Int) (h : 0 ≤ s) (h' : s < 1440) : noon (1440 * D + s) = (1440 - s) * 100 / 3 % 48000 := by
  unfold noon
  rw [show (1440 * D + s) % 1440 = s by omega]
theorem season_at (D s : Int) (h : 0 ≤ s) (h' : s < 1440) : season (1440 * D + s) = season (1440 * D) := by
  unfold season
  rw [show (1440 * D + s) / 1440 = D by omega, show (1440 * D) / 1440 = D by omega]
theorem ac_best (x D s : Int) (h0 : 0 ≤ x) (h1 : x ≤ 47) (h : 0 ≤ s) (h' : s < 1440) : (s = 1425 - 30 * x ∧ ac x (1440 * D + s) = 0) ∨ (s ≠ 1425 - 30 * x ∧ 0 < ac x (1440 * D + s)) := by
  unfold ac away
  rw [noon_at D s h h']
  omega
theorem ac_after (x D k : Int) (h0 : 0 ≤ x) (h1 : x ≤ 47) (h : 0 ≤ k) (h' : k < 720) (hk : 1425 - 30 * x + k < 1440) : ac x (1440 * D + (1425 - 30 * x + k)) = (100 * k + 2) / 3 := by
  unfold ac away
  rw [noon_at D _ (by omega) hk, show (1440 - (1425 - 30 * x + k)) * 100 / 3 = 1000 * x + 500 - (100 * k + 2) / 3 by omega,
    Int.emod_eq_of_lt (by omega) (by omega)]
  omega
theorem ac_before (x D k : Int) (h0 : 0 ≤ x) (h1 : x ≤ 47) (h : 0 ≤ k) (h' : k < 720) (hk : 0 ≤ 1425 - 30 * x - k) : ac x (1440 * D + (1425 - 30 * x - k)) = 100 * k / 3 := by
  unfold ac away
  rw [noon_at D _ hk (by omega), show (1440 - (1425 - 30 * x - k)) * 100 / 3 = 1000 * x + 500 + 100 * k / 3 by omega]
  rcases Int.lt_or_le (1000 * x + 500 + 100 * k / 3) 48000 with e | e
  · rw [Int.emod_eq_of_lt (by omega) (by omega)]; omega
  · rw [show 1000 * x + 500 + 100 * k / 3 = 48000 by omega]; omega
theorem fall_after (x y D a b : Int) (h0 : 0 ≤ x) (h1 : x ≤ 47) (h : 0 ≤ a) (hab : a ≤ b) (h' : b < 720) (hk : 1425 - 30 * x + b < 1440) :
    height x y (1440 * D + (1425 - 30 * x + b)) ≤ height x y (1440 * D + (1425 - 30 * x + a)) := by
  unfold height ds
  rw [ac_after x D a h0 h1 h (by omega) (by omega), ac_after x D b h0 h1 (by omega) h' hk, season_at D (1425 - 30 * x + a) (by omega) (by omega), season_at D (1425 - 30 * x + b) (by omega) (by omega)]
  omega
theorem fall_before (x y D a b : Int) (h0 : 0 ≤ x) (h1 : x ≤ 47) (h : 0 ≤ a) (hab : a ≤ b) (h' : b < 720) (hk : 0 ≤ 1425 - 30 * x - b) :
    height x y (1440 * D + (1425 - 30 * x - b)) ≤ height x y (1440 * D + (1425 - 30 * x - a)) := by
  unfold height ds
  rw [ac_before x D a h0 h1 h (by omega) (by omega), ac_before x D b h0 h1 (by omega) h' hk, season_at D (1425 - 30 * x - a) (by omega) (by omega), season_at D (1425 - 30 * x - b) (by omega) (by omega)]
  omega

end Sun
end Go.Proofs.YtknlnmalaidaiaaDoor
