/- The plain mathematics of the sun: noon, the season, the height. No program in sight. -/
import Derived.Test.YtknlnmalaidaiaaDoorMG
namespace Go.Proofs.YtknlnmalaidaiaaDoor
namespace Sun

def minB (t : Int) : Bool := decide (0 ≤ t ∧ t ≤ 1000000)
theorem minB_t {t : Int} : minB t = true ↔ 0 ≤ t ∧ t ≤ 1000000 := by simp [minB]
theorem minB_f {t : Int} : minB t = false ↔ t < 0 ∨ 1000000 < t := by simp [minB]; omega

def noon (t : Int) : Int := (1440 - t % 1440) * 100 / 3 % 48000
def season (t : Int) : Int :=
  if t / 1440 % 360 ≤ 90 then 12000 + 100 * (t / 1440 % 360) / 3
  else if t / 1440 % 360 ≤ 270 then 12000 + 100 * (180 - t / 1440 % 360) / 3
  else 12000 + 100 * (t / 1440 % 360 - 360) / 3
theorem season_a {t : Int} (h : t / 1440 % 360 ≤ 90) : season t = 12000 + 100 * (t / 1440 % 360) / 3 := by rw [season, if_pos h]
theorem season_b {t : Int} (h : 90 < t / 1440 % 360) (h' : t / 1440 % 360 ≤ 270) : season t = 12000 + 100 * (180 - t / 1440 % 360) / 3 := by rw [season, if_neg (by omega), if_pos h']
theorem season_c {t : Int} (h : 270 < t / 1440 % 360) : season t = 12000 + 100 * (t / 1440 % 360 - 360) / 3 := by rw [season, if_neg (by omega), if_neg (by omega)]
def away (a b : Int) : Int := max (a - b) (b - a)
/-- The distance from noon, around. -/
def ac (x t : Int) : Int := min (away (1000 * x + 500) (noon t)) (48000 - away (1000 * x + 500) (noon t))
/-- The distance from the season. -/
def ds (y t : Int) : Int := away (1000 * y + 500) (season t)
def height (x y t : Int) : Int := max (-90) (90 - 75 * (ac x t + ds y t) / 10000)

theorem noon_bd {t : Int} (_h0 : 0 ≤ t) : 0 ≤ noon t ∧ noon t ≤ 47999 := by unfold noon; omega
theorem season_bd (t : Int) : 9000 ≤ season t ∧ season t ≤ 15000 := by unfold season; split <;> (try split) <;> omega
theorem away_bd {a b n : Int} (h1 : 0 ≤ a) (h2 : a ≤ n) (h3 : 0 ≤ b) (h4 : b ≤ n) : 0 ≤ away a b ∧ away a b ≤ n := by unfold away; omega
theorem ac_bd {x t : Int} (h0 : 0 ≤ t) (hx : 0 ≤ x) (hx' : x ≤ 47) : 0 ≤ ac x t ∧ ac x t ≤ 24000 := by
  have := noon_bd h0
  unfold ac away; omega
theorem ds_bd {y t : Int} (hy : 0 ≤ y) (hy' : y ≤ 23) : 0 ≤ ds y t ∧ ds y t ≤ 15000 := by
  have := season_bd t
  unfold ds away; omega
theorem height_bd {x y t : Int} (h0 : 0 ≤ t) (hx : 0 ≤ x) (hx' : x ≤ 47) (hy : 0 ≤ y) (hy' : y ≤ 23) : -90 ≤ height x y t ∧ height x y t ≤ 90 := by
  have := @ac_bd x t h0 hx hx'
  have := @ds_bd y t hy hy'
  unfold height; omega

def litB (x y t : Int) : Bool := minB t && Globe.vcB x y && decide (0 < height x y t)
def darkB (x y t : Int) : Bool := minB t && Globe.vcB x y && decide (height x y t < -20)

/-- How many minutes are searched from t on. -/
def nmin (t : Int) : Nat := (min (1000000 - t) 1440 + 1).toNat
def upto (t : Int) (k : Nat) : List Int := (List.range k).map fun (i : Nat) => t + (i : Int)
theorem upto_succ (t : Int) (k : Nat) : upto t (k + 1) = upto t k ++ [t + (k : Int)] := by simp [upto, List.range_succ]
theorem upto_len (t : Int) (k : Nat) : (upto t k).length = k := by simp [upto]
theorem upto_pre (t : Int) {k n : Nat} (h : k ≤ n) : upto t k <+: upto t n := by
  unfold upto
  refine List.IsPrefix.map _ ?_
  exact ⟨(List.range (n - k)).map (k + ·), by rw [← List.range_add]; congr 1; omega⟩
theorem nmin_spec {t : Int} (h0 : 0 ≤ t) (h1 : t ≤ 1000000) : (nmin t : Int) = min (1000000 - t) 1440 + 1 := by unfold nmin; omega

/-- The first minute as asked for, of those searched. -/
def next (x y t : Int) (lit : Bool) : Int := ((upto t (nmin t)).find? fun k => litB x y k == lit).getD (-1)

theorem next_none {x y t : Int} {lit : Bool} (h : ∀ k ∈ upto t (nmin t), (litB x y k == lit) = false) : next x y t lit = -1 := by
  unfold next
  rw [List.find?_eq_none.2 (fun k hk => by rw [h k hk]; simp)]; rfl
theorem next_some {x y t : Int} {lit : Bool} {p : List Int} {k : Int} (hp : p ++ [k] <+: upto t (nmin t)) (h : ∀ j ∈ p, (litB x y j == lit) = false) (hk : (litB x y k == lit) = true) : next x y t lit = k := by
  obtain ⟨r, hr⟩ := hp
  unfold next
  rw [← hr, List.append_assoc, List.find?_append, List.find?_eq_none.2 (fun j hj => by rw [h j hj]; simp)]
  simp [hk]

theorem noon_day (t k : Int) : noon (t + 1440 * k) = noon t := by
  have e : (t + 1440 * k) % 1440 = t % 1440 := by omega
  unfold noon; rw [e]
theorem season_year (t : Int) : season (t + 518400) = season t := by
  have e : (t + 518400) / 1440 % 360 = t / 1440 % 360 := by omega
  unfold season; rw [e]
theorem season_half (t : Int) : season t + season (t + 259200) = 24000 ∨ season t + season (t + 259200) = 23999 := by
  have e : (t + 259200) / 1440 % 360 = (t / 1440 % 360 + 180) % 360 := by omega
  unfold season; rw [e]
  generalize hs : t / 1440 % 360 = s
  have h0 : 0 ≤ s := by omega
  have h1 : s < 360 := by omega
  split <;> split <;> (try split) <;> (try split) <;> omega

end Sun
end Go.Proofs.YtknlnmalaidaiaaDoor
