/- The heights over an area and a spell: plain mathematics. -/
import Derived.Test.YtknlnmalaidaiaaDoorM6
import Derived.Test.YtknlnmalaidaiaaDoorM5
namespace Go.Proofs.YtknlnmalaidaiaaDoor
namespace Sun

def spB (f t : Int) : Bool := decide (0 ≤ f ∧ f < t ∧ t ≤ 1000001)
theorem spB_t {f t : Int} : spB f t = true ↔ 0 ≤ f ∧ f < t ∧ t ≤ 1000001 := by simp [spB]
theorem spB_f {f t : Int} : spB f t = false ↔ f < 0 ∨ t ≤ f ∨ 1000001 < t := by simp [spB]; omega

def minL (hs : List Int) : Int := hs.foldl min 90
def maxL (hs : List Int) : Int := hs.foldl max (-90)
theorem minL_snoc (hs : List Int) (h : Int) : minL (hs ++ [h]) = min (minL hs) h := by simp [minL]
theorem maxL_snoc (hs : List Int) (h : Int) : maxL (hs ++ [h]) = max (maxL hs) h := by simp [maxL]

def htsT (f : Int) (p : Nat × Nat) (k : Nat) : List Int := (List.range k).map fun (i : Nat) => height p.1 p.2 (f + i)
theorem htsT_succ (f : Int) (p : Nat × Nat) (k : Nat) : htsT f p (k + 1) = htsT f p k ++ [height p.1 p.2 (f + k)] := by simp [htsT, List.range_succ]
def hts (f t : Int) (ps : List (Nat × Nat)) : List Int := ps.flatMap fun p => htsT f p (t - f).toNat
theorem hts_app (f t : Int) (a b : List (Nat × Nat)) : hts f t (a ++ b) = hts f t a ++ hts f t b := by simp [hts]
theorem hts_one (f t : Int) (p : Nat × Nat) : hts f t [p] = htsT f p (t - f).toNat := by simp [hts]

/-- The cells of a row below a column. -/
def rowTo (l : List Int) (y x : Nat) : List (Nat × Nat) := ((List.range x).filter fun i => (Globe.nth l y).toNat.testBit i).map fun i => (i, y)
theorem rowTo_succ (l : List Int) (y x : Nat) : rowTo l y (x + 1) = rowTo l y x ++ if (Globe.nth l y).toNat.testBit x then [(x, y)] else [] := by
  unfold rowTo
  rw [List.range_succ, List.filter_append, List.map_append]
  cases h : (Globe.nth l y).toNat.testBit x <;> simp [h]
theorem rowTo_all (l : List Int) (y : Nat) : rowTo l y 48 = Globe.rowCells l y := rfl

end Sun
end Go.Proofs.YtknlnmalaidaiaaDoor
