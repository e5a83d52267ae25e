/- 'pick': an index out of an arbitrary integer. Plain mathematics. -/
namespace Go.Proofs.YtglfoglkdbbmmaaDoor

/-- The bounds of an int. -/
def IsI (c : Int) : Prop := -9223372036854775808 ≤ c ∧ c ≤ 9223372036854775807
def pickF (c n : Int) : Int := (if c < 0 then -(c + 1) else c) % n
theorem pickF_bd {c n : Int} (h : 0 < n) : 0 ≤ pickF c n ∧ pickF c n < n := ⟨Int.emod_nonneg _ (by omega), Int.emod_lt_of_pos _ h⟩
theorem pickF_neg {c n : Int} (h : c < 0) : pickF c n = (-(c + 1)) % n := by rw [pickF, if_pos h]
theorem pickF_pos {c n : Int} (h : 0 ≤ c) : pickF c n = c % n := by rw [pickF, if_neg (by omega)]

end Go.Proofs.YtglfoglkdbbmmaaDoor
