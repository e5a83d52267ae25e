/- Bits of a number that is not negative, in the spelling of the walk. -/
import Derived.Test.YtglfoglkdbbmmaaDoorW1
namespace Go.Proofs.YtglfoglkdbbmmaaDoor
open Go.RowKit

theorem and_i64 (a b : Nat) (ha : a < 4611686018427387904) (hb : b < 4611686018427387904) : bits .and .i64 (a : Int) (b : Int) = ((a &&& b : Nat) : Int) :=
  (bits_nat .i64 62 (by decide) (fun n h1 h2 => by rw [IntKind.wrap_i64]; omega) a b (by omega) (by omega)).1
theorem or_i64 (a b : Nat) (ha : a < 4611686018427387904) (hb : b < 4611686018427387904) : bits .or .i64 (a : Int) (b : Int) = ((a ||| b : Nat) : Int) :=
  (bits_nat .i64 62 (by decide) (fun n h1 h2 => by rw [IntKind.wrap_i64]; omega) a b (by omega) (by omega)).2
theorem testBit_div (R x : Nat) : R / 2 ^ x % 2 = if R.testBit x then 1 else 0 := by
  rw [← Nat.shiftRight_eq_div_pow, Nat.testBit, Nat.one_and_eq_mod_two]
  have h2 : (R >>> x) % 2 < 2 := Nat.mod_lt _ (by decide)
  by_cases h : (R >>> x) % 2 = 0
  · rw [h]; rfl
  · have h1 : (R >>> x) % 2 = 1 := by omega
    rw [h1]; rfl
theorem div_pow_cast (R x : Nat) : (R : Int) / 2 ^ x = ((R / 2 ^ x : Nat) : Int) := by simp
theorem bit_and1 (R x : Nat) (h : R < 4611686018427387904) : bits .and .i64 ((R : Int) / 2 ^ x) 1 = if R.testBit x then 1 else 0 := by
  rw [div_pow_cast, show (1 : Int) = ((1 : Nat) : Int) from rfl, and_i64 _ _ (Nat.lt_of_le_of_lt (Nat.div_le_self _ _) h) (by decide), Nat.and_one_is_mod, testBit_div]
  split <;> rfl
theorem bit_mod2 (R x : Nat) : (R : Int) / 2 ^ x % 2 = if R.testBit x then 1 else 0 := by
  rw [div_pow_cast, show (2 : Int) = ((2 : Nat) : Int) from rfl, ← Int.natCast_emod, testBit_div]
  split <;> rfl

end Go.Proofs.YtglfoglkdbbmmaaDoor
