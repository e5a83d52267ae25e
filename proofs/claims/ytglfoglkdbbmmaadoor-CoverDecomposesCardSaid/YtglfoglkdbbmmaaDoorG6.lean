/- Contracts of package globe: Empty, turned, and what combines two areas row by row. -/
import Derived.Test.YtglfoglkdbbmmaaDoorW5
import Derived.Test.YtglfoglkdbbmmaaDoorG2
import Derived.Deep.RegionHeld3
namespace Go.Proofs.YtglfoglkdbbmmaaDoor
open Go.RowKit

theorem Empty_c (w : World) : Calls Tryd.prog 73 #[] w (RetA w Globe.zeroL) := by
  have hmk := make24
  go_enter Tryd.func73, Tryd.ntmps73
  go_wp2
  refine bodyPost_ret (v := .agg #[.slice (some ⟨w.heap.size + 1, 0, none⟩) 24 24]) (by simp [results, Tryd.results73, go_sem]) rfl ⟨w.heap.size + 1, rfl, by omega, ?_, by (repeat' (first | (with_reducible assumption) | (with_reducible exact Ext.refl _) | (with_reducible refine Ext.alloc ?_ _) | (with_reducible refine Ext.drew ?_) | (with_reducible refine Ext.drewN ?_ _) | (with_reducible refine Ext.setCell ?_ ?_ _) | (with_reducible refine Ext.trans ?_ (by assumption)) | go_size))⟩
  have := RowsAt.new (w.alloc (.cells #[.slice (some ⟨w.heap.size + 1, 0, none⟩) 24 24] 25)) Globe.zeroL 3 rfl
  rwa [World.size_alloc] at this

theorem toNat_i64 (z : Int) : (BitVec.ofInt 64 (IntKind.i64.wrap z)).toNat = (z % 18446744073709551616).toNat := by
  rw [BitVec.toNat_ofInt, IntKind.wrap_i64]; simp
theorem toNat_w64 (z : Int) : (BitVec.ofInt 64 (wrap64 z)).toNat = (z % 18446744073709551616).toNat := by
  rw [BitVec.toNat_ofInt]; unfold wrap64; simp
theorem toNat_nat (n : Nat) (h : n < 18446744073709551616) : (BitVec.ofInt 64 (n : Int)).toNat = n := by
  rw [BitVec.ofInt_natCast, BitVec.toNat_ofNat]; exact Nat.mod_eq_of_lt (by omega)
theorem turned_key (R k : Nat) (hR : R < 281474976710656) (_hk : k < 48) :
    bits .and .i64 (bits .or .i64 (wrap64 ((R : Int) * 2 ^ k)) ((R : Int) / 2 ^ (48 - k))) 281474976710655 = ((Globe.rotN R k : Nat) : Int) := by
  have hB : (R : Int) / 2 ^ (48 - k) = ((R >>> (48 - k) : Nat) : Int) := by rw [Nat.shiftRight_eq_div_pow]; simp
  have hB2 : R >>> (48 - k) < 18446744073709551616 := Nat.lt_of_le_of_lt (Nat.shiftRight_le _ _) (by omega)
  have hA : (R : Int) * 2 ^ k = ((R <<< k : Nat) : Int) := by rw [Nat.shiftLeft_eq]; simp
  rw [hB, hA]
  show IntKind.i64.wrap ((BitVec.ofInt 64 (IntKind.i64.wrap ((BitVec.ofInt 64 (wrap64 _) ||| BitVec.ofInt 64 _).toNat : Int)) &&& BitVec.ofInt 64 ((281474976710655 : Nat) : Int)).toNat : Int) = _
  rw [BitVec.toNat_and, toNat_i64, BitVec.toNat_or, toNat_w64, toNat_nat _ hB2, toNat_nat _ (by decide)]
  generalize hA2 : R <<< k = A at *
  generalize hB3 : R >>> (48 - k) = B at *
  have e1 : ((A : Int) % 18446744073709551616).toNat = A % 2 ^ 64 := by omega
  rw [e1]
  have e2 : (((A % 2 ^ 64 ||| B : Nat) : Int) % 18446744073709551616).toNat = A % 2 ^ 64 ||| B := by
    have : A % 2 ^ 64 ||| B < 2 ^ 64 := Nat.or_lt_two_pow (Nat.mod_lt _ (by decide)) hB2
    omega
  rw [e2, show (281474976710655 : Nat) = 2 ^ 48 - 1 from rfl, Nat.and_two_pow_sub_one_eq_mod]
  have e3 : (A % 2 ^ 64 ||| B) % 2 ^ 48 = (A ||| B) % 2 ^ 48 := by
    refine Nat.eq_of_testBit_eq fun x => ?_
    rw [Nat.testBit_mod_two_pow, Nat.testBit_mod_two_pow, Nat.testBit_or, Nat.testBit_or, Nat.testBit_mod_two_pow]
    by_cases h : x < 48
    · simp [show x < 64 by omega]
    · simp [h]
  rw [e3]
  have e4 : (A ||| B) % 2 ^ 48 < 2 ^ 48 := Nat.mod_lt _ (by decide)
  unfold Globe.rotN
  rw [IntKind.wrap_i64]
  subst hA2 hB3
  show _ = (((R <<< k ||| _) % 2 ^ 48 : Nat) : Int)
  omega

theorem less_i64 (a b : Nat) (ha : a < 4611686018427387904) (_hb : b < 4611686018427387904) : bits .andNot .i64 (a : Int) (b : Int) = ((Globe.lessN a b : Nat) : Int) := by
  show IntKind.i64.wrap ((BitVec.ofInt 64 (a : Int) &&& ~~~BitVec.ofInt 64 (b : Int)).toNat : Int) = _
  have e : (BitVec.ofInt 64 (a : Int) &&& ~~~BitVec.ofInt 64 (b : Int)).toNat = Globe.lessN a b := by
    refine Nat.eq_of_testBit_eq fun x => ?_
    rw [Globe.lessN_bit, BitVec.testBit_toNat, BitVec.getLsbD_and, BitVec.getLsbD_not, BitVec.ofInt_natCast, BitVec.ofInt_natCast, BitVec.getLsbD_ofNat, BitVec.getLsbD_ofNat]
    by_cases h : x < 64
    · simp [h]
    · rw [Nat.testBit_lt_two_pow (x := a) (i := x) (Nat.lt_of_lt_of_le (show a < 2 ^ 64 by omega) (Nat.pow_le_pow_right (by decide) (by omega)))]
      simp [h]
  have h2 : Globe.lessN a b < 2 ^ 62 := Nat.xor_lt_two_pow ha (Nat.lt_of_le_of_lt Nat.and_le_left ha)
  rw [e, IntKind.wrap_i64]
  omega

theorem turned_c (R k : Nat) (w : World) (hR : R < 281474976710656) (hk : k < 48) :
    Calls Tryd.prog 62 #[.int .i64 (R : Int), .int .i64 (k : Int)] w fun e w' => e = .returned (.int .i64 (Globe.rotN R k : Nat)) ∧ ∃ n, w' = w.drewN n := by
  go_enter Tryd.func62, Tryd.ntmps62
  go_wp2
  go_quiet (fail)
  go_wp2
  go_ret
  exact ⟨ret_int (turned_key R k hR hk), _, rfl⟩

/-- The five functions that combine two rows. -/
theorem Union1_c (p q : Nat) (w : World) (hp : p < 281474976710656) (hq : q < 281474976710656) :
    Calls Tryd.prog 59 #[.int .i64 (p : Int), .int .i64 (q : Int)] w fun e w' => e = .returned (.int .i64 ((p ||| q : Nat) : Int)) ∧ w = w' := by
  go_enter Tryd.func59, Tryd.ntmps59
  go_wp2
  go_ret
  exact ⟨ret_int (or_i64 _ _ (by omega) (by omega)), rfl⟩
theorem Meet1_c (p q : Nat) (w : World) (hp : p < 281474976710656) (hq : q < 281474976710656) :
    Calls Tryd.prog 57 #[.int .i64 (p : Int), .int .i64 (q : Int)] w fun e w' => e = .returned (.int .i64 ((p &&& q : Nat) : Int)) ∧ w = w' := by
  go_enter Tryd.func57, Tryd.ntmps57
  go_wp2
  go_ret
  exact ⟨ret_int (and_i64 _ _ (by omega) (by omega)), rfl⟩
theorem Less1_c (p q : Nat) (w : World) (hp : p < 281474976710656) (hq : q < 281474976710656) :
    Calls Tryd.prog 60 #[.int .i64 (p : Int), .int .i64 (q : Int)] w fun e w' => e = .returned (.int .i64 ((Globe.lessN p q : Nat) : Int)) ∧ w = w' := by
  go_enter Tryd.func60, Tryd.ntmps60
  go_wp2
  go_ret
  exact ⟨ret_int (less_i64 _ _ (by omega) (by omega)), rfl⟩
theorem Shifted1_c (k p q B : Nat) (w : World) (hk : k < 48) (hp : p < 281474976710656) (hc : w.cell? ⟨B, 0, none⟩ = some (.int .i64 (k : Int))) :
    Calls Tryd.prog 61 #[.int .i64 (p : Int), .int .i64 (q : Int), .pointer (some ⟨B, 0, none⟩)] w fun e w' => e = .returned (.int .i64 ((Globe.rotN p k : Nat) : Int)) ∧ ∃ n, w' = w.drewN n := by
  go_enter Tryd.func61, Tryd.ntmps61
  go_wp2_with (go_at_call 62; refine (turned_c _ _ _ hp hk).mono ?_; rintro e w' ⟨rfl, n, rfl⟩)
  go_ret
  exact ⟨rfl, _, rfl⟩

end Go.Proofs.YtglfoglkdbbmmaaDoor
