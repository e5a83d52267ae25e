/- Contracts of package globe: TrailingZeros, cells, Count. -/
import Derived.Test.YtglfoglkdbbmmaaDoorG2
import Derived.Test.YtglfoglkdbbmmaaDoorM5
import Derived.Test.YtglfoglkdbbmmaaDoorRF
import Derived.Laws.Bits64b
namespace Go.Proofs.YtglfoglkdbbmmaaDoor
open Go.RowKit Go.Shelf

attribute [local go_sem] Oper.semAt_some

/-- The table of package math/bits, as its initialiser lays it. -/
def Tab (w : World) : Prop := 1 < w.heap.size ∧ ∀ j, j < 64 → w.cell? ⟨1, j, none⟩ = some (.int .u8 (Lib.deBruijn64tab.getD j 0))
theorem Tab.ext {w w' : World} (h : Tab w) (hE : Ext w w') : Tab w' := ⟨Nat.lt_of_lt_of_le h.1 hE.size, fun j hj => hE.cell (h.2 j hj)⟩

theorem tz_neg (x : Nat) (h0 : x ≠ 0) (hx : x < 18446744073709551616) : IntKind.u64.wrap (-(x : Int)) = ((18446744073709551616 - x : Nat) : Int) := by rw [IntKind.wrap_u64]; omega
theorem tz_key (x a : Nat) (h0 : x ≠ 0) (hx : x < 18446744073709551616) (hlow : x &&& (18446744073709551616 - x) = a) :
    IntKind.u64.wrap (bits BinOp.and IntKind.u64 (x : Int) (IntKind.u64.wrap (-(x : Int))) * 285870213051353865) / 288230376151711744 = ((a * 285870213051353865 % 18446744073709551616 / 288230376151711744 : Nat) : Int) := by
  rw [tz_neg x h0 hx, bits_and_u64_nat x _ hx (by omega), hlow, IntKind.wrap_u64]
  omega

set_option maxHeartbeats 1000000 in
theorem tz64_core (x k idx : Nat) (w : World) (hx0 : ((x : Int) == 0) = false)
    (key : IntKind.u64.wrap (bits BinOp.and IntKind.u64 (x : Int) (IntKind.u64.wrap (-(x : Int))) * 285870213051353865) / 288230376151711744 = (idx : Int))
    (hi : idx < 64) (hk : k < 64) (hcell : w.cell? ⟨1, idx, none⟩ = some (.int .u8 k)) :
    Calls Tryd.prog 80 #[.int .u64 x] w fun e w' => e = .returned (.int .i64 k) ∧ w = w' := by
  go_enter Tryd.func80, Tryd.ntmps80
  go_wp2_with (simp only [key])
  go_ret
  exact ⟨rfl, rfl⟩

theorem TrailingZeros64_c (R : Nat) (w : World) (h0 : R ≠ 0) (h : R < 281474976710656) (hT : Tab w) :
    Calls Tryd.prog 80 #[.int .u64 (R : Int)] w fun e w' => e = .returned (.int .i64 (Lib.ctz 64 R : Nat)) ∧ w = w' := by
  obtain ⟨hlow, hk⟩ := Lib.lowest_bit 64 R h0 (by omega)
  obtain ⟨hi, htab⟩ := Lib.deBruijn64_at _ hk
  have hcell := hT.2 _ hi
  rw [htab] at hcell
  exact tz64_core R _ _ w (by simp; omega) (tz_key R _ h0 (by omega) hlow) hi hk hcell

theorem TrailingZeros_c (R : Nat) (w : World) (h0 : R ≠ 0) (h : R < 281474976710656) (hT : Tab w) :
    Calls Tryd.prog 75 #[.int .u64 (R : Int)] w fun e w' => e = .returned (.int .i64 (Lib.ctz 64 R : Nat)) ∧ w = w' := by
  go_enter Tryd.func75, Tryd.ntmps75
  go_wp2_with (go_at_call 80; refine (TrailingZeros64_c _ _ h0 h hT).mono ?_; rintro e w' ⟨rfl, rfl⟩)
  go_ret
  exact ⟨rfl, rfl⟩

end Go.Proofs.YtglfoglkdbbmmaaDoor
