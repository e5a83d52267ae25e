/- The opener: pairs of ints in memory. -/
import Derived.Test.YtknlnmalaidaiaaDoorLA
import Derived.Test.YtknlnmalaidaiaaDoorA6
namespace Go.Proofs.YtknlnmalaidaiaaDoor
open Go.ChangeShapes Go.WideShapes Go.ChangeAt Go.RowKit Go.Deep

def Pairs (w : World) (v : Value) : Prop := ∃ (a : Option Addr) (n c : Nat) (q : Nat → Nat → Int), v = .slice a n c ∧ n ≤ 9223372036854775807 ∧ PsAt w a n q

section
variable {H : Type} {enc : TypeId × Value → H} {W : World}
theorem open_pairs {b0 : Nat} {v : Value} {d : DataW H} {p : List MemPlace} (hval : Value.okWide Tryd.prog W .any b0 24 v) (h : DataW.Trod enc Tryd.prog W 0 (fun _ => true) true 24 v d p) : Pairs W v := by
  obtain ⟨a, n, c, rfl⟩ := okWide_slice Tryd.underlying24 hval
  obtain ⟨fuel, hf⟩ := h
  rcases open_slice Tryd.underlying24 hf with ⟨hcs, _⟩ | ⟨a', len, cap, m, k, D, Pl, hcs, hb, hl, hm, hmm, _, hx⟩
  · simp [Value.cells] at hcs
    obtain ⟨rfl, rfl, rfl⟩ := hcs
    exact ⟨none, 0, 0, fun _ _ => 0, rfl, by omega, .inl rfl⟩
  · simp [Value.cells] at hcs
    obtain ⟨rfl, rfl, rfl⟩ := hcs
    unfold maxLen at hm
    rcases Nat.eq_zero_or_pos n with h0 | h0
    · exact ⟨_, _, _, fun _ _ => 0, rfl, by omega, .inl h0⟩
    · have h4 : Tryd.prog.cellsOf 32 = 2 := by kernel_rfl
      rw [h4] at hx
      simp only [if_true] at hmm
      subst hmm
      have each : ∀ i, i < n → ∃ q : Nat → Int, ∀ j, j < 2 → W.cell? (a'.add (i * 2 + j)) = some (.int .i64 (q j)) ∧ IsI (q j) := fun i hi => by
        obtain ⟨cs', hc1, hc2⟩ := hx i (by omega)
        obtain ⟨_, hcl, hat⟩ := World.cells?_some hc1
        obtain ⟨q, hq⟩ := ints_of_array Tryd.underlying32 hc2 hcl
        refine ⟨q, fun j hj => ⟨?_, (hq j hj).2⟩⟩
        rw [← Go.Deep.add_add, hat j hj]
        exact (hq j hj).1
      obtain ⟨q, hq⟩ := choose_lt each
      obtain ⟨b, off, spot⟩ := a'
      have hspot : spot = none := by have := World.cell?_spot (hq 0 h0 0 (by omega)).1; simpa [Addr.add] using this
      subst hspot
      refine ⟨_, _, _, q, rfl, by omega, .inr ⟨b, off, rfl, fun i hi j hj => ?_⟩⟩
      have := hq i hi j hj
      rw [add_plain, ← Nat.add_assoc] at this
      exact this
end

end Go.Proofs.YtknlnmalaidaiaaDoor
