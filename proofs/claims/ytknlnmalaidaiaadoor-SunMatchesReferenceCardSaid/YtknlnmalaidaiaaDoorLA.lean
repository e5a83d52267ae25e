/- The openers: arrays of ints by value. -/
import Derived.Test.YtknlnmalaidaiaaDoorL0
import Derived.Deep.Slices
namespace Go.Proofs.YtknlnmalaidaiaaDoor
open Go.ChangeShapes Go.WideShapes Go.ChangeAt Go.RowKit Go.Deep

def Pair (v : Value) : Prop := ∃ x y : Int, v = .agg #[.int .i64 x, .int .i64 y] ∧ IsI x ∧ IsI y

section
variable {H : Type} {enc : TypeId × Value → H} {W : World}
/-- An array of ints (each one cell): what it reads. -/
theorem ints_of_array {spare : Nat → Bool} {held : Bool} {t : TypeId} {k fuel : Nat} {cs : List Value} {x : DataW H × List MemPlace} (ht : Tryd.prog.underlying t = some (.array k 3)) (h : DataW.trod enc Tryd.prog W 0 spare held fuel t cs = some x) (hc : cs.length = k) :
    ∃ q : Nat → Int, ∀ j, j < k → cs[j]? = some (.int .i64 (q j)) ∧ IsI (q j) := by
  obtain ⟨xs, m, rfl, hx, hlen, hxl, hg⟩ := DataW.trod_array ht h
  have hone : Tryd.prog.cellsOf 3 = 1 := by kernel_rfl
  have each : ∀ j, j < k → ∃ n : Int, cs[j]? = some (.int .i64 n) ∧ IsI n := fun j hj => by
    have h1 := hg j hj
    rw [hone, Nat.mul_one] at h1
    have hx : xs[j]? = some (xs[j]'(by omega)) := List.getElem?_eq_getElem (by omega)
    rw [hx] at h1
    obtain ⟨n, hn, _, hw⟩ := DataW.trod_int Tryd.underlying3 h1
    have hcj : cs[j]? = some (.int .i64 n) := by
      have e : ((cs.drop j).take 1)[0]? = some (.int .i64 n) := by rw [hn]; rfl
      rw [List.getElem?_take_of_lt (by omega), List.getElem?_drop, Nat.add_zero] at e
      exact e
    exact ⟨n, hcj, isI_of_wf hw⟩
  obtain ⟨q, hq⟩ := choose_lt each
  exact ⟨q, hq⟩

theorem open_pair {b0 : Nat} {v : Value} {d : DataW H} {p : List MemPlace} (hval : Value.okWide Tryd.prog W .any b0 32 v) (h : DataW.Trod enc Tryd.prog W 0 (fun _ => true) true 32 v d p) : Pair v := by
  have hu := Tryd.underlying32
  simp only [Value.okWide, hu] at hval
  obtain ⟨cs, rfl, hsz, _⟩ := hval
  have h2 : Tryd.prog.cellsOf 32 = 2 := by kernel_rfl
  obtain ⟨fuel, hf⟩ := h
  have hl : cs.toList.length = 2 := by rw [Array.length_toList, hsz, h2]
  obtain ⟨q, hq⟩ := ints_of_array hu hf (by simpa [Value.cells] using hl)
  obtain ⟨l⟩ := cs
  match l, hl with
  | [x0, x1], _ =>
    have e0 := hq 0 (by omega)
    have e1 := hq 1 (by omega)
    simp [Value.cells] at e0 e1
    exact ⟨q 0, q 1, by rw [e0.1, e1.1], e0.2, e1.2⟩
end

end Go.Proofs.YtknlnmalaidaiaaDoor
