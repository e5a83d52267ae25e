/- The openers: structs of two ints by value, areas. -/
import Derived.Test.YtknlnmalaidaiaaDoorLA
import Derived.Test.YtknlnmalaidaiaaDoorW5
namespace Go.Proofs.YtknlnmalaidaiaaDoor
open Go.ChangeShapes Go.WideShapes Go.ChangeAt Go.RowKit Go.Deep

/-- An area, as it came: its rows. -/
def AnArea (w : World) (v : Value) : Prop := ∃ (a : Option Addr) (n c : Nat) (l : List Int), v = .agg #[.slice a n c] ∧ IntsAt w a l ∧ l.length = n ∧ n ≤ c ∧ c ≤ 9223372036854775807 ∧ (n = 0 ∨ ∃ b off, a = some ⟨b, off, none⟩) ∧ (a = none → c = 0)

section
variable {H : Type} {enc : TypeId × Value → H} {W : World}
theorem open_two {b0 : Nat} {t : TypeId} {f0 f1 : Field} {v : Value} {d : DataW H} {p : List MemPlace} (hu : Tryd.prog.underlying t = some (.struct #[f0, f1])) (h0 : f0.offset = 0) (h1 : f1.offset = 1) (t0 : f0.type = 3) (t1 : f1.type = 3) (h2 : Tryd.prog.cellsOf t = 2)
    (hval : Value.okWide Tryd.prog W .any b0 t v) (h : DataW.Trod enc Tryd.prog W 0 (fun _ => true) true t v d p) : Pair v := by
  obtain ⟨cs, rfl, hsz⟩ := okWide_struct hu hval
  obtain ⟨fuel, hf⟩ := h
  obtain ⟨xs, m, rfl, hx, hlen, hxl, hg⟩ := DataW.trod_struct hu hf
  have hone : Tryd.prog.cellsOf 3 = 1 := by kernel_rfl
  have g0 := hg 0 f0 rfl
  have g1 := hg 1 f1 rfl
  rw [h0, t0, hone] at g0
  rw [h1, t1, hone] at g1
  have hl : cs.toList.length = 2 := by rw [Array.length_toList, hsz, h2]
  obtain ⟨l⟩ := cs
  match l, hl with
  | [x0, x1], _ =>
    have hxl2 : xs.length = 2 := hxl
    have e0 : xs[0]? = some (xs[0]'(by omega)) := List.getElem?_eq_getElem _
    have e1 : xs[1]? = some (xs[1]'(by omega)) := List.getElem?_eq_getElem _
    rw [e0] at g0
    rw [e1] at g1
    obtain ⟨n0, hn0, _, w0⟩ := DataW.trod_int Tryd.underlying3 g0
    obtain ⟨n1, hn1, _, w1⟩ := DataW.trod_int Tryd.underlying3 g1
    simp [Value.cells] at hn0 hn1
    exact ⟨n0, n1, by rw [hn0, hn1], isI_of_wf w0, isI_of_wf w1⟩

theorem ints_of_slice {fuel : Nat} {cs : List Value} {x : DataW H × List MemPlace} (h : DataW.trod enc Tryd.prog W 0 (fun _ => true) true fuel 25 cs = some x) :
    ∃ (a : Option Addr) (n c : Nat) (l : List Int), cs = [.slice a n c] ∧ IntsAt W a l ∧ l.length = n ∧ n ≤ c ∧ c ≤ 9223372036854775807 ∧ (n = 0 ∨ ∃ b off, a = some ⟨b, off, none⟩) ∧ (a = none → c = 0) := by
  have hone : Tryd.prog.cellsOf 3 = 1 := by kernel_rfl
  rcases open_slice1 Tryd.underlying25 hone h with ⟨rfl, _⟩ | ⟨a, len, cap, m, n, V, D, Pl, rfl, hb, hl, hm, hmm, _, hx⟩
  · exact ⟨none, 0, 0, [], rfl, .inl rfl, rfl, by omega, by omega, .inl rfl, fun _ => rfl⟩
  · unfold maxLen at hm
    simp only [if_true] at hmm
    subst hmm
    have each : ∀ i, i < m → ∃ q : Int, W.cell? (a.add i) = some (.int .i64 q) := fun i hi => by
      obtain ⟨h1, h2⟩ := hx i hi
      obtain ⟨q, hq, _, _⟩ := DataW.trod_int Tryd.underlying3 h2
      rw [h1]
      exact ⟨q, by simpa using hq⟩
    obtain ⟨q, hq⟩ := choose_lt each
    rcases Nat.eq_zero_or_pos len with h0 | h0
    · subst h0
      exact ⟨_, 0, _, [], rfl, .inl rfl, rfl, by omega, by omega, .inl rfl, fun e => by cases e⟩
    · obtain ⟨b, off, spot⟩ := a
      have hspot : spot = none := by have := World.cell?_spot (hq 0 (by omega)); simpa [Addr.add] using this
      subst hspot
      refine ⟨_, len, _, (List.range len).map q, rfl, .inr ⟨b, off, rfl, fun i hi => ?_⟩, by simp, by omega, by omega, .inr ⟨b, off, rfl⟩, fun e => by cases e⟩
      have hi' : i < len := by simpa using hi
      have := hq i (by omega)
      rw [add_plain] at this
      rw [this]
      unfold Globe.nth
      simp [hi']

theorem open_area {b0 : Nat} {v : Value} {d : DataW H} {p : List MemPlace} (hval : Value.okWide Tryd.prog W .any b0 27 v) (h : DataW.Trod enc Tryd.prog W 0 (fun _ => true) true 27 v d p) : AnArea W v := by
  have hu := Tryd.underlying27
  obtain ⟨cs, rfl, hsz⟩ := okWide_struct hu hval
  obtain ⟨fuel, hf⟩ := h
  obtain ⟨xs, m, rfl, hx, hlen, hxl, hg⟩ := DataW.trod_struct hu hf
  have h1 : Tryd.prog.cellsOf 27 = 1 := by kernel_rfl
  have g0 := hg 0 _ rfl
  have hxl1 : xs.length = 1 := hxl
  have e0 : xs[0]? = some (xs[0]'(by omega)) := List.getElem?_eq_getElem _
  rw [e0] at g0
  obtain ⟨a, n, c, l, hcs, r⟩ := ints_of_slice g0
  have hl : cs.toList.length = 1 := by rw [Array.length_toList, hsz, h1]
  obtain ⟨L⟩ := cs
  have h11 : Tryd.prog.cellsOf 25 = 1 := by kernel_rfl
  rcases L with _ | ⟨x0, _ | ⟨x1, L⟩⟩
  · simp at hl
  · refine ⟨a, n, c, l, ?_, r⟩
    have : x0 = .slice a n c := by
      have e := hcs
      simp [Value.cells, h11] at e
      exact e
    rw [this]
  · simp at hl
end

end Go.Proofs.YtknlnmalaidaiaaDoor
