/- The statement ProductBest: for every input that the row lists, the law returns true, and every argument reads as it read before. -/
import Derived.Test.YtajdohcgjgknmaaDoorV7ProductBest
import Derived.Deep.Slices
/- The opener: rows of four ints in memory. -/
namespace Go.Proofs.YtajdohcgjgknmaaDoor
open Go.ChangeShapes Go.WideShapes Go.ChangeAt Go.RowKit Go.Deep

section
variable {H : Type} {enc : TypeId × Value → H} {W : World}
/-- An array of ints (each one cell): what it reads. -/
theorem ints_of_array {spare : Nat → Bool} {held : Bool} {t : TypeId} {k fuel : Nat} {cs : List Value} {x : DataW H × List MemPlace} (ht : Tryd.prog.underlying t = some (.array k 3)) (h : DataW.trod enc Tryd.prog W 0 spare held fuel t cs = some x) (hc : cs.length = k) :
  ∃ q : Nat → Int, ∀ j, j < k → cs[j]? = some (.int .i64 (q j)) ∧ IsI (q j) := by
 obtain ⟨xs, m, rfl, hx, hlen, hxl, hg⟩ := DataW.trod_array ht h
 have hone : Tryd.prog.cellsOf 3 = 1 := by kernel_rfl
 have each : ∀ j, j < k → ∃ n : Int, cs[j]? = some (.int .i64 n) ∧ IsI n := fun j hj => by
  have h1 := hg j hj
  rw [hone, Nat.mul_one] at h1
  have hx : xs[j]? = some (xs[j]'(by omega)) := List.getElem?_eq_getElem (by omega)
  rw [hx] at h1
  obtain ⟨n, hn, _, hw⟩ := DataW.trod_int Tryd.underlying3 h1
  have hcj : cs[j]? = some (.int .i64 n) := by
   have e : ((cs.drop j).take 1)[0]? = some (.int .i64 n) := by rw [hn]; rfl
   rw [List.getElem?_take_of_lt (by omega), List.getElem?_drop, Nat.add_zero] at e
   exact e
  exact ⟨n, hcj, isI_of_wf hw⟩
 obtain ⟨q, hq⟩ := choose_lt each
 exact ⟨q, hq⟩

end


def Quads (w : World) (v : Value) : Prop := ∃ (a : Option Addr) (n c : Nat) (q : Nat → Nat → Int), v = .slice a n c ∧ n ≤ c ∧ c ≤ 9223372036854775807 ∧ (a = none → c = 0) ∧ QAt w a n q

section
variable {H : Type} {enc : TypeId × Value → H} {W : World}
set_option maxRecDepth 100000 in
theorem open_quads {b0 : Nat} {v : Value} {d : DataW H} {p : List MemPlace} (hval : Value.okWide Tryd.prog W .any b0 22 v) (h : DataW.Trod enc Tryd.prog W 0 (fun _ => true) true 22 v d p) : Quads W v := by
  obtain ⟨a, n, c, rfl⟩ := okWide_slice Tryd.underlying22 hval
  obtain ⟨fuel, hf⟩ := h
  rcases open_slice Tryd.underlying22 hf with ⟨hcs, _⟩ | ⟨a', len, cap, m, k, D, Pl, hcs, hb, hl, hm, hmm, _, hx⟩
  · simp [Value.cells] at hcs
    obtain ⟨rfl, rfl, rfl⟩ := hcs
    exact ⟨none, 0, 0, fun _ _ => 0, rfl, by omega, by omega, fun _ => rfl, .inl rfl⟩
  · simp [Value.cells] at hcs
    obtain ⟨rfl, rfl, rfl⟩ := hcs
    unfold maxLen at hm
    rcases Nat.eq_zero_or_pos n with h0 | h0
    · exact ⟨_, _, _, fun _ _ => 0, rfl, by omega, by omega, (fun e => by cases e), .inl h0⟩
    · have h4 : Tryd.prog.cellsOf 60 = 4 := by kernel_rfl
      rw [h4] at hx
      simp only [if_true] at hmm
      subst hmm
      have each : ∀ i, i < n → ∃ q : Nat → Int, ∀ j, j < 4 → W.cell? (a'.add (i * 4 + j)) = some (.int .i64 (q j)) ∧ IsI (q j) := fun i hi => by
        obtain ⟨cs', hc1, hc2⟩ := hx i (by omega)
        obtain ⟨_, hcl, hat⟩ := World.cells?_some hc1
        obtain ⟨q, hq⟩ := ints_of_array Tryd.underlying60 hc2 hcl
        refine ⟨q, fun j hj => ⟨?_, (hq j hj).2⟩⟩
        rw [← Go.Deep.add_add, hat j hj]
        exact (hq j hj).1
      obtain ⟨q, hq⟩ := choose_lt each
      obtain ⟨b, off, spot⟩ := a'
      have hspot : spot = none := by have := World.cell?_spot (hq 0 h0 0 (by omega)).1; simpa [Addr.add] using this
      subst hspot
      refine ⟨_, _, _, q, rfl, by omega, by omega, (fun e => by cases e), .inr ⟨b, off, rfl, fun i hi j hj => ?_⟩⟩
      have := hq i hi j hj
      rw [add_plain, ← Nat.add_assoc] at this
      exact this
end

end Go.Proofs.YtajdohcgjgknmaaDoor

/- What the laws of chapter 31 share: lists of pieces that are cut and joined. -/
namespace Go.Proofs.YtajdohcgjgknmaaDoor
open Go.RowKit
theorem RawsAt.take {w : World} {a : Option Addr} {n : Nat} {rs : List RawPc} (h : RawsAt w a n rs) {k : Nat} (hk : k ≤ n) : RawsAt w a k (rs.take k) := by
  obtain ⟨h1, h2, h3⟩ := h
  refine ⟨by rw [List.length_take]; omega, by omega, ?_⟩
  rcases h3 with h3 | ⟨b, o, ha, hx⟩
  · exact .inl (by omega)
  · refine .inr ⟨b, o, ha, fun i x hi => hx i x ?_⟩
    rw [List.getElem?_take] at hi
    split at hi
    · exact hi
    · cases hi
theorem RawsAt.drop {w : World} {a : Option Addr} {n : Nat} {rs : List RawPc} (h : RawsAt w a n rs) {k c : Nat} (hk : k ≤ n) (hc : n ≤ c) : RawsAt w (if c = k then a else a.map (fun x => x.add (k * 4))) (n - k) (rs.drop k) := by
  obtain ⟨h1, h2, h3⟩ := h
  refine ⟨by rw [List.length_drop, h1], by omega, ?_⟩
  by_cases h0 : n = k
  · exact .inl (by omega)
  · rcases h3 with h3 | ⟨b, o, rfl, hx⟩
    · exact .inl (by omega)
    · rw [if_neg (by omega)]
      refine .inr ⟨b, o + k * 4, by rw [Option.map_some, Addr.add_mid], fun i x hi => ?_⟩
      rw [List.getElem?_drop] at hi
      have := hx (k + i) x hi
      rwa [show o + (k + i) * 4 = o + k * 4 + i * 4 by rw [Nat.add_mul]; omega] at this
theorem Reads.take {w : World} {rs : List RawPc} {l : List Prod.Pc} (h : Reads w rs l) (k : Nat) : Reads w (rs.take k) (l.take k) := by
  have e := h.len
  refine Reads.of_at (by rw [List.length_take, List.length_take, e]) fun i x p hx hp => ?_
  rw [List.getElem?_take] at hx hp
  split at hx
  · rename_i hi
    rw [if_pos hi] at hp
    obtain ⟨q, hq, hr⟩ := h.at hx
    rw [hp] at hq; cases hq; exact hr
  · cases hx
theorem Reads.drop {w : World} {rs : List RawPc} {l : List Prod.Pc} (h : Reads w rs l) (k : Nat) : Reads w (rs.drop k) (l.drop k) := by
 have e := h.len
 refine Reads.of_at (by rw [List.length_drop, List.length_drop, e]) fun i x p hx hp => ?_
 rw [List.getElem?_drop] at hx hp
 obtain ⟨q, hq, hr⟩ := h.at hx
 rw [hp] at hq; cases hq; exact hr
/-- A slice from k on. -/
theorem PcsAt.drop {w : World} {a : Option Addr} {n : Nat} {l : List Prod.Pc} (h : PcsAt w a n l) {k c : Nat} (hk : k ≤ n) (hc : n ≤ c) : PcsAt w (if c = k then a else a.map (fun x => x.add (k * 4))) (n - k) (l.drop k) := by
 obtain ⟨rs, h1, h2⟩ := h; exact ⟨_, h1.drop hk hc, h2.drop k⟩
end Go.Proofs.YtajdohcgjgknmaaDoor

/- The mathematics of dividing: going on from what is divided, who gives a cell, what is missing. -/
namespace Go.Proofs.YtajdohcgjgknmaaDoor
namespace Prod
open Globe
theorem okP_v {p : Pc} (h : okP p = true) : validL p.rw = true := (okP_t.1 h).2.2
theorem divide_ok {ar : List Int} {l : List Pc} (ha : validL ar = true) (ho : ∀ p ∈ l, okP p = true) : ∀ p ∈ divide ar l, okP p = true := by
  have key : ∀ {s : List Pc} {r : List Int}, validL r = true → (∀ p ∈ s, okP p = true) → ∀ y ∈ divF r s, okP y = true := by
    intro s
    induction s with
    | nil => intro r _ _ y hy; cases hy
    | cons x s ih =>
      intro r hr hs y hy
      rw [divF] at hy
      rcases List.mem_append.1 hy with hy | hy
      · split at hy
        · cases hy
        · rw [List.mem_singleton.1 hy]; exact own_valid hr (hs x (by simp))
      · exact ih (less_valid hr) (fun p hp => hs p (by simp [hp])) y hy
  exact fun p hp => key ha (sortD_ok ho) p (List.mem_reverse.1 hp)
/-! Who gives a cell. -/
theorem has_divF : ∀ {s : List Pc} {r : List Int} {u v : Nat}, u < 48 → v < 24 → validL r = true → ((∃ y ∈ divF r s, hasL y.rw u v = true) ↔ hasL r u v = true ∧ ∃ p ∈ s, hasL p.rw u v = true)
  | [], _, _, _, _, _, _ => ⟨(fun ⟨y, hy, _⟩ => by cases hy), fun ⟨_, p, hp, _⟩ => by cases hp⟩
  | z :: s, r, u, v, hu, hv, h => by
    have ih := has_divF (s := s) hu hv (less_valid (b := z.rw) h)
    constructor
    · rintro ⟨y, hy, hh⟩
      obtain ⟨p, hp, _, _, _, h4⟩ := mem_divF hy
      exact ⟨(h4 u v hv hh).2, p, hp, (h4 u v hv hh).1⟩
    · rintro ⟨hr, p, hp, hh⟩
      rw [divF]
      cases hz : hasL z.rw u v
      · rcases List.mem_cons.1 hp with rfl | hp
        · rw [hh] at hz; cases hz
        · obtain ⟨y, hy, k⟩ := ih.2 ⟨by rw [has_less hv, hr, hz]; rfl, p, hp, hh⟩
          exact ⟨y, by simp [hy], k⟩
      · have hm : hasL (meetL r z.rw) u v = true := by rw [has_meet hv, hr, hz]; rfl
        have hq : noC (meetL r z.rw) = false := (noC_false (meet_valid h)).2 ⟨u, v, hu, hv, hm⟩
        exact ⟨own r z, by rw [hq]; simp, hm⟩
theorem divF_best : ∀ {s : List Pc} {r : List Int} {x : Pc} {u v : Nat}, Sorted s → v < 24 → x ∈ divF r s → hasL x.rw u v = true → ∀ q ∈ s, hasL q.rw u v = true → better q x = false
  | [], _, _, _, _, _, _, hx, _, _, _, _ => by cases hx
  | z :: s, r, x, u, v, hs, hv, hx, hh, q, hq, hc => by
    obtain ⟨h1, h2⟩ := List.pairwise_cons.1 hs
    rw [divF] at hx
    rcases List.mem_append.1 hx with hx | hx
    · split at hx
      · cases hx
      · rw [List.mem_singleton.1 hx]
        show better q z = false
        rcases List.mem_cons.1 hq with rfl | hq
        · exact better_irrefl _
        · exact better_asymm (h1 q hq)
    · rcases List.mem_cons.1 hq with rfl | hq
      · obtain ⟨p, _, _, _, _, h4⟩ := mem_divF hx
        have := (h4 u v hv hh).2
        rw [has_less hv, hc] at this; simp at this
      · exact divF_best h2 hv hx hh q hq hc
theorem find_has {ps : List Pc} {u v : Nat} (hu : u < 48) (hv : v < 24) (ho : ∀ p ∈ ps, okP p = true) : (∀ x, ps.find? (fun p => hasB p.rw ((u : Nat) : Int) ((v : Nat) : Int)) = some x → x ∈ ps ∧ hasL x.rw u v = true) ∧ (ps.find? (fun p => hasB p.rw ((u : Nat) : Int) ((v : Nat) : Int)) = none ↔ ¬ ∃ x ∈ ps, hasL x.rw u v = true) := by
  constructor
  · intro x hx
    have hm := List.mem_of_find?_eq_some hx
    have := List.find?_some hx
    rw [hasB_nat (okP_v (ho x hm)) hu hv] at this
    exact ⟨hm, this⟩
  · rw [List.find?_eq_none]
    constructor
    · rintro h ⟨x, hx, hh⟩
      exact h x hx (by rw [hasB_nat (okP_v (ho x hx)) hu hv]; exact hh)
    · intro h x hx hh
      rw [hasB_nat (okP_v (ho x hx)) hu hv] at hh
      exact h ⟨x, hx, hh⟩
theorem has_divide {ar : List Int} {l : List Pc} {u v : Nat} (hu : u < 48) (hv : v < 24) (ha : validL ar = true) : (∃ y ∈ divide ar l, hasL y.rw u v = true) ↔ hasL ar u v = true ∧ ∃ p ∈ l, hasL p.rw u v = true := by
  have := has_divF (s := sortD l) (r := ar) hu hv ha
  unfold divide
  constructor
  · rintro ⟨y, hy, hh⟩
    obtain ⟨h1, p, hp, h2⟩ := this.1 ⟨y, List.mem_reverse.1 hy, hh⟩
    exact ⟨h1, p, (sortD_perm l).mem_iff.1 hp, h2⟩
  · rintro ⟨h1, p, hp, h2⟩
    obtain ⟨y, hy, hh⟩ := this.2 ⟨h1, p, (sortD_perm l).mem_iff.2 hp, h2⟩
    exact ⟨y, List.mem_reverse.2 hy, hh⟩
theorem divide_best {ar : List Int} {l : List Pc} (hd : Dist l) {x : Pc} {u v : Nat} (hv : v < 24) (hx : x ∈ divide ar l) (hh : hasL x.rw u v = true) : ∀ q ∈ l, hasL q.rw u v = true → better q x = false := fun q hq hc =>
 divF_best (sortD_sorted hd) hv (List.mem_reverse.1 hx) hh q ((sortD_perm l).mem_iff.2 hq) hc
theorem divide_from {ar : List Int} {l : List Pc} {x : Pc} (hx : x ∈ divide ar l) : ∃ p ∈ l, x.im = p.im ∧ x.cl = p.cl ∧ x.t = p.t ∧ ∀ u v, v < 24 → hasL x.rw u v = true → hasL p.rw u v = true ∧ hasL ar u v = true := by
 obtain ⟨p, hp, h⟩ := mem_divF (List.mem_reverse.1 hx)
 exact ⟨p, (sortD_perm l).mem_iff.1 hp, h⟩
/-! What is missing. -/
/-! Going on, one piece after the other. -/
theorem take_snoc {T : List Pc} {j : Nat} {x : Pc} (h : T[j]? = some x) : T.take (j + 1) = T.take j ++ [x] := by rw [List.take_add_one, h]; rfl
end Prod
end Go.Proofs.YtajdohcgjgknmaaDoor

/- The mathematics of the law ProductBest: the best piece of a list; how many cells are given. -/
namespace Go.Proofs.YtajdohcgjgknmaaDoor
namespace Prod
open Globe
/-- The best of the first k pieces that have a cell: its index, or -1. -/
def BestI (l : List Pc) (u v k : Nat) (b : Int) : Prop :=
 (b = -1 ∧ ∀ p ∈ l.take k, hasL p.rw u v = false) ∨ ∃ (j : Nat) (p : Pc), b = (j : Int) ∧ j < k ∧ l[j]? = some p ∧ hasL p.rw u v = true ∧ ∀ q ∈ l.take k, hasL q.rw u v = true → better q p = false
theorem BestI.zero (l : List Pc) (u v : Nat) : BestI l u v 0 (-1) := .inl ⟨rfl, fun p hp => by simp at hp⟩
theorem mem_snoc {l : List Pc} {k : Nat} {x q : Pc} (hx : l[k]? = some x) (hq : q ∈ l.take (k + 1)) : q ∈ l.take k ∨ q = x := by
 rw [take_snoc hx] at hq
 rcases List.mem_append.1 hq with h | h
 · exact .inl h
 · exact .inr (List.mem_singleton.1 h)
theorem BestI.skip {l : List Pc} {u v k : Nat} {b : Int} {x : Pc} (h : BestI l u v k b) (hx : l[k]? = some x) (hn : hasL x.rw u v = false) : BestI l u v (k + 1) b := by
  rcases h with ⟨h1, h2⟩ | ⟨j, p, h1, h2, h3, h4, h5⟩
  · refine .inl ⟨h1, fun q hq => ?_⟩
    rcases mem_snoc hx hq with hq | rfl
    · exact h2 q hq
    · exact hn
  · refine .inr ⟨j, p, h1, by omega, h3, h4, fun q hq hh => ?_⟩
    rcases mem_snoc hx hq with hq | rfl
    · exact h5 q hq hh
    · rw [hn] at hh; cases hh
theorem BestI.first {l : List Pc} {u v k : Nat} {x : Pc} (hno : ∀ p ∈ l.take k, hasL p.rw u v = false) (hx : l[k]? = some x) (hn : hasL x.rw u v = true) : BestI l u v (k + 1) (k : Int) := by
 refine .inr ⟨k, x, rfl, by omega, hx, hn, fun q hq hh => ?_⟩
 rcases mem_snoc hx hq with hq | rfl
 · rw [hno q hq] at hh; cases hh
 · exact better_irrefl _
theorem BestI.take {l : List Pc} {u v k : Nat} {p x : Pc} (h5 : ∀ q ∈ l.take k, hasL q.rw u v = true → better q p = false) (hx : l[k]? = some x) (hn : hasL x.rw u v = true) (hb : better x p = true) : BestI l u v (k + 1) (k : Int) := by
  refine .inr ⟨k, x, rfl, by omega, hx, hn, fun q hq hh => ?_⟩
  rcases mem_snoc hx hq with hq | rfl
  · cases hqx : better q x
    · rfl
    · have := better_trans hqx hb
      rw [h5 q hq hh] at this; cases this
  · exact better_irrefl _
theorem BestI.keep {l : List Pc} {u v k j : Nat} {p x : Pc} (h2 : j < k) (h3 : l[j]? = some p) (h4 : hasL p.rw u v = true) (h5 : ∀ q ∈ l.take k, hasL q.rw u v = true → better q p = false) (hx : l[k]? = some x) (hb : better x p = false) : BestI l u v (k + 1) (j : Int) := by
 refine .inr ⟨j, p, rfl, by omega, h3, h4, fun q hq hh => ?_⟩
 rcases mem_snoc hx hq with hq | rfl
 · exact h5 q hq hh
 · exact hb
theorem best_none {ar : List Int} {l : List Pc} {u v k : Nat} {b : Int} (hu : u < 48) (hv : v < 24) (ha : validL ar = true) (hr : hasL ar u v = true) (ho : ∀ p ∈ l, okP p = true) (_hk : l.length ≤ k) (h : BestI l u v k b) (hf : (divide ar l).find? (fun p => hasB p.rw ((u : Nat) : Int) ((v : Nat) : Int)) = none) : b = -1 := by
 rcases h with ⟨h1, _⟩ | ⟨j, p, h1, h2, h3, h4, h5⟩
 · exact h1
 · exact absurd ((has_divide hu hv ha).2 ⟨hr, p, List.mem_of_getElem? h3, h4⟩) ((find_has hu hv (divide_ok ha ho)).2.1 hf)
theorem best_some {ar : List Int} {l : List Pc} {u v k : Nat} {b : Int} {x : Pc} (hu : u < 48) (hv : v < 24) (ha : validL ar = true) (ho : ∀ p ∈ l, okP p = true) (hd : Dist l) (hk : l.length ≤ k) (h : BestI l u v k b) (hf : (divide ar l).find? (fun p => hasB p.rw ((u : Nat) : Int) ((v : Nat) : Int)) = some x) : ∃ (j : Nat) (p : Pc), b = (j : Int) ∧ j < k ∧ l[j]? = some p ∧ p.im = x.im := by
  obtain ⟨g1, g2⟩ := (find_has hu hv (divide_ok ha ho)).1 x hf
  obtain ⟨z, hz, e1, e2, e3, h9⟩ := divide_from g1
  have hzc := (h9 u v hv g2).1
  rcases h with ⟨_, h2⟩ | ⟨j, p, h1, h2, h3, h4, h5⟩
  · have hk' := h2 z (by rw [List.take_of_length_le hk]; exact hz); rw [hzc] at hk'; cases hk'
  · refine ⟨j, p, h1, h2, h3, ?_⟩
    have k1 := divide_best hd hv g1 g2 p (List.mem_of_getElem? h3) h4
    have k2 := h5 z (by rw [List.take_of_length_le hk]; exact hz) hzc
    have k3 : better x p = false := by unfold better at k2 ⊢; rw [e1, e2, e3]; exact k2
    exact (bet_total k1 k3).2.2
theorem rest_none {ar : List Int} {l : List Pc} {u v : Nat} (hu : u < 48) (hv : v < 24) (ha : validL ar = true) (hr : hasL ar u v = true) (ho : ∀ p ∈ l, okP p = true) (hf : (divide ar l).find? (fun p => hasB p.rw ((u : Nat) : Int) ((v : Nat) : Int)) = none) : hasL (rest ar (divide ar l)) u v = true := by
 rw [has_rest hv, hr, Bool.true_and, List.all_eq_true]
 intro p hp
 cases hh : hasL p.rw u v
 · rfl
 · exact absurd ⟨p, hp, hh⟩ ((find_has hu hv (divide_ok ha ho)).2.1 hf)
theorem rest_some {ar : List Int} {l : List Pc} {u v : Nat} {x : Pc} (hu : u < 48) (hv : v < 24) (ha : validL ar = true) (ho : ∀ p ∈ l, okP p = true) (hf : (divide ar l).find? (fun p => hasB p.rw ((u : Nat) : Int) ((v : Nat) : Int)) = some x) : hasL (rest ar (divide ar l)) u v = false := by
 obtain ⟨g1, g2⟩ := (find_has hu hv (divide_ok ha ho)).1 x hf
 rw [has_rest hv]
 cases hh : ((divide ar l).all fun p => !hasL p.rw u v)
 · rw [Bool.and_false]
 · have := List.all_eq_true.1 hh x g1; rw [g2] at this; cases this
/-- How many of the first i cells are given. -/
def givenN (ar : List Int) (ps : List Pc) (i : Nat) : Nat := ((((cellsTo ar 24).take i).filter fun c => !hasL (rest ar ps) c.1 c.2)).length
theorem givenN_succ {ar : List Int} {ps : List Pc} {i : Nat} {c : Nat × Nat} (hc : (cellsTo ar 24)[i]? = some c) : givenN ar ps (i + 1) = givenN ar ps i + (if hasL (rest ar ps) c.1 c.2 = true then 0 else 1) := by
 unfold givenN
 rw [List.take_add_one, hc, List.filter_append, List.length_append]
 cases h : hasL (rest ar ps) c.1 c.2 <;> simp [h]
theorem givenN_y {ar : List Int} {ps : List Pc} {i : Nat} {c : Nat × Nat} (hc : (cellsTo ar 24)[i]? = some c) (h : hasL (rest ar ps) c.1 c.2 = true) : givenN ar ps (i + 1) = givenN ar ps i := by rw [givenN_succ hc, if_pos h]; rfl
theorem givenN_n {ar : List Int} {ps : List Pc} {i : Nat} {c : Nat × Nat} (hc : (cellsTo ar 24)[i]? = some c) (h : hasL (rest ar ps) c.1 c.2 = false) : givenN ar ps (i + 1) = givenN ar ps i + 1 := by rw [givenN_succ hc, if_neg (by rw [h]; simp)]
theorem givenN_le (ar : List Int) (ps : List Pc) (i : Nat) : givenN ar ps i ≤ (cellsTo ar 24).length :=
 T (List.length_filter_le _ _) (by rw [List.length_take]; omega)
theorem given_all {ar : List Int} {ps : List Pc} {i : Nat} (hi : (cellsTo ar 24).length ≤ i) : (cellsTo (rest ar ps) 24).length + givenN ar ps i = (cellsTo ar 24).length := by
 unfold givenN
 rw [List.take_of_length_le hi]
 have e : cellsTo (rest ar ps) 24 = (cellsTo ar 24).filter fun c => hasL (rest ar ps) c.1 c.2 := by
  rw [cellsTo_filter, cellsTo_filter, List.filter_filter]
  refine List.filter_congr fun c hc => ?_
  have hv := (mem_all.1 hc).2
  rw [has_rest hv]
  cases hasL ar c.1 c.2 <;> simp
 rw [e]
 have := List.length_eq_countP_add_countP (fun c : Nat × Nat => hasL (rest ar ps) c.1 c.2) (l := cellsTo ar 24)
 rw [List.countP_eq_length_filter, List.countP_eq_length_filter] at this
 rw [this]
 congr 2
 refine List.filter_congr fun c _ => ?_
 cases hasL (rest ar ps) c.1 c.2 <;> simp
end Prod
theorem PcsAt.at2 {w : World} {b o n : Nat} {l : List Prod.Pc} (h : PcsAt w (some ⟨b, o, none⟩) n l) {i : Nat} {p : Prod.Pc} (hi : l[i]? = some p) :
  ∃ (ar : Option Addr) (k c : Nat), w.cell? ⟨b, o + i * 4, none⟩ = some (.int .i64 p.im) ∧ w.cell? ⟨b, o + i * 4 + 1, none⟩ = some (.int .i64 p.t) ∧ w.cell? ⟨b, o + i * 4 + 2, none⟩ = some (.bool p.cl) ∧
   w.cell? ⟨b, o + i * 4 + 3, none⟩ = some (.slice ar k c) ∧ AA w ar p.rw k (Globe.validL p.rw) := by
 obtain ⟨b', o', q, ar, k, c, e, hq, h1⟩ := h.at (i := i) (by rw [← h.len]; exact (List.getElem?_eq_some_iff.1 hi).1)
 cases e
 rw [hi] at hq; cases hq
 exact ⟨ar, k, c, h1⟩
end Go.Proofs.YtajdohcgjgknmaaDoor

/- The reference of chapter 31: Better. -/
namespace Go.Proofs.YtajdohcgjgknmaaDoor
open Go.RowKit

set_option maxRecDepth 1000000 in
set_option maxHeartbeats 4000000 in
theorem rBetter_c {x y : Prod.Pc} {a b : Option Addr} {k c m d : Nat} (w : World) : Calls Tryd.prog 15 #[.agg #[.int .i64 x.im, .int .i64 x.t, .bool x.cl, .slice a k c], .agg #[.int .i64 y.im, .int .i64 y.t, .bool y.cl, .slice b m d]] w fun e w' => e = .returned (.bool (Prod.better x y)) ∧ Ext w w' := by
 cases hx : x.cl
 ·
  cases hy : y.cl
  ·
   refine calls_cw 27 [(1, .agg #[.int .i64 y.im, .int .i64 y.t, .bool false, .slice b m d]), (0, .agg #[.int .i64 x.im, .int .i64 x.t, .bool false, .slice a k c])] Tryd.func15 rfl Tryd.ntmps15 (by kernel_rfl) (by kernel_rfl) (fun L => ?_)
   have hE : Ext w w := Ext.refl w
   refine cw_seq ?_; refine cw_plain ?_
   refine pS (sn_new (us := #[.int .i64 x.im, .int .i64 x.t, .bool false, .slice a k c]) (t := 41) (by kernel_rfl) ?_)
   intro O1 X2 hzO1 hyO1 hb hbx; have ⟨bO1_0, bO1_1, bO1_2, bO1_3⟩ := bx4 hbx; clear hbx
   replace hE := hE.trans hb; have hs3 := hb.size; clear hb; have lt4 := bO1_0.lt
   refine pS (sn_new (us := #[.int .i64 y.im, .int .i64 y.t, .bool false, .slice b m d]) (t := 41) (by kernel_rfl) ?_)
   intro O5 X6 hzO5 hyO5 hb hbx; have ⟨bO5_0, bO5_1, bO5_2, bO5_3⟩ := bx4 hbx; clear hbx
   replace hE := hE.trans hb; replace bO1_0 := BoxAt.ext hb bO1_0; replace bO1_1 := BoxAt.ext hb bO1_1; replace bO1_2 := BoxAt.ext hb bO1_2; replace bO1_3 := BoxAt.ext hb bO1_3; have hs7 := hb.size; clear hb; have lt8 := bO5_0.lt; refine pT (.bool false) ?_; refine pl_nil ?_; refine qw_then ?_; refine cw_seq ?_; refine cw_seq ?_; refine cw_plain ?_; refine pT (.pointer (some ⟨O1, 2, none⟩)) ?_
   refine pU (.bool false) (ex_load rfl (by kernel_rfl) (ld4 (bO1_2.1))) ?_
   refine pT (.pointer (some ⟨O5, 2, none⟩)) ?_
   refine pU (.bool false) (ex_load rfl (by kernel_rfl) (ld4 (bO5_2.1))) ?_
   refine pT (.bool false) ?_; refine pl_nil ?_; refine qw_then ?_
   refine cw_f (by kernel_rfl) ?_
   refine cw_skip ?_
   refine qw_then ?_; refine cw_seq ?_; refine cw_seq ?_; refine cw_plain ?_; refine pT (.pointer (some ⟨O1, 1, none⟩)) ?_
   refine pU (.int .i64 x.t) (ex_load rfl (by kernel_rfl) (ld3 (bO1_1.1))) ?_
   refine pT (.pointer (some ⟨O5, 1, none⟩)) ?_
   refine pU (.int .i64 y.t) (ex_load rfl (by kernel_rfl) (ld3 (bO5_1.1))) ?_
   by_cases hc9 : (x.t : Int) = (y.t : Int)
   ·
    refine pU (.bool false) (ev_nne (show _ = Result.ok (Next.value (Value.bool ((x.t : Int) != (y.t : Int)))) _ from by kernel_rfl) (hc9)) ?_
    refine pl_nil ?_; refine qw_then ?_; refine cC3 2 3 16 (fun L => ?_)
    refine cw_f (by kernel_rfl) ?_
    refine cw_skip ?_
    refine qw_then ?_; refine cw_seq ?_; refine cw_plain ?_; refine pT (.pointer (some ⟨O1, 0, none⟩)) ?_
    refine pU (.int .i64 x.im) (ex_load rfl (by kernel_rfl) (ld3 (bO1_0.1))) ?_
    refine pT (.pointer (some ⟨O5, 0, none⟩)) ?_
    refine pU (.int .i64 y.im) (ex_load rfl (by kernel_rfl) (ld3 (bO5_0.1))) ?_
    by_cases hc10 : (x.im : Int) > (y.im : Int)
    ·
     refine pU (.bool true) (ev_dec (show _ = Result.ok (Next.value (Value.bool (decide ((x.im : Int) > (y.im : Int))))) _ from by kernel_rfl) (hc10)) ?_
     refine pT (.bool true) ?_; refine pl_nil ?_; refine qw_then ?_
     refine cw_ret ?_
     refine qw_ret [.bool true] rfl ⟨(by kernel_rfl), trivial⟩ ?_
     exact ⟨congrArg (fun b => Ending.returned (Value.bool b)) (show Prod.better x y = true by unfold Prod.better Prod.bet; simp [hx, hy, hc9, hc10]).symm, hE⟩
    ·
     refine pU (.bool false) (ev_ndec (show _ = Result.ok (Next.value (Value.bool (decide ((x.im : Int) > (y.im : Int))))) _ from by kernel_rfl) (hc10)) ?_
     refine pT (.bool false) ?_; refine pl_nil ?_; refine qw_then ?_
     refine cw_ret ?_
     refine qw_ret [.bool false] rfl ⟨(by kernel_rfl), trivial⟩ ?_
     exact ⟨congrArg (fun b => Ending.returned (Value.bool b)) (show Prod.better x y = false by unfold Prod.better Prod.bet; simp [hx, hy, hc9, hc10]).symm, hE⟩
   ·
    refine pU (.bool true) (ev_ne (show _ = Result.ok (Next.value (Value.bool ((x.t : Int) != (y.t : Int)))) _ from by kernel_rfl) (hc9)) ?_
    refine pl_nil ?_; refine qw_then ?_; refine cC3 2 3 16 (fun L => ?_)
    refine cw_t (by kernel_rfl) ?_
    refine cw_seq ?_; refine cw_plain ?_; refine pT (.pointer (some ⟨O1, 1, none⟩)) ?_
    refine pU (.int .i64 x.t) (ex_load rfl (by kernel_rfl) (ld3 (bO1_1.1))) ?_
    refine pT (.pointer (some ⟨O5, 1, none⟩)) ?_
    refine pU (.int .i64 y.t) (ex_load rfl (by kernel_rfl) (ld3 (bO5_1.1))) ?_
    by_cases hc11 : (x.t : Int) > (y.t : Int)
    ·
     refine pU (.bool true) (ev_dec (show _ = Result.ok (Next.value (Value.bool (decide ((x.t : Int) > (y.t : Int))))) _ from by kernel_rfl) (hc11)) ?_
     refine pT (.bool true) ?_; refine pl_nil ?_; refine qw_then ?_
     refine cw_ret ?_
     refine qw_then_ret ?_
     refine qw_ret [.bool true] rfl ⟨(by kernel_rfl), trivial⟩ ?_
     exact ⟨congrArg (fun b => Ending.returned (Value.bool b)) (show Prod.better x y = true by unfold Prod.better Prod.bet; simp [hx, hy, hc9, hc11]).symm, hE⟩
    ·
     refine pU (.bool false) (ev_ndec (show _ = Result.ok (Next.value (Value.bool (decide ((x.t : Int) > (y.t : Int))))) _ from by kernel_rfl) (hc11)) ?_
     refine pT (.bool false) ?_; refine pl_nil ?_; refine qw_then ?_
     refine cw_ret ?_
     refine qw_then_ret ?_
     refine qw_ret [.bool false] rfl ⟨(by kernel_rfl), trivial⟩ ?_
     exact ⟨congrArg (fun b => Ending.returned (Value.bool b)) (show Prod.better x y = false by unfold Prod.better Prod.bet; simp [hx, hy, hc9, hc11]).symm, hE⟩
  ·
   refine calls_cw 27 [(1, .agg #[.int .i64 y.im, .int .i64 y.t, .bool true, .slice b m d]), (0, .agg #[.int .i64 x.im, .int .i64 x.t, .bool false, .slice a k c])] Tryd.func15 rfl Tryd.ntmps15 (by kernel_rfl) (by kernel_rfl) (fun L => ?_)
   have hE : Ext w w := Ext.refl w
   refine cw_seq ?_; refine cw_plain ?_
   refine pS (sn_new (us := #[.int .i64 x.im, .int .i64 x.t, .bool false, .slice a k c]) (t := 41) (by kernel_rfl) ?_)
   intro O1 X2 hzO1 hyO1 hb hbx; have ⟨bO1_0, bO1_1, bO1_2, bO1_3⟩ := bx4 hbx; clear hbx
   replace hE := hE.trans hb; have hs3 := hb.size; clear hb; have lt4 := bO1_0.lt
   refine pS (sn_new (us := #[.int .i64 y.im, .int .i64 y.t, .bool true, .slice b m d]) (t := 41) (by kernel_rfl) ?_)
   intro O5 X6 hzO5 hyO5 hb hbx; have ⟨bO5_0, bO5_1, bO5_2, bO5_3⟩ := bx4 hbx; clear hbx
   replace hE := hE.trans hb; replace bO1_0 := BoxAt.ext hb bO1_0; replace bO1_1 := BoxAt.ext hb bO1_1; replace bO1_2 := BoxAt.ext hb bO1_2; replace bO1_3 := BoxAt.ext hb bO1_3; have hs7 := hb.size; clear hb; have lt8 := bO5_0.lt; refine pT (.bool false) ?_; refine pl_nil ?_; refine qw_then ?_; refine cw_seq ?_; refine cw_seq ?_; refine cw_plain ?_; refine pT (.pointer (some ⟨O1, 2, none⟩)) ?_
   refine pU (.bool false) (ex_load rfl (by kernel_rfl) (ld4 (bO1_2.1))) ?_
   refine pT (.pointer (some ⟨O5, 2, none⟩)) ?_
   refine pU (.bool true) (ex_load rfl (by kernel_rfl) (ld4 (bO5_2.1))) ?_
   refine pT (.bool true) ?_; refine pl_nil ?_; refine qw_then ?_
   refine cw_t (by kernel_rfl) ?_
   refine cw_seq ?_; refine cw_plain ?_; refine pT (.pointer (some ⟨O1, 2, none⟩)) ?_
   refine pU (.bool false) (ex_load rfl (by kernel_rfl) (ld4 (bO1_2.1))) ?_
   refine pT (.bool false) ?_; refine pl_nil ?_; refine qw_then ?_
   refine cw_ret ?_
   refine qw_then_ret ?_
   refine qw_ret [.bool false] rfl ⟨(by kernel_rfl), trivial⟩ ?_
   exact ⟨congrArg (fun b => Ending.returned (Value.bool b)) (show Prod.better x y = false by unfold Prod.better Prod.bet; simp [hx, hy]).symm, hE⟩
 ·
  cases hy : y.cl
  ·
   refine calls_cw 27 [(1, .agg #[.int .i64 y.im, .int .i64 y.t, .bool false, .slice b m d]), (0, .agg #[.int .i64 x.im, .int .i64 x.t, .bool true, .slice a k c])] Tryd.func15 rfl Tryd.ntmps15 (by kernel_rfl) (by kernel_rfl) (fun L => ?_)
   have hE : Ext w w := Ext.refl w
   refine cw_seq ?_; refine cw_plain ?_
   refine pS (sn_new (us := #[.int .i64 x.im, .int .i64 x.t, .bool true, .slice a k c]) (t := 41) (by kernel_rfl) ?_)
   intro O1 X2 hzO1 hyO1 hb hbx; have ⟨bO1_0, bO1_1, bO1_2, bO1_3⟩ := bx4 hbx; clear hbx
   replace hE := hE.trans hb; have hs3 := hb.size; clear hb; have lt4 := bO1_0.lt
   refine pS (sn_new (us := #[.int .i64 y.im, .int .i64 y.t, .bool false, .slice b m d]) (t := 41) (by kernel_rfl) ?_)
   intro O5 X6 hzO5 hyO5 hb hbx; have ⟨bO5_0, bO5_1, bO5_2, bO5_3⟩ := bx4 hbx; clear hbx
   replace hE := hE.trans hb; replace bO1_0 := BoxAt.ext hb bO1_0; replace bO1_1 := BoxAt.ext hb bO1_1; replace bO1_2 := BoxAt.ext hb bO1_2; replace bO1_3 := BoxAt.ext hb bO1_3; have hs7 := hb.size; clear hb; have lt8 := bO5_0.lt; refine pT (.bool false) ?_; refine pl_nil ?_; refine qw_then ?_; refine cw_seq ?_; refine cw_seq ?_; refine cw_plain ?_; refine pT (.pointer (some ⟨O1, 2, none⟩)) ?_
   refine pU (.bool true) (ex_load rfl (by kernel_rfl) (ld4 (bO1_2.1))) ?_
   refine pT (.pointer (some ⟨O5, 2, none⟩)) ?_
   refine pU (.bool false) (ex_load rfl (by kernel_rfl) (ld4 (bO5_2.1))) ?_
   refine pT (.bool true) ?_; refine pl_nil ?_; refine qw_then ?_
   refine cw_t (by kernel_rfl) ?_
   refine cw_seq ?_; refine cw_plain ?_; refine pT (.pointer (some ⟨O1, 2, none⟩)) ?_
   refine pU (.bool true) (ex_load rfl (by kernel_rfl) (ld4 (bO1_2.1))) ?_
   refine pT (.bool true) ?_; refine pl_nil ?_; refine qw_then ?_
   refine cw_ret ?_
   refine qw_then_ret ?_
   refine qw_ret [.bool true] rfl ⟨(by kernel_rfl), trivial⟩ ?_
   exact ⟨congrArg (fun b => Ending.returned (Value.bool b)) (show Prod.better x y = true by unfold Prod.better Prod.bet; simp [hx, hy]).symm, hE⟩
  ·
   refine calls_cw 27 [(1, .agg #[.int .i64 y.im, .int .i64 y.t, .bool true, .slice b m d]), (0, .agg #[.int .i64 x.im, .int .i64 x.t, .bool true, .slice a k c])] Tryd.func15 rfl Tryd.ntmps15 (by kernel_rfl) (by kernel_rfl) (fun L => ?_)
   have hE : Ext w w := Ext.refl w
   refine cw_seq ?_; refine cw_plain ?_
   refine pS (sn_new (us := #[.int .i64 x.im, .int .i64 x.t, .bool true, .slice a k c]) (t := 41) (by kernel_rfl) ?_)
   intro O1 X2 hzO1 hyO1 hb hbx; have ⟨bO1_0, bO1_1, bO1_2, bO1_3⟩ := bx4 hbx; clear hbx
   replace hE := hE.trans hb; have hs3 := hb.size; clear hb; have lt4 := bO1_0.lt
   refine pS (sn_new (us := #[.int .i64 y.im, .int .i64 y.t, .bool true, .slice b m d]) (t := 41) (by kernel_rfl) ?_)
   intro O5 X6 hzO5 hyO5 hb hbx; have ⟨bO5_0, bO5_1, bO5_2, bO5_3⟩ := bx4 hbx; clear hbx
   replace hE := hE.trans hb; replace bO1_0 := BoxAt.ext hb bO1_0; replace bO1_1 := BoxAt.ext hb bO1_1; replace bO1_2 := BoxAt.ext hb bO1_2; replace bO1_3 := BoxAt.ext hb bO1_3; have hs7 := hb.size; clear hb; have lt8 := bO5_0.lt; refine pT (.bool false) ?_; refine pl_nil ?_; refine qw_then ?_; refine cw_seq ?_; refine cw_seq ?_; refine cw_plain ?_; refine pT (.pointer (some ⟨O1, 2, none⟩)) ?_
   refine pU (.bool true) (ex_load rfl (by kernel_rfl) (ld4 (bO1_2.1))) ?_
   refine pT (.pointer (some ⟨O5, 2, none⟩)) ?_
   refine pU (.bool true) (ex_load rfl (by kernel_rfl) (ld4 (bO5_2.1))) ?_
   refine pT (.bool false) ?_; refine pl_nil ?_; refine qw_then ?_
   refine cw_f (by kernel_rfl) ?_
   refine cw_skip ?_
   refine qw_then ?_; refine cw_seq ?_; refine cw_seq ?_; refine cw_plain ?_; refine pT (.pointer (some ⟨O1, 1, none⟩)) ?_
   refine pU (.int .i64 x.t) (ex_load rfl (by kernel_rfl) (ld3 (bO1_1.1))) ?_
   refine pT (.pointer (some ⟨O5, 1, none⟩)) ?_
   refine pU (.int .i64 y.t) (ex_load rfl (by kernel_rfl) (ld3 (bO5_1.1))) ?_
   by_cases hc9 : (x.t : Int) = (y.t : Int)
   ·
    refine pU (.bool false) (ev_nne (show _ = Result.ok (Next.value (Value.bool ((x.t : Int) != (y.t : Int)))) _ from by kernel_rfl) (hc9)) ?_
    refine pl_nil ?_; refine qw_then ?_; refine cC3 2 3 16 (fun L => ?_)
    refine cw_f (by kernel_rfl) ?_
    refine cw_skip ?_
    refine qw_then ?_; refine cw_seq ?_; refine cw_plain ?_; refine pT (.pointer (some ⟨O1, 0, none⟩)) ?_
    refine pU (.int .i64 x.im) (ex_load rfl (by kernel_rfl) (ld3 (bO1_0.1))) ?_
    refine pT (.pointer (some ⟨O5, 0, none⟩)) ?_
    refine pU (.int .i64 y.im) (ex_load rfl (by kernel_rfl) (ld3 (bO5_0.1))) ?_
    by_cases hc10 : (x.im : Int) > (y.im : Int)
    ·
     refine pU (.bool true) (ev_dec (show _ = Result.ok (Next.value (Value.bool (decide ((x.im : Int) > (y.im : Int))))) _ from by kernel_rfl) (hc10)) ?_
     refine pT (.bool true) ?_; refine pl_nil ?_; refine qw_then ?_
     refine cw_ret ?_
     refine qw_ret [.bool true] rfl ⟨(by kernel_rfl), trivial⟩ ?_
     exact ⟨congrArg (fun b => Ending.returned (Value.bool b)) (show Prod.better x y = true by unfold Prod.better Prod.bet; simp [hx, hy, hc9, hc10]).symm, hE⟩
    ·
     refine pU (.bool false) (ev_ndec (show _ = Result.ok (Next.value (Value.bool (decide ((x.im : Int) > (y.im : Int))))) _ from by kernel_rfl) (hc10)) ?_
     refine pT (.bool false) ?_; refine pl_nil ?_; refine qw_then ?_
     refine cw_ret ?_
     refine qw_ret [.bool false] rfl ⟨(by kernel_rfl), trivial⟩ ?_
     exact ⟨congrArg (fun b => Ending.returned (Value.bool b)) (show Prod.better x y = false by unfold Prod.better Prod.bet; simp [hx, hy, hc9, hc10]).symm, hE⟩
   ·
    refine pU (.bool true) (ev_ne (show _ = Result.ok (Next.value (Value.bool ((x.t : Int) != (y.t : Int)))) _ from by kernel_rfl) (hc9)) ?_
    refine pl_nil ?_; refine qw_then ?_; refine cC3 2 3 16 (fun L => ?_)
    refine cw_t (by kernel_rfl) ?_
    refine cw_seq ?_; refine cw_plain ?_; refine pT (.pointer (some ⟨O1, 1, none⟩)) ?_
    refine pU (.int .i64 x.t) (ex_load rfl (by kernel_rfl) (ld3 (bO1_1.1))) ?_
    refine pT (.pointer (some ⟨O5, 1, none⟩)) ?_
    refine pU (.int .i64 y.t) (ex_load rfl (by kernel_rfl) (ld3 (bO5_1.1))) ?_
    by_cases hc11 : (x.t : Int) > (y.t : Int)
    ·
     refine pU (.bool true) (ev_dec (show _ = Result.ok (Next.value (Value.bool (decide ((x.t : Int) > (y.t : Int))))) _ from by kernel_rfl) (hc11)) ?_
     refine pT (.bool true) ?_; refine pl_nil ?_; refine qw_then ?_
     refine cw_ret ?_
     refine qw_then_ret ?_
     refine qw_ret [.bool true] rfl ⟨(by kernel_rfl), trivial⟩ ?_
     exact ⟨congrArg (fun b => Ending.returned (Value.bool b)) (show Prod.better x y = true by unfold Prod.better Prod.bet; simp [hx, hy, hc9, hc11]).symm, hE⟩
    ·
     refine pU (.bool false) (ev_ndec (show _ = Result.ok (Next.value (Value.bool (decide ((x.t : Int) > (y.t : Int))))) _ from by kernel_rfl) (hc11)) ?_
     refine pT (.bool false) ?_; refine pl_nil ?_; refine qw_then ?_
     refine cw_ret ?_
     refine qw_then_ret ?_
     refine qw_ret [.bool false] rfl ⟨(by kernel_rfl), trivial⟩ ?_
     exact ⟨congrArg (fun b => Ending.returned (Value.bool b)) (show Prod.better x y = false by unfold Prod.better Prod.bet; simp [hx, hy, hc9, hc11]).symm, hE⟩
theorem rBetter_r {x y : Prod.Pc} {a b : Option Addr} {k c m d : Nat} {r : Bool} (w : World) (hr : Prod.better x y = r) : Calls Tryd.prog 15 #[.agg #[.int .i64 x.im, .int .i64 x.t, .bool x.cl, .slice a k c], .agg #[.int .i64 y.im, .int .i64 y.t, .bool y.cl, .slice b m d]] w fun e w' => e = .returned (.bool r) ∧ Ext w w' := hr ▸ rBetter_c w

end Go.Proofs.YtajdohcgjgknmaaDoor

/- The walk of the law ProductBest. -/
namespace Go.Proofs.YtajdohcgjgknmaaDoor
open Go.RowKit Go.Shelf

set_option maxRecDepth 1000000 in
set_option maxHeartbeats 4000000 in
theorem ProductBest_walk (w : World) (v0 : Value) (o0 : Quads w v0) (v1 : Value) (o1 : Quads w v1) (hT : Tab w) :
  Calls Tryd.prog 3 #[v0, v1] w fun e w' => e = .returned (.bool true) ∧ Ext w w' := by
 obtain ⟨a0, n0, c0, q0, rfl, hnc0, hcm0, hz0, Q0⟩ := o0
 obtain ⟨a1, n1, c1, q1, rfl, hnc1, hcm1, hz1, Q1⟩ := o1
 refine calls_cw 131 [(1, .slice a1 n1 c1), (0, .slice a0 n0 c0)] Tryd.func3 rfl Tryd.ntmps3 (by kernel_rfl) (by kernel_rfl) (fun L => ?_)
 have hE : Ext w w := Ext.refl w
 refine cw_seq ?_; refine cw_plain ?_; refine pT (.bool false) ?_; refine pl_nil ?_; refine qw_then ?_; refine cw_seq ?_; refine cw_seq ?_; refine cw_plain ?_
 refine pS (sn_call (f := 8) (args := #[]) (by kernel_rfl) ((sane_c _ (hT.ext (Ext.refl _))).mono ?_))
 rintro e w1 ⟨rfl, hb⟩
 replace hE := hE.trans hb; have hs2 := hb.size; clear hb
 refine ⟨_, rfl, ?_⟩
 refine pT (.bool false) ?_; refine pl_nil ?_; refine qw_then ?_
 refine cw_f (by kernel_rfl) ?_
 refine cw_skip ?_
 refine qw_then ?_; refine cw_seq ?_; refine cw_plain ?_; refine pT (.slice a0 n0 c0) ?_
 refine pS (sn_call (f := 9) (args := #[.slice a0 n0 c0]) (by kernel_rfl) ((Area_c _ _ Q0 hE (by omega)).mono ?_))
 rintro e w6 ⟨B3, ar, rfl, hn4, hva, hr5, hb⟩
 replace hE := hE.trans hb; have hs7 := hb.size; clear hb
 have hr5v := hr5.va hva
 have lt8 := hr5v.lt
 refine ⟨_, rfl, ?_⟩
 refine pS (sn_new (us := #[.slice none 0 0]) (t := 26) (by kernel_rfl) ?_)
 intro O9 X10 hzO9 hyO9 hb hbx; have bO9_0 := bx1 hbx; clear hbx
 replace hE := hE.trans hb; replace hr5v := hr5v.ext hb; have hs11 := hb.size; clear hb; have lt12 := bO9_0.lt
 refine pP (sn_set (O := O9) (j := 0) (v := .slice (some ⟨B3, 0, none⟩) 24 24) (ex_store (p := .pointer (some ⟨O9, 0, none⟩)) (v := .agg #[.slice (some ⟨B3, 0, none⟩) 24 24]) rfl (by kernel_rfl) (by kernel_rfl) (st26 bO9_0.1 bO9_0.2)) bO9_0 ?_)
 intro X13 ho hv0 hk; replace hE := ho.ext hE (T (T hs2 hs7) (Nat.le_of_eq hzO9)); replace hr5v := ho.va (Nat.ne_of_gt (Nat.lt_of_lt_of_le lt8 (Nat.le_of_eq hzO9))) hr5v; have hs14 : X10.heap.size ≤ X13.heap.size := Nat.le_of_eq ho.size.symm; clear ho hk bO9_0; have bO9_0 := hv0; clear hv0; refine pl_nil ?_; refine qw_then ?_; refine cw_seq ?_; refine cw_plain ?_; refine pT (.slice a1 n1 c1) ?_
 refine pS (sn_call (f := 10) (args := #[.slice a1 n1 c1]) (by kernel_rfl) ((Pieces_c _ Q1 hE (by omega) (by omega)).mono ?_))
 rintro e w15 ⟨a, k, c, ps, rfl, ho, hl, hkc, hg, hb⟩
 replace hE := hE.trans hb; replace hr5v := hr5v.ext hb; replace bO9_0 := BoxAt.ext hb bO9_0; have hs16 := hb.size; clear hb
 have hP := ho.weaken.pcs hl (by have := hg.1; omega)
 have hk8 : k ≤ 8 := by have := hg.1; omega
 have hgl := hg.good
 obtain ⟨rs, hRw, hrd⟩ := id hP
 clear ho; have hX17 : Ext w15 w15 := Ext.refl _
 refine ⟨_, rfl, ?_⟩
 refine pT (.slice a k c) ?_; refine pl_nil ?_; refine qw_then ?_; refine cw_seq ?_; refine cw_plain ?_
 refine pU (.agg #[.slice (some ⟨B3, 0, none⟩) 24 24]) (ex_load rfl (by kernel_rfl) (ld26 (bO9_0.1))) ?_
 refine pT (.slice a k c) ?_
 refine pS (sn_call (f := 11) (args := #[.int .i64 1, .agg #[.slice (some ⟨B3, 0, none⟩) 24 24], .slice a k c]) (by kernel_rfl) (((Build_c (id := 1) (l := ps) _ _ (by omega) (aa_q (hr5v.aa)) (Ext.refl _) hP (Ext.refl _) (hT.ext hE)).mono fun _ _ h => h.eq (Prod.build_ok (by omega) hva (hgl) (by rw [hl]; omega)) rfl rfl).mono ?_))
 rintro e w32 ⟨a18, n19, k20, a21, n22, c23, rfl, hA24, hfr25, hP26, hnc27, hpl28, hb⟩
 replace hE := hE.trans hb; replace hX17 := hX17.trans hb; replace hr5v := hr5v.ext hb; replace bO9_0 := BoxAt.ext hb bO9_0; have hs33 := hb.size; clear hb
 obtain ⟨b29, o30, rfl, rfl, hV31⟩ := va_of hA24 (hva)
 have hfr25l := hfr25 _ rfl
 have lt34 := hV31.lt
 have hP26n : PcsS (fun k => w15.heap.size ≤ k ∧ k < w32.heap.size) w32 a21 n22 (Prod.divide ar ps) := PcsS.both hP26
 refine ⟨_, rfl, ?_⟩
 refine pT (.tuple #[.agg #[.int .i64 1, .int .i64 1, .slice (some ⟨b29, o30, none⟩) 24 k20, .slice a21 n22 c23], .int .i64 0]) ?_; refine pT (.agg #[.int .i64 1, .int .i64 1, .slice (some ⟨b29, o30, none⟩) 24 k20, .slice a21 n22 c23]) ?_; refine pT (.int .i64 0) ?_
 refine pS (sn_new (us := #[.int .i64 0, .int .i64 0, .slice none 0 0, .slice none 0 0]) (t := 31) (by kernel_rfl) ?_)
 intro O35 X36 hzO35 hyO35 hb hbx; have ⟨bO35_0, bO35_1, bO35_2, bO35_3⟩ := bx4 hbx; clear hbx
 replace hE := hE.trans hb; replace hX17 := hX17.trans hb; replace hr5v := hr5v.ext hb; replace bO9_0 := BoxAt.ext hb bO9_0; replace hV31 := hV31.ext hb; replace hP26n := hP26n.ext hb; have hs37 := hb.size; clear hb; have lt38 := bO35_0.lt
 refine pP (sn_setK4 (O := O35) (j := 0) (v0 := .int .i64 1) (v1 := .int .i64 1) (v2 := .slice (some ⟨b29, o30, none⟩) 24 k20) (v3 := .slice a21 n22 c23) (ex_store (p := .pointer (some ⟨O35, 0, none⟩)) (v := .agg #[.int .i64 1, .int .i64 1, .slice (some ⟨b29, o30, none⟩) 24 k20, .slice a21 n22 c23]) rfl (by kernel_rfl) (by kernel_rfl) (st31 bO35_0.1 bO35_0.2 bO35_1.1 bO35_1.2 bO35_2.1 bO35_2.2 bO35_3.1 bO35_3.2)) bO35_0 bO35_1 bO35_2 bO35_3 ?_)
 intro X39 ho hv0 hv1 hv2 hv3 hk; replace hE := ho.ext hE (T (T hs2 (T hs7 (T hs11 (T hs14 (T hs16 hs33))))) (Nat.le_of_eq hzO35)); replace hX17 := ho.ext hX17 (T hs33 (Nat.le_of_eq hzO35)); replace hr5v := ho.va (Nat.ne_of_gt (Nat.lt_of_lt_of_le lt8 (T (T hs11 (T hs14 (T hs16 hs33))) (Nat.le_of_eq hzO35)))) hr5v; replace bO9_0 := ho.box (Nat.ne_of_gt (Nat.lt_of_lt_of_le lt12 (T (T hs14 (T hs16 hs33)) (Nat.le_of_eq hzO35)))) bO9_0; replace hV31 := ho.va (Nat.ne_of_gt (Nat.lt_of_lt_of_le lt34 (Nat.le_of_eq hzO35))) hV31; replace hP26n := hP26n.turn ho (fun h => absurd h.2 (Nat.not_lt_of_le (Nat.le_of_eq hzO35))); have hs40 : X36.heap.size ≤ X39.heap.size := Nat.le_of_eq ho.size.symm; clear ho hk bO35_0 bO35_1 bO35_2 bO35_3; have bO35_0 := hv0; clear hv0; have bO35_1 := hv1; clear hv1; have bO35_2 := hv2; clear hv2; have bO35_3 := hv3; clear hv3; refine pT (.int .i64 0) ?_; refine pl_nil ?_; refine qw_then ?_; refine cC4 5 6 7 8 (fun L => ?_); refine cw_seq ?_; have hX41 : Ext X39 X39 := Ext.refl _; refine cw_plain ?_
 refine pU (.agg #[.int .i64 1, .int .i64 1, .slice (some ⟨b29, o30, none⟩) 24 k20, .slice a21 n22 c23]) (ex_load rfl (by kernel_rfl) (ld31 (bO35_0.1) (bO35_1.1) (bO35_2.1) (bO35_3.1))) ?_
 have hgo := Prod.goodL_ok hgl; have hgd := Prod.goodL_dist hgl
 have hval : Prod.validP 1 1 ar (Prod.divide ar ps) = true := Prod.divide_valid (by omega) (by omega) hva hgo hgd (by omega)
 refine pS (sn_call (f := 12) (args := #[.agg #[.int .i64 1, .int .i64 1, .slice (some ⟨b29, o30, none⟩) 24 k20, .slice a21 n22 c23]]) (by kernel_rfl) ((Missing_v (id := 1) (ver := 1) _ _ (by omega) (aa_q (hV31.aa)) (Ext.refl _) (hP26n.pcs) (Ext.refl _) (hT.ext hE) hval).mono ?_))
 rintro e w46 ⟨B42, o43, k44, rfl, hv45, hb⟩
 replace hE := hE.trans hb; replace hX41 := hX41.trans hb; have hs47 := hb.size; clear hb; have lt48 := hv45.lt
 refine ⟨_, rfl, ?_⟩
 refine pT (.tuple #[.agg #[.slice (some ⟨B42, o43, none⟩) 24 k44], .int .i64 0]) ?_; refine pT (.agg #[.slice (some ⟨B42, o43, none⟩) 24 k44]) ?_; refine pT (.int .i64 0) ?_
 refine pS (sn_new (us := #[.slice none 0 0]) (t := 26) (by kernel_rfl) ?_)
 intro O49 X50 hzO49 hyO49 hb hbx; have bO49_0 := bx1 hbx; clear hbx
 replace hE := hE.trans hb; replace hX41 := hX41.trans hb; replace hv45 := hv45.ext hb; have hs51 := hb.size; clear hb; have lt52 := bO49_0.lt
 refine pP (sn_set (O := O49) (j := 0) (v := .slice (some ⟨B42, o43, none⟩) 24 k44) (ex_store (p := .pointer (some ⟨O49, 0, none⟩)) (v := .agg #[.slice (some ⟨B42, o43, none⟩) 24 k44]) rfl (by kernel_rfl) (by kernel_rfl) (st26 bO49_0.1 bO49_0.2)) bO49_0 ?_)
 intro X53 ho hv0 hk; replace hE := ho.ext hE (T (T hs2 (T hs7 (T hs11 (T hs14 (T hs16 (T hs33 (T hs37 (T hs40 hs47)))))))) (Nat.le_of_eq hzO49)); replace hX41 := ho.ext hX41 (T hs47 (Nat.le_of_eq hzO49)); replace hv45 := ho.va (Nat.ne_of_gt (Nat.lt_of_lt_of_le lt48 (Nat.le_of_eq hzO49))) hv45; have hs54 : X50.heap.size ≤ X53.heap.size := Nat.le_of_eq ho.size.symm; clear ho hk bO49_0; have bO49_0 := hv0; clear hv0; refine pT (.int .i64 0) ?_; refine pl_nil ?_; refine qw_then ?_; refine cw_seq ?_; refine cw_seq ?_; refine cw_plain ?_; refine pT (.int .i64 0) ?_; refine pT (.bool false) ?_; refine pT (.bool false) ?_; refine pT (.int .i64 0) ?_; refine pT (.bool false) ?_; refine pT (.bool false) ?_; refine pl_nil ?_; refine qw_then ?_; refine cC5 5 6 7 9 40 (fun L => ?_)
 refine cw_f (by kernel_rfl) ?_
 refine cw_skip ?_
 refine qw_then ?_; refine cw_seq ?_; refine cw_plain ?_
 refine pU (.agg #[.slice (some ⟨B3, 0, none⟩) 24 24]) (ex_load rfl (by kernel_rfl) (ld26 ((BoxAt.ext hX41 bO9_0).1))) ?_
 refine pS (sn_call (f := 13) (args := #[.agg #[.slice (some ⟨B3, 0, none⟩) 24 24]]) (by kernel_rfl) ((Cells_w _ _ hr5v hX41 (hT.ext hE)).mono ?_))
 rintro e w55 ⟨xc, kc, rfl, hcs, -, hb⟩
 replace hE := hE.trans hb; replace hX41 := hX41.trans hb; replace hv45 := hv45.ext hb; replace bO49_0 := BoxAt.ext hb bO49_0; have hs56 := hb.size; clear hb; have hX57 : Ext w55 w55 := Ext.refl _
 refine ⟨_, rfl, ?_⟩
 refine pT (.slice xc ((Globe.cellsTo ar 24).length) kc) ?_; refine pl_nil ?_; refine qw_then ?_; refine cw_seq ?_; refine cw_plain ?_; refine pT (.int .i64 0) ?_; refine pl_nil ?_; refine qw_then ?_; refine cw_seq ?_; refine cw_seq ?_; refine cw_plain ?_; refine pT (.int .i64 0) ?_; refine pl_nil ?_; refine qw_then ?_
 refine cw_block ?_
 have hnC9 := cells_le9 ar
 refine cw_loop [6, 7, 9, 11, 12, 13] (fun ws' wr m => ∃ i : Nat, ws' = [(6, .slice a k c), (7, .pointer (some ⟨O35, 0, none⟩)), (9, .pointer (some ⟨O49, 0, none⟩)), (11, .slice xc ((Globe.cellsTo ar 24).length) kc), (12, .int .i64 (((Prod.givenN ar (Prod.divide ar ps) i : Nat) : Int) : Int)), (13, .int .i64 (((i : Nat) : Int) : Int))] ∧ m = (Globe.cellsTo ar 24).length - i ∧ w55.heap.size ≤ wr.heap.size ∧ Ext w wr ∧ Ext w55 wr ∧ i ≤ (Globe.cellsTo ar 24).length) (ws0 := [(6, .slice a k c), (7, .pointer (some ⟨O35, 0, none⟩)), (9, .pointer (some ⟨O49, 0, none⟩)), (11, .slice xc ((Globe.cellsTo ar 24).length) kc), (12, .int .i64 0), (13, .int .i64 0)]) (by kernel_rfl) _ ⟨0, rfl, rfl, Nat.le_refl _, hE, hX57, Nat.zero_le _⟩ ?_
 clear hE hX57
 rintro m60 L ws w59 ⟨i, rfl, rfl, hs58, hE, hX57, hi⟩
 have hgn9 := Prod.givenN_le ar (Prod.divide ar ps) i
 by_cases hlt : i < (Globe.cellsTo ar 24).length
 ·
  obtain ⟨cc, hcc⟩ : ∃ cc, (Globe.cellsTo ar 24)[i]? = some cc := ⟨_, List.getElem?_eq_getElem hlt⟩
  obtain ⟨hv9, hu9, hr9⟩ := Globe.mem_cells.1 (List.mem_of_getElem? hcc)
  obtain ⟨bc, rfl, hce⟩ := CellsAt.parts hcs (by omega)
  obtain ⟨d0, d1⟩ := hce i cc hcc
  have hbcl : bc < w55.heap.size := World.block_lt_of_cell? _ _ d0
  refine cw_seq ?_; refine cw_seq ?_; refine cw_plain ?_; refine pT (.int .i64 (((i : Nat) : Int) : Int)) ?_; refine pT (.slice (some ⟨bc, 0, none⟩) ((Globe.cellsTo ar 24).length) kc) ?_; refine pT (.int .i64 ((((Globe.cellsTo ar 24).length : Nat) : Int) : Int)) ?_
  refine pU (.bool true) (ev_dec (show _ = Result.ok (Next.value (Value.bool (decide ((((i : Nat) : Int) : Int) < ((((Globe.cellsTo ar 24).length : Nat) : Int) : Int))))) _ from by kernel_rfl) (by omega)) ?_
  refine pl_nil ?_; refine qw_then ?_
  refine cw_t (by kernel_rfl) ?_
  refine cw_skip ?_
  refine qw_then ?_; refine cw_seq ?_
  refine cw_block ?_
  refine cw_seq ?_; refine cw_plain ?_; refine pT (.int .i64 (-1 : Int)) ?_; refine pl_nil ?_; refine qw_then ?_; refine cw_seq ?_; refine cw_seq ?_; refine cw_plain ?_; refine pT (.int .i64 0) ?_; refine pl_nil ?_; refine qw_then ?_
  refine cw_block ?_
  have hX61 : Ext w59 w59 := Ext.refl _
  refine cw_loop [6, 7, 9, 11, 12, 13, 14, 15] (fun ws' wr m => ∃ t9 : Nat, ∃ bst : Int, ws' = [(6, .slice a k c), (7, .pointer (some ⟨O35, 0, none⟩)), (9, .pointer (some ⟨O49, 0, none⟩)), (11, .slice (some ⟨bc, 0, none⟩) ((Globe.cellsTo ar 24).length) kc), (12, .int .i64 (((Prod.givenN ar (Prod.divide ar ps) i : Nat) : Int) : Int)), (13, .int .i64 (((i : Nat) : Int) : Int)), (14, .int .i64 bst), (15, .int .i64 (((t9 : Nat) : Int) : Int))] ∧ m = k - t9 ∧ w59.heap.size ≤ wr.heap.size ∧ Ext w wr ∧ Ext w59 wr ∧ t9 ≤ k ∧ Prod.BestI ps cc.1 cc.2 t9 bst) (ws0 := [(6, .slice a k c), (7, .pointer (some ⟨O35, 0, none⟩)), (9, .pointer (some ⟨O49, 0, none⟩)), (11, .slice (some ⟨bc, 0, none⟩) ((Globe.cellsTo ar 24).length) kc), (12, .int .i64 (((Prod.givenN ar (Prod.divide ar ps) i : Nat) : Int) : Int)), (13, .int .i64 (((i : Nat) : Int) : Int)), (14, .int .i64 (-1 : Int)), (15, .int .i64 0)]) (by kernel_rfl) _ ⟨0, (-1), rfl, rfl, Nat.le_refl _, hE, hX61, Nat.zero_le _, Prod.BestI.zero _ _ _⟩ ?_
  clear hE hX61
  rintro m64 L ws w63 ⟨t9, bst, rfl, rfl, hs62, hE, hX61, ht9, hB⟩
  by_cases hlt : t9 < k
  ·
   obtain ⟨b65, o66, x, ar67, k68, c69, rfl, hx70, hp71, hp72, hp73, hp74, hA75⟩ := hP.at hlt
   refine cw_seq ?_; refine cw_seq ?_; refine cw_plain ?_; refine pT (.int .i64 (((t9 : Nat) : Int) : Int)) ?_; refine pT (.slice (some ⟨b65, o66, none⟩) k c) ?_; refine pT (.int .i64 (((k : Nat) : Int) : Int)) ?_
   refine pU (.bool true) (ev_dec (show _ = Result.ok (Next.value (Value.bool (decide ((((t9 : Nat) : Int) : Int) < (((k : Nat) : Int) : Int))))) _ from by kernel_rfl) (by omega)) ?_
   refine pl_nil ?_; refine qw_then ?_
   refine cw_t (by kernel_rfl) ?_
   refine cw_skip ?_
   refine qw_then ?_; refine cw_seq ?_
   refine cw_block ?_
   refine cw_seq ?_
   rcases hB with ⟨rfl, hno⟩ | ⟨j, p, rfl, hj, hpj, hph, hpb⟩
   ·
    cases hh : Globe.hasL x.rw cc.1 cc.2
    ·
     have hY76 := hX41.trans hX57
     have hY77 := hX17.trans hY76
     refine cw_draw [(some 55, [6], []), (some 56, [15], []), (some 57, [55, 56], [0, 1]), (some 58, [57], [2]), (some 59, [58], [3]), (some 60, [11], []), (some 61, [13], []), (some 62, [60, 61], [5, 6]), (some 63, [62], [7]), (some 64, [59, 63], [4, 8]), (some 65, [64], [9, 9]), (some 66, [14, 65], [10]), (some 67, [66, 65], [11, 10]), (some 68, [67, 65], [12, 10, 10]), (some 69, [6, 68], [13]), (some 70, [15, 68], [13]), (some 71, [69, 70, 68], [14, 15, 13]), (some 72, [71, 68], [16, 13]), (some 73, [6, 68], [13]), (some 74, [14, 68], [13]), (some 75, [74, 68], [19, 13]), (some 76, [73, 75, 68], [18, 20, 13]), (some 77, [76, 68], [21, 13]), (some 78, [72, 77, 68], [17, 22, 13, 13]), (some 79, [68, 78, 65], [13, 23, 10]), (some 80, [65, 79], [10, 24])] (fun w' => w'.cell? ⟨b65, o66 + t9 * 4 + 3, none⟩ = some (.slice ar67 k68 c69) ∧ w'.cell? ⟨bc, i * 2, none⟩ = some (.int .i64 (((cc.1 : Nat) : Int) : Int)) ∧ w'.cell? ⟨bc, i * 2 + 1, none⟩ = some (.int .i64 (((cc.2 : Nat) : Int) : Int))) (by kernel_rfl) (by kernel_rfl) (by kernel_rfl) (by kernel_rfl) ((calm_then (calm_block (calm_then (calm_then (calm_block (calm_then (calm_block (calm_then (calm_then (calm_block (calm_then calm_body)))))))))))) (⟨((hY77.trans hX61).cell hp74), ((hX57.trans hX61).cell d0), ((hX57.trans hX61).cell d1)⟩) (fun ops Q X78 hb hL hR hK => ?_)
     replace hE := hE.trans hb; replace hX61 := hX61.trans hb; have hs79 := hb.size; clear hb
     have hS80 := And.intro ((hY77.trans hX61).cell hp74) (And.intro ((hX57.trans hX61).cell d0) (((hX57.trans hX61).cell d1)))
     refine wT 0 (.slice (some ⟨b65, o66, none⟩) k c) hR (fun w _ => by kernel_rfl) (hS80) ?_
     refine wT 1 (.int .i64 (((t9 : Nat) : Int) : Int)) hR (fun w _ => by kernel_rfl) (hS80) ?_
     refine wT 2 (.pointer (some ⟨b65, o66 + t9 * 4, none⟩)) hR (fun w _ => ex_index (p := .slice (some ⟨b65, o66, none⟩) k c) (i := .int .i64 ((t9 : Nat) : Int)) rfl (by kernel_rfl) (by kernel_rfl) (ix28 (k := t9) (by omega))) (hS80) ?_
     refine wT 3 (.pointer (some ⟨b65, o66 + t9 * 4 + 3, none⟩)) hR (fun w _ => by kernel_rfl) (hS80) ?_
     refine wT 4 (.agg #[.slice ar67 k68 c69]) hR (fun w hS => ex_load rfl (by kernel_rfl) (ld26 (hS.1))) (hS80) ?_
     refine wT 5 (.slice (some ⟨bc, 0, none⟩) ((Globe.cellsTo ar 24).length) kc) hR (fun w _ => by kernel_rfl) (hS80) ?_
     refine wT 6 (.int .i64 (((i : Nat) : Int) : Int)) hR (fun w _ => by kernel_rfl) (hS80) ?_
     refine wT 7 (.pointer (some ⟨bc, i * 2, none⟩)) hR (fun w _ => ex_index (p := .slice (some ⟨bc, 0, none⟩) ((Globe.cellsTo ar 24).length) kc) (i := .int .i64 ((i : Nat) : Int)) rfl (by kernel_rfl) (by kernel_rfl) (ix37z (k := i) (by omega))) (hS80) ?_
     refine wT 8 (.agg #[.int .i64 (((cc.1 : Nat) : Int) : Int), .int .i64 (((cc.2 : Nat) : Int) : Int)]) hR (fun w hS => ex_load rfl (by kernel_rfl) (ld43 (hS.2.1) (hS.2.2))) (hS80) ?_
     refine wS 9 hR (sn_call (f := 14) (args := #[.agg #[.slice ar67 k68 c69], .agg #[.int .i64 (((cc.1 : Nat) : Int) : Int), .int .i64 (((cc.2 : Nat) : Int) : Int)]]) (by kernel_rfl) ((Has_q (r := false) _ _ (hA75) (hY77.trans hX61) (by rw [hasB_nat (Prod.okP_v (hgo x (List.mem_of_getElem? hx70))) hu9 hv9]; exact hh)).mono ?_))
     rintro e w81 ⟨rfl, hb⟩
     replace hE := hE.trans hb; replace hX61 := hX61.trans hb; have hs82 := hb.size; clear hb
     have hS83 := And.intro ((hY77.trans hX61).cell hp74) (And.intro ((hX57.trans hX61).cell d0) (((hX57.trans hX61).cell d1)))
     refine ⟨_, rfl, hS83, ?_⟩
     refine wT 10 (.bool false) hR (fun w _ => by kernel_rfl) (hS83) ?_
     refine wd_skip 11 hR rfl (by kernel_rfl) rfl (by kernel_rfl) (hS83) ?_
     refine wd_skip 12 hR rfl (by kernel_rfl) rfl (by kernel_rfl) (hS83) ?_
     refine wd_skip 13 hR rfl (by kernel_rfl) rfl (by kernel_rfl) (hS83) ?_
     refine wd_skip 14 hR rfl (by kernel_rfl) rfl (by kernel_rfl) (hS83) ?_
     refine wd_skip 15 hR rfl (by kernel_rfl) rfl (by kernel_rfl) (hS83) ?_
     refine wd_skip 16 hR rfl (by kernel_rfl) rfl (by kernel_rfl) (hS83) ?_
     refine wd_skip 17 hR rfl (by kernel_rfl) rfl (by kernel_rfl) (hS83) ?_
     refine wd_skip 18 hR rfl (by kernel_rfl) rfl (by kernel_rfl) (hS83) ?_
     refine wd_skip 19 hR rfl (by kernel_rfl) rfl (by kernel_rfl) (hS83) ?_
     refine wd_skip 20 hR rfl (by kernel_rfl) rfl (by kernel_rfl) (hS83) ?_
     refine wd_skip 21 hR rfl (by kernel_rfl) rfl (by kernel_rfl) (hS83) ?_
     refine wd_skip 22 hR rfl (by kernel_rfl) rfl (by kernel_rfl) (hS83) ?_
     refine wd_skip 23 hR rfl (by kernel_rfl) rfl (by kernel_rfl) (hS83) ?_
     refine wd_skip 24 hR rfl (by kernel_rfl) rfl (by kernel_rfl) (hS83) ?_
     refine wT 25 (.bool false) hR (fun w _ => by kernel_rfl) (hS83) ?_
     refine wd_end hL hR hK (by kernel_rfl) ?_
     refine qw_then ?_; refine cC9 6 7 9 11 12 13 14 15 80 (fun L => ?_)
     refine cw_f (by kernel_rfl) ?_
     refine cw_skip ?_
     refine qw_block ?_
     refine qw_then ?_; refine cw_plain ?_; refine pT (.int .i64 (((t9 : Nat) : Int) : Int)) ?_
     refine pU (.int .i64 (((t9 + 1 : Nat) : Int) : Int)) (ev_wrap (by kernel_rfl) (by omega) (by omega)) ?_
     refine pT (.int .i64 (((t9 + 1 : Nat) : Int) : Int)) ?_; refine pl_nil ?_
     refine qw_round [6, 7, 9, 11, 12, 13, 14, 15] (ws' := [(6, .slice (some ⟨b65, o66, none⟩) k c), (7, .pointer (some ⟨O35, 0, none⟩)), (9, .pointer (some ⟨O49, 0, none⟩)), (11, .slice (some ⟨bc, 0, none⟩) ((Globe.cellsTo ar 24).length) kc), (12, .int .i64 (((Prod.givenN ar (Prod.divide ar ps) i : Nat) : Int) : Int)), (13, .int .i64 (((i : Nat) : Int) : Int)), (14, .int .i64 (-1 : Int)), (15, .int .i64 (((t9 + 1 : Nat) : Int) : Int))]) (by kernel_rfl) _ ?_ ⟨(t9 + 1), (-1), rfl, rfl, (T hs62 (T hs79 hs82)), hE, hX61, by omega, (Prod.BestI.skip (.inl ⟨rfl, hno⟩) hx70 hh)⟩
     omega
    ·
     have hY84 := hX41.trans hX57
     have hY85 := hX17.trans hY84
     refine cw_draw [(some 55, [6], []), (some 56, [15], []), (some 57, [55, 56], [0, 1]), (some 58, [57], [2]), (some 59, [58], [3]), (some 60, [11], []), (some 61, [13], []), (some 62, [60, 61], [5, 6]), (some 63, [62], [7]), (some 64, [59, 63], [4, 8]), (some 65, [64], [9, 9]), (some 66, [14, 65], [10]), (some 67, [66, 65], [11, 10]), (some 68, [67, 65], [12, 10, 10]), (some 69, [6, 68], [13]), (some 70, [15, 68], [13]), (some 71, [69, 70, 68], [14, 15, 13]), (some 72, [71, 68], [16, 13]), (some 73, [6, 68], [13]), (some 74, [14, 68], [13]), (some 75, [74, 68], [19, 13]), (some 76, [73, 75, 68], [18, 20, 13]), (some 77, [76, 68], [21, 13]), (some 78, [72, 77, 68], [17, 22, 13, 13]), (some 79, [68, 78, 65], [13, 23, 10]), (some 80, [65, 79], [10, 24])] (fun w' => w'.cell? ⟨b65, o66 + t9 * 4 + 3, none⟩ = some (.slice ar67 k68 c69) ∧ w'.cell? ⟨bc, i * 2, none⟩ = some (.int .i64 (((cc.1 : Nat) : Int) : Int)) ∧ w'.cell? ⟨bc, i * 2 + 1, none⟩ = some (.int .i64 (((cc.2 : Nat) : Int) : Int))) (by kernel_rfl) (by kernel_rfl) (by kernel_rfl) (by kernel_rfl) ((calm_then (calm_block (calm_then (calm_then (calm_block (calm_then (calm_block (calm_then (calm_then (calm_block (calm_then calm_body)))))))))))) (⟨((hY85.trans hX61).cell hp74), ((hX57.trans hX61).cell d0), ((hX57.trans hX61).cell d1)⟩) (fun ops Q X86 hb hL hR hK => ?_)
     replace hE := hE.trans hb; replace hX61 := hX61.trans hb; have hs87 := hb.size; clear hb
     have hS88 := And.intro ((hY85.trans hX61).cell hp74) (And.intro ((hX57.trans hX61).cell d0) (((hX57.trans hX61).cell d1)))
     refine wT 0 (.slice (some ⟨b65, o66, none⟩) k c) hR (fun w _ => by kernel_rfl) (hS88) ?_
     refine wT 1 (.int .i64 (((t9 : Nat) : Int) : Int)) hR (fun w _ => by kernel_rfl) (hS88) ?_
     refine wT 2 (.pointer (some ⟨b65, o66 + t9 * 4, none⟩)) hR (fun w _ => ex_index (p := .slice (some ⟨b65, o66, none⟩) k c) (i := .int .i64 ((t9 : Nat) : Int)) rfl (by kernel_rfl) (by kernel_rfl) (ix28 (k := t9) (by omega))) (hS88) ?_
     refine wT 3 (.pointer (some ⟨b65, o66 + t9 * 4 + 3, none⟩)) hR (fun w _ => by kernel_rfl) (hS88) ?_
     refine wT 4 (.agg #[.slice ar67 k68 c69]) hR (fun w hS => ex_load rfl (by kernel_rfl) (ld26 (hS.1))) (hS88) ?_
     refine wT 5 (.slice (some ⟨bc, 0, none⟩) ((Globe.cellsTo ar 24).length) kc) hR (fun w _ => by kernel_rfl) (hS88) ?_
     refine wT 6 (.int .i64 (((i : Nat) : Int) : Int)) hR (fun w _ => by kernel_rfl) (hS88) ?_
     refine wT 7 (.pointer (some ⟨bc, i * 2, none⟩)) hR (fun w _ => ex_index (p := .slice (some ⟨bc, 0, none⟩) ((Globe.cellsTo ar 24).length) kc) (i := .int .i64 ((i : Nat) : Int)) rfl (by kernel_rfl) (by kernel_rfl) (ix37z (k := i) (by omega))) (hS88) ?_
     refine wT 8 (.agg #[.int .i64 (((cc.1 : Nat) : Int) : Int), .int .i64 (((cc.2 : Nat) : Int) : Int)]) hR (fun w hS => ex_load rfl (by kernel_rfl) (ld43 (hS.2.1) (hS.2.2))) (hS88) ?_
     refine wS 9 hR (sn_call (f := 14) (args := #[.agg #[.slice ar67 k68 c69], .agg #[.int .i64 (((cc.1 : Nat) : Int) : Int), .int .i64 (((cc.2 : Nat) : Int) : Int)]]) (by kernel_rfl) ((Has_q (r := true) _ _ (hA75) (hY85.trans hX61) (by rw [hasB_nat (Prod.okP_v (hgo x (List.mem_of_getElem? hx70))) hu9 hv9]; exact hh)).mono ?_))
     rintro e w89 ⟨rfl, hb⟩
     replace hE := hE.trans hb; replace hX61 := hX61.trans hb; have hs90 := hb.size; clear hb
     have hS91 := And.intro ((hY85.trans hX61).cell hp74) (And.intro ((hX57.trans hX61).cell d0) (((hX57.trans hX61).cell d1)))
     refine ⟨_, rfl, hS91, ?_⟩
     refine wT 10 (.bool true) hR (fun w _ => by kernel_rfl) (hS91) ?_
     refine wT 11 (.int .i64 (-1 : Int)) hR (fun w _ => by kernel_rfl) (hS91) ?_
     refine wT 12 (.bool true) hR (fun w _ => by kernel_rfl) (hS91) ?_
     refine wT 13 (.bool true) hR (fun w _ => by kernel_rfl) (hS91) ?_
     refine wd_skip 14 hR rfl (by kernel_rfl) rfl (by kernel_rfl) (hS91) ?_
     refine wd_skip 15 hR rfl (by kernel_rfl) rfl (by kernel_rfl) (hS91) ?_
     refine wd_skip 16 hR rfl (by kernel_rfl) rfl (by kernel_rfl) (hS91) ?_
     refine wd_skip 17 hR rfl (by kernel_rfl) rfl (by kernel_rfl) (hS91) ?_
     refine wd_skip 18 hR rfl (by kernel_rfl) rfl (by kernel_rfl) (hS91) ?_
     refine wd_skip 19 hR rfl (by kernel_rfl) rfl (by kernel_rfl) (hS91) ?_
     refine wd_skip 20 hR rfl (by kernel_rfl) rfl (by kernel_rfl) (hS91) ?_
     refine wd_skip 21 hR rfl (by kernel_rfl) rfl (by kernel_rfl) (hS91) ?_
     refine wd_skip 22 hR rfl (by kernel_rfl) rfl (by kernel_rfl) (hS91) ?_
     refine wd_skip 23 hR rfl (by kernel_rfl) rfl (by kernel_rfl) (hS91) ?_
     refine wT 24 (.bool true) hR (fun w _ => by kernel_rfl) (hS91) ?_
     refine wT 25 (.bool true) hR (fun w _ => by kernel_rfl) (hS91) ?_
     refine wd_end hL hR hK (by kernel_rfl) ?_
     refine qw_then ?_; refine cC9 6 7 9 11 12 13 14 15 80 (fun L => ?_)
     refine cw_t (by kernel_rfl) ?_
     refine cw_plain ?_; refine pT (.int .i64 (((t9 : Nat) : Int) : Int)) ?_; refine pT (.int .i64 (((t9 : Nat) : Int) : Int)) ?_; refine pl_nil ?_
     refine qw_block ?_
     refine qw_then ?_; refine cw_plain ?_; refine pT (.int .i64 (((t9 : Nat) : Int) : Int)) ?_
     refine pU (.int .i64 (((t9 + 1 : Nat) : Int) : Int)) (ev_wrap (by kernel_rfl) (by omega) (by omega)) ?_
     refine pT (.int .i64 (((t9 + 1 : Nat) : Int) : Int)) ?_; refine pl_nil ?_
     refine qw_round [6, 7, 9, 11, 12, 13, 14, 15] (ws' := [(6, .slice (some ⟨b65, o66, none⟩) k c), (7, .pointer (some ⟨O35, 0, none⟩)), (9, .pointer (some ⟨O49, 0, none⟩)), (11, .slice (some ⟨bc, 0, none⟩) ((Globe.cellsTo ar 24).length) kc), (12, .int .i64 (((Prod.givenN ar (Prod.divide ar ps) i : Nat) : Int) : Int)), (13, .int .i64 (((i : Nat) : Int) : Int)), (14, .int .i64 (((t9 : Nat) : Int) : Int)), (15, .int .i64 (((t9 + 1 : Nat) : Int) : Int))]) (by kernel_rfl) _ ?_ ⟨(t9 + 1), (((t9 : Nat) : Int)), rfl, rfl, (T hs62 (T hs87 hs90)), hE, hX61, by omega, (Prod.BestI.first hno hx70 hh)⟩
     omega
   ·
    cases hh : Globe.hasL x.rw cc.1 cc.2
    ·
     have hY92 := hX41.trans hX57
     have hY93 := hX17.trans hY92
     refine cw_draw [(some 55, [6], []), (some 56, [15], []), (some 57, [55, 56], [0, 1]), (some 58, [57], [2]), (some 59, [58], [3]), (some 60, [11], []), (some 61, [13], []), (some 62, [60, 61], [5, 6]), (some 63, [62], [7]), (some 64, [59, 63], [4, 8]), (some 65, [64], [9, 9]), (some 66, [14, 65], [10]), (some 67, [66, 65], [11, 10]), (some 68, [67, 65], [12, 10, 10]), (some 69, [6, 68], [13]), (some 70, [15, 68], [13]), (some 71, [69, 70, 68], [14, 15, 13]), (some 72, [71, 68], [16, 13]), (some 73, [6, 68], [13]), (some 74, [14, 68], [13]), (some 75, [74, 68], [19, 13]), (some 76, [73, 75, 68], [18, 20, 13]), (some 77, [76, 68], [21, 13]), (some 78, [72, 77, 68], [17, 22, 13, 13]), (some 79, [68, 78, 65], [13, 23, 10]), (some 80, [65, 79], [10, 24])] (fun w' => w'.cell? ⟨b65, o66 + t9 * 4 + 3, none⟩ = some (.slice ar67 k68 c69) ∧ w'.cell? ⟨bc, i * 2, none⟩ = some (.int .i64 (((cc.1 : Nat) : Int) : Int)) ∧ w'.cell? ⟨bc, i * 2 + 1, none⟩ = some (.int .i64 (((cc.2 : Nat) : Int) : Int))) (by kernel_rfl) (by kernel_rfl) (by kernel_rfl) (by kernel_rfl) ((calm_then (calm_block (calm_then (calm_then (calm_block (calm_then (calm_block (calm_then (calm_then (calm_block (calm_then calm_body)))))))))))) (⟨((hY93.trans hX61).cell hp74), ((hX57.trans hX61).cell d0), ((hX57.trans hX61).cell d1)⟩) (fun ops Q X94 hb hL hR hK => ?_)
     replace hE := hE.trans hb; replace hX61 := hX61.trans hb; have hs95 := hb.size; clear hb
     have hS96 := And.intro ((hY93.trans hX61).cell hp74) (And.intro ((hX57.trans hX61).cell d0) (((hX57.trans hX61).cell d1)))
     refine wT 0 (.slice (some ⟨b65, o66, none⟩) k c) hR (fun w _ => by kernel_rfl) (hS96) ?_
     refine wT 1 (.int .i64 (((t9 : Nat) : Int) : Int)) hR (fun w _ => by kernel_rfl) (hS96) ?_
     refine wT 2 (.pointer (some ⟨b65, o66 + t9 * 4, none⟩)) hR (fun w _ => ex_index (p := .slice (some ⟨b65, o66, none⟩) k c) (i := .int .i64 ((t9 : Nat) : Int)) rfl (by kernel_rfl) (by kernel_rfl) (ix28 (k := t9) (by omega))) (hS96) ?_
     refine wT 3 (.pointer (some ⟨b65, o66 + t9 * 4 + 3, none⟩)) hR (fun w _ => by kernel_rfl) (hS96) ?_
     refine wT 4 (.agg #[.slice ar67 k68 c69]) hR (fun w hS => ex_load rfl (by kernel_rfl) (ld26 (hS.1))) (hS96) ?_
     refine wT 5 (.slice (some ⟨bc, 0, none⟩) ((Globe.cellsTo ar 24).length) kc) hR (fun w _ => by kernel_rfl) (hS96) ?_
     refine wT 6 (.int .i64 (((i : Nat) : Int) : Int)) hR (fun w _ => by kernel_rfl) (hS96) ?_
     refine wT 7 (.pointer (some ⟨bc, i * 2, none⟩)) hR (fun w _ => ex_index (p := .slice (some ⟨bc, 0, none⟩) ((Globe.cellsTo ar 24).length) kc) (i := .int .i64 ((i : Nat) : Int)) rfl (by kernel_rfl) (by kernel_rfl) (ix37z (k := i) (by omega))) (hS96) ?_
     refine wT 8 (.agg #[.int .i64 (((cc.1 : Nat) : Int) : Int), .int .i64 (((cc.2 : Nat) : Int) : Int)]) hR (fun w hS => ex_load rfl (by kernel_rfl) (ld43 (hS.2.1) (hS.2.2))) (hS96) ?_
     refine wS 9 hR (sn_call (f := 14) (args := #[.agg #[.slice ar67 k68 c69], .agg #[.int .i64 (((cc.1 : Nat) : Int) : Int), .int .i64 (((cc.2 : Nat) : Int) : Int)]]) (by kernel_rfl) ((Has_q (r := false) _ _ (hA75) (hY93.trans hX61) (by rw [hasB_nat (Prod.okP_v (hgo x (List.mem_of_getElem? hx70))) hu9 hv9]; exact hh)).mono ?_))
     rintro e w97 ⟨rfl, hb⟩
     replace hE := hE.trans hb; replace hX61 := hX61.trans hb; have hs98 := hb.size; clear hb
     have hS99 := And.intro ((hY93.trans hX61).cell hp74) (And.intro ((hX57.trans hX61).cell d0) (((hX57.trans hX61).cell d1)))
     refine ⟨_, rfl, hS99, ?_⟩
     refine wT 10 (.bool false) hR (fun w _ => by kernel_rfl) (hS99) ?_
     refine wd_skip 11 hR rfl (by kernel_rfl) rfl (by kernel_rfl) (hS99) ?_
     refine wd_skip 12 hR rfl (by kernel_rfl) rfl (by kernel_rfl) (hS99) ?_
     refine wd_skip 13 hR rfl (by kernel_rfl) rfl (by kernel_rfl) (hS99) ?_
     refine wd_skip 14 hR rfl (by kernel_rfl) rfl (by kernel_rfl) (hS99) ?_
     refine wd_skip 15 hR rfl (by kernel_rfl) rfl (by kernel_rfl) (hS99) ?_
     refine wd_skip 16 hR rfl (by kernel_rfl) rfl (by kernel_rfl) (hS99) ?_
     refine wd_skip 17 hR rfl (by kernel_rfl) rfl (by kernel_rfl) (hS99) ?_
     refine wd_skip 18 hR rfl (by kernel_rfl) rfl (by kernel_rfl) (hS99) ?_
     refine wd_skip 19 hR rfl (by kernel_rfl) rfl (by kernel_rfl) (hS99) ?_
     refine wd_skip 20 hR rfl (by kernel_rfl) rfl (by kernel_rfl) (hS99) ?_
     refine wd_skip 21 hR rfl (by kernel_rfl) rfl (by kernel_rfl) (hS99) ?_
     refine wd_skip 22 hR rfl (by kernel_rfl) rfl (by kernel_rfl) (hS99) ?_
     refine wd_skip 23 hR rfl (by kernel_rfl) rfl (by kernel_rfl) (hS99) ?_
     refine wd_skip 24 hR rfl (by kernel_rfl) rfl (by kernel_rfl) (hS99) ?_
     refine wT 25 (.bool false) hR (fun w _ => by kernel_rfl) (hS99) ?_
     refine wd_end hL hR hK (by kernel_rfl) ?_
     refine qw_then ?_; refine cC9 6 7 9 11 12 13 14 15 80 (fun L => ?_)
     refine cw_f (by kernel_rfl) ?_
     refine cw_skip ?_
     refine qw_block ?_
     refine qw_then ?_; refine cw_plain ?_; refine pT (.int .i64 (((t9 : Nat) : Int) : Int)) ?_
     refine pU (.int .i64 (((t9 + 1 : Nat) : Int) : Int)) (ev_wrap (by kernel_rfl) (by omega) (by omega)) ?_
     refine pT (.int .i64 (((t9 + 1 : Nat) : Int) : Int)) ?_; refine pl_nil ?_
     refine qw_round [6, 7, 9, 11, 12, 13, 14, 15] (ws' := [(6, .slice (some ⟨b65, o66, none⟩) k c), (7, .pointer (some ⟨O35, 0, none⟩)), (9, .pointer (some ⟨O49, 0, none⟩)), (11, .slice (some ⟨bc, 0, none⟩) ((Globe.cellsTo ar 24).length) kc), (12, .int .i64 (((Prod.givenN ar (Prod.divide ar ps) i : Nat) : Int) : Int)), (13, .int .i64 (((i : Nat) : Int) : Int)), (14, .int .i64 (((j : Nat) : Int) : Int)), (15, .int .i64 (((t9 + 1 : Nat) : Int) : Int))]) (by kernel_rfl) _ ?_ ⟨(t9 + 1), (((j : Nat) : Int)), rfl, rfl, (T hs62 (T hs95 hs98)), hE, hX61, by omega, (Prod.BestI.skip (.inr ⟨j, p, rfl, hj, hpj, hph, hpb⟩) hx70 hh)⟩
     omega
    ·
     obtain ⟨arj, kj, cj, y0, y1, y2, y3, hyA⟩ := PcsAt.at2 hP hpj
     have hjk : j < k := by omega
     cases hbt : Prod.better x p
     ·
      have hY100 := hX41.trans hX57
      have hY101 := hX17.trans hY100
      refine cw_draw [(some 55, [6], []), (some 56, [15], []), (some 57, [55, 56], [0, 1]), (some 58, [57], [2]), (some 59, [58], [3]), (some 60, [11], []), (some 61, [13], []), (some 62, [60, 61], [5, 6]), (some 63, [62], [7]), (some 64, [59, 63], [4, 8]), (some 65, [64], [9, 9]), (some 66, [14, 65], [10]), (some 67, [66, 65], [11, 10]), (some 68, [67, 65], [12, 10, 10]), (some 69, [6, 68], [13]), (some 70, [15, 68], [13]), (some 71, [69, 70, 68], [14, 15, 13]), (some 72, [71, 68], [16, 13]), (some 73, [6, 68], [13]), (some 74, [14, 68], [13]), (some 75, [74, 68], [19, 13]), (some 76, [73, 75, 68], [18, 20, 13]), (some 77, [76, 68], [21, 13]), (some 78, [72, 77, 68], [17, 22, 13, 13]), (some 79, [68, 78, 65], [13, 23, 10]), (some 80, [65, 79], [10, 24])] (fun w' => w'.cell? ⟨b65, o66 + t9 * 4 + 3, none⟩ = some (.slice ar67 k68 c69) ∧ w'.cell? ⟨bc, i * 2, none⟩ = some (.int .i64 (((cc.1 : Nat) : Int) : Int)) ∧ w'.cell? ⟨bc, i * 2 + 1, none⟩ = some (.int .i64 (((cc.2 : Nat) : Int) : Int)) ∧ w'.cell? ⟨b65, o66 + t9 * 4, none⟩ = some (.int .i64 x.im) ∧ w'.cell? ⟨b65, o66 + t9 * 4 + 1, none⟩ = some (.int .i64 x.t) ∧ w'.cell? ⟨b65, o66 + t9 * 4 + 2, none⟩ = some (.bool x.cl) ∧ w'.cell? ⟨b65, o66 + j * 4, none⟩ = some (.int .i64 p.im) ∧ w'.cell? ⟨b65, o66 + j * 4 + 1, none⟩ = some (.int .i64 p.t) ∧ w'.cell? ⟨b65, o66 + j * 4 + 2, none⟩ = some (.bool p.cl) ∧ w'.cell? ⟨b65, o66 + j * 4 + 3, none⟩ = some (.slice arj kj cj)) (by kernel_rfl) (by kernel_rfl) (by kernel_rfl) (by kernel_rfl) ((calm_then (calm_block (calm_then (calm_then (calm_block (calm_then (calm_block (calm_then (calm_then (calm_block (calm_then calm_body)))))))))))) (⟨((hY101.trans hX61).cell hp74), ((hX57.trans hX61).cell d0), ((hX57.trans hX61).cell d1), ((hY101.trans hX61).cell hp71), ((hY101.trans hX61).cell hp72), ((hY101.trans hX61).cell hp73), ((hY101.trans hX61).cell y0), ((hY101.trans hX61).cell y1), ((hY101.trans hX61).cell y2), ((hY101.trans hX61).cell y3)⟩) (fun ops Q X102 hb hL hR hK => ?_)
      replace hE := hE.trans hb; replace hX61 := hX61.trans hb; have hs103 := hb.size; clear hb
      have hS104 := And.intro ((hY101.trans hX61).cell hp74) (And.intro ((hX57.trans hX61).cell d0) (And.intro ((hX57.trans hX61).cell d1) (And.intro ((hY101.trans hX61).cell hp71) (And.intro ((hY101.trans hX61).cell hp72) (And.intro ((hY101.trans hX61).cell hp73) (And.intro ((hY101.trans hX61).cell y0) (And.intro ((hY101.trans hX61).cell y1) (And.intro ((hY101.trans hX61).cell y2) (((hY101.trans hX61).cell y3))))))))))
      refine wT 0 (.slice (some ⟨b65, o66, none⟩) k c) hR (fun w _ => by kernel_rfl) (hS104) ?_
      refine wT 1 (.int .i64 (((t9 : Nat) : Int) : Int)) hR (fun w _ => by kernel_rfl) (hS104) ?_
      refine wT 2 (.pointer (some ⟨b65, o66 + t9 * 4, none⟩)) hR (fun w _ => ex_index (p := .slice (some ⟨b65, o66, none⟩) k c) (i := .int .i64 ((t9 : Nat) : Int)) rfl (by kernel_rfl) (by kernel_rfl) (ix28 (k := t9) (by omega))) (hS104) ?_
      refine wT 3 (.pointer (some ⟨b65, o66 + t9 * 4 + 3, none⟩)) hR (fun w _ => by kernel_rfl) (hS104) ?_
      refine wT 4 (.agg #[.slice ar67 k68 c69]) hR (fun w hS => ex_load rfl (by kernel_rfl) (ld26 (hS.1))) (hS104) ?_
      refine wT 5 (.slice (some ⟨bc, 0, none⟩) ((Globe.cellsTo ar 24).length) kc) hR (fun w _ => by kernel_rfl) (hS104) ?_
      refine wT 6 (.int .i64 (((i : Nat) : Int) : Int)) hR (fun w _ => by kernel_rfl) (hS104) ?_
      refine wT 7 (.pointer (some ⟨bc, i * 2, none⟩)) hR (fun w _ => ex_index (p := .slice (some ⟨bc, 0, none⟩) ((Globe.cellsTo ar 24).length) kc) (i := .int .i64 ((i : Nat) : Int)) rfl (by kernel_rfl) (by kernel_rfl) (ix37z (k := i) (by omega))) (hS104) ?_
      refine wT 8 (.agg #[.int .i64 (((cc.1 : Nat) : Int) : Int), .int .i64 (((cc.2 : Nat) : Int) : Int)]) hR (fun w hS => ex_load rfl (by kernel_rfl) (ld43 (hS.2.1) (hS.2.2.1))) (hS104) ?_
      refine wS 9 hR (sn_call (f := 14) (args := #[.agg #[.slice ar67 k68 c69], .agg #[.int .i64 (((cc.1 : Nat) : Int) : Int), .int .i64 (((cc.2 : Nat) : Int) : Int)]]) (by kernel_rfl) ((Has_q (r := true) _ _ (hA75) (hY101.trans hX61) (by rw [hasB_nat (Prod.okP_v (hgo x (List.mem_of_getElem? hx70))) hu9 hv9]; exact hh)).mono ?_))
      rintro e w105 ⟨rfl, hb⟩
      replace hE := hE.trans hb; replace hX61 := hX61.trans hb; have hs106 := hb.size; clear hb
      have hS107 := And.intro ((hY101.trans hX61).cell hp74) (And.intro ((hX57.trans hX61).cell d0) (And.intro ((hX57.trans hX61).cell d1) (And.intro ((hY101.trans hX61).cell hp71) (And.intro ((hY101.trans hX61).cell hp72) (And.intro ((hY101.trans hX61).cell hp73) (And.intro ((hY101.trans hX61).cell y0) (And.intro ((hY101.trans hX61).cell y1) (And.intro ((hY101.trans hX61).cell y2) (((hY101.trans hX61).cell y3))))))))))
      refine ⟨_, rfl, hS107, ?_⟩
      refine wT 10 (.bool true) hR (fun w _ => by kernel_rfl) (hS107) ?_
      refine wT 11 (.int .i64 (((j : Nat) : Int) : Int)) hR (fun w _ => by kernel_rfl) (hS107) ?_
      refine wT 12 (.bool false) hR (fun w _ => ev_ndec (show _ = Result.ok (Next.value (Value.bool (decide ((((j : Nat) : Int) : Int) < (0 : Int))))) _ from by kernel_rfl) (by omega)) (hS107) ?_
      refine wT 13 (.bool false) hR (fun w _ => by kernel_rfl) (hS107) ?_
      refine wT 14 (.slice (some ⟨b65, o66, none⟩) k c) hR (fun w _ => by kernel_rfl) (hS107) ?_
      refine wT 15 (.int .i64 (((t9 : Nat) : Int) : Int)) hR (fun w _ => by kernel_rfl) (hS107) ?_
      refine wT 16 (.pointer (some ⟨b65, o66 + t9 * 4, none⟩)) hR (fun w _ => ex_index (p := .slice (some ⟨b65, o66, none⟩) k c) (i := .int .i64 ((t9 : Nat) : Int)) rfl (by kernel_rfl) (by kernel_rfl) (ix28 (k := t9) (by omega))) (hS107) ?_
      refine wT 17 (.agg #[.int .i64 x.im, .int .i64 x.t, .bool x.cl, .slice ar67 k68 c69]) hR (fun w hS => ex_load rfl (by kernel_rfl) (ld41 (hS.2.2.2.1) (hS.2.2.2.2.1) (hS.2.2.2.2.2.1) (hS.1))) (hS107) ?_
      refine wT 18 (.slice (some ⟨b65, o66, none⟩) k c) hR (fun w _ => by kernel_rfl) (hS107) ?_
      refine wT 19 (.int .i64 (((j : Nat) : Int) : Int)) hR (fun w _ => by kernel_rfl) (hS107) ?_
      refine wT 20 (.int .i64 (((j : Nat) : Int) : Int)) hR (fun w _ => ev_int (show _ = Result.ok (Next.value (Value.int .i64 (if (((j : Nat) : Int) : Int) < (0 : Int) then (0 : Int) else (((j : Nat) : Int) : Int)))) _ from by kernel_rfl) (by split <;> omega)) (hS107) ?_
      refine wT 21 (.pointer (some ⟨b65, o66 + j * 4, none⟩)) hR (fun w _ => ex_index (p := .slice (some ⟨b65, o66, none⟩) k c) (i := .int .i64 ((j : Nat) : Int)) rfl (by kernel_rfl) (by kernel_rfl) (ix28 (k := j) (by omega))) (hS107) ?_
      refine wT 22 (.agg #[.int .i64 p.im, .int .i64 p.t, .bool p.cl, .slice arj kj cj]) hR (fun w hS => ex_load rfl (by kernel_rfl) (ld41 (hS.2.2.2.2.2.2.1) (hS.2.2.2.2.2.2.2.1) (hS.2.2.2.2.2.2.2.2.1) (hS.2.2.2.2.2.2.2.2.2))) (hS107) ?_
      refine wS 23 hR (sn_call (f := 15) (args := #[.agg #[.int .i64 x.im, .int .i64 x.t, .bool x.cl, .slice ar67 k68 c69], .agg #[.int .i64 p.im, .int .i64 p.t, .bool p.cl, .slice arj kj cj]]) (by kernel_rfl) ((rBetter_r (x := x) (y := p) (r := false) _ hbt).mono ?_))
      rintro e w108 ⟨rfl, hb⟩
      replace hE := hE.trans hb; replace hX61 := hX61.trans hb; have hs109 := hb.size; clear hb
      have hS110 := And.intro ((hY101.trans hX61).cell hp74) (And.intro ((hX57.trans hX61).cell d0) (And.intro ((hX57.trans hX61).cell d1) (And.intro ((hY101.trans hX61).cell hp71) (And.intro ((hY101.trans hX61).cell hp72) (And.intro ((hY101.trans hX61).cell hp73) (And.intro ((hY101.trans hX61).cell y0) (And.intro ((hY101.trans hX61).cell y1) (And.intro ((hY101.trans hX61).cell y2) (((hY101.trans hX61).cell y3))))))))))
      refine ⟨_, rfl, hS110, ?_⟩
      refine wT 24 (.bool false) hR (fun w _ => by kernel_rfl) (hS110) ?_
      refine wT 25 (.bool false) hR (fun w _ => by kernel_rfl) (hS110) ?_
      refine wd_end hL hR hK (by kernel_rfl) ?_
      refine qw_then ?_; refine cC9 6 7 9 11 12 13 14 15 80 (fun L => ?_)
      refine cw_f (by kernel_rfl) ?_
      refine cw_skip ?_
      refine qw_block ?_
      refine qw_then ?_; refine cw_plain ?_; refine pT (.int .i64 (((t9 : Nat) : Int) : Int)) ?_
      refine pU (.int .i64 (((t9 + 1 : Nat) : Int) : Int)) (ev_wrap (by kernel_rfl) (by omega) (by omega)) ?_
      refine pT (.int .i64 (((t9 + 1 : Nat) : Int) : Int)) ?_; refine pl_nil ?_
      refine qw_round [6, 7, 9, 11, 12, 13, 14, 15] (ws' := [(6, .slice (some ⟨b65, o66, none⟩) k c), (7, .pointer (some ⟨O35, 0, none⟩)), (9, .pointer (some ⟨O49, 0, none⟩)), (11, .slice (some ⟨bc, 0, none⟩) ((Globe.cellsTo ar 24).length) kc), (12, .int .i64 (((Prod.givenN ar (Prod.divide ar ps) i : Nat) : Int) : Int)), (13, .int .i64 (((i : Nat) : Int) : Int)), (14, .int .i64 (((j : Nat) : Int) : Int)), (15, .int .i64 (((t9 + 1 : Nat) : Int) : Int))]) (by kernel_rfl) _ ?_ ⟨(t9 + 1), (((j : Nat) : Int)), rfl, rfl, (T hs62 (T hs103 (T hs106 hs109))), hE, hX61, by omega, (Prod.BestI.keep hj hpj hph hpb hx70 hbt)⟩
      omega
     ·
      have hY111 := hX41.trans hX57
      have hY112 := hX17.trans hY111
      refine cw_draw [(some 55, [6], []), (some 56, [15], []), (some 57, [55, 56], [0, 1]), (some 58, [57], [2]), (some 59, [58], [3]), (some 60, [11], []), (some 61, [13], []), (some 62, [60, 61], [5, 6]), (some 63, [62], [7]), (some 64, [59, 63], [4, 8]), (some 65, [64], [9, 9]), (some 66, [14, 65], [10]), (some 67, [66, 65], [11, 10]), (some 68, [67, 65], [12, 10, 10]), (some 69, [6, 68], [13]), (some 70, [15, 68], [13]), (some 71, [69, 70, 68], [14, 15, 13]), (some 72, [71, 68], [16, 13]), (some 73, [6, 68], [13]), (some 74, [14, 68], [13]), (some 75, [74, 68], [19, 13]), (some 76, [73, 75, 68], [18, 20, 13]), (some 77, [76, 68], [21, 13]), (some 78, [72, 77, 68], [17, 22, 13, 13]), (some 79, [68, 78, 65], [13, 23, 10]), (some 80, [65, 79], [10, 24])] (fun w' => w'.cell? ⟨b65, o66 + t9 * 4 + 3, none⟩ = some (.slice ar67 k68 c69) ∧ w'.cell? ⟨bc, i * 2, none⟩ = some (.int .i64 (((cc.1 : Nat) : Int) : Int)) ∧ w'.cell? ⟨bc, i * 2 + 1, none⟩ = some (.int .i64 (((cc.2 : Nat) : Int) : Int)) ∧ w'.cell? ⟨b65, o66 + t9 * 4, none⟩ = some (.int .i64 x.im) ∧ w'.cell? ⟨b65, o66 + t9 * 4 + 1, none⟩ = some (.int .i64 x.t) ∧ w'.cell? ⟨b65, o66 + t9 * 4 + 2, none⟩ = some (.bool x.cl) ∧ w'.cell? ⟨b65, o66 + j * 4, none⟩ = some (.int .i64 p.im) ∧ w'.cell? ⟨b65, o66 + j * 4 + 1, none⟩ = some (.int .i64 p.t) ∧ w'.cell? ⟨b65, o66 + j * 4 + 2, none⟩ = some (.bool p.cl) ∧ w'.cell? ⟨b65, o66 + j * 4 + 3, none⟩ = some (.slice arj kj cj)) (by kernel_rfl) (by kernel_rfl) (by kernel_rfl) (by kernel_rfl) ((calm_then (calm_block (calm_then (calm_then (calm_block (calm_then (calm_block (calm_then (calm_then (calm_block (calm_then calm_body)))))))))))) (⟨((hY112.trans hX61).cell hp74), ((hX57.trans hX61).cell d0), ((hX57.trans hX61).cell d1), ((hY112.trans hX61).cell hp71), ((hY112.trans hX61).cell hp72), ((hY112.trans hX61).cell hp73), ((hY112.trans hX61).cell y0), ((hY112.trans hX61).cell y1), ((hY112.trans hX61).cell y2), ((hY112.trans hX61).cell y3)⟩) (fun ops Q X113 hb hL hR hK => ?_)
      replace hE := hE.trans hb; replace hX61 := hX61.trans hb; have hs114 := hb.size; clear hb
      have hS115 := And.intro ((hY112.trans hX61).cell hp74) (And.intro ((hX57.trans hX61).cell d0) (And.intro ((hX57.trans hX61).cell d1) (And.intro ((hY112.trans hX61).cell hp71) (And.intro ((hY112.trans hX61).cell hp72) (And.intro ((hY112.trans hX61).cell hp73) (And.intro ((hY112.trans hX61).cell y0) (And.intro ((hY112.trans hX61).cell y1) (And.intro ((hY112.trans hX61).cell y2) (((hY112.trans hX61).cell y3))))))))))
      refine wT 0 (.slice (some ⟨b65, o66, none⟩) k c) hR (fun w _ => by kernel_rfl) (hS115) ?_
      refine wT 1 (.int .i64 (((t9 : Nat) : Int) : Int)) hR (fun w _ => by kernel_rfl) (hS115) ?_
      refine wT 2 (.pointer (some ⟨b65, o66 + t9 * 4, none⟩)) hR (fun w _ => ex_index (p := .slice (some ⟨b65, o66, none⟩) k c) (i := .int .i64 ((t9 : Nat) : Int)) rfl (by kernel_rfl) (by kernel_rfl) (ix28 (k := t9) (by omega))) (hS115) ?_
      refine wT 3 (.pointer (some ⟨b65, o66 + t9 * 4 + 3, none⟩)) hR (fun w _ => by kernel_rfl) (hS115) ?_
      refine wT 4 (.agg #[.slice ar67 k68 c69]) hR (fun w hS => ex_load rfl (by kernel_rfl) (ld26 (hS.1))) (hS115) ?_
      refine wT 5 (.slice (some ⟨bc, 0, none⟩) ((Globe.cellsTo ar 24).length) kc) hR (fun w _ => by kernel_rfl) (hS115) ?_
      refine wT 6 (.int .i64 (((i : Nat) : Int) : Int)) hR (fun w _ => by kernel_rfl) (hS115) ?_
      refine wT 7 (.pointer (some ⟨bc, i * 2, none⟩)) hR (fun w _ => ex_index (p := .slice (some ⟨bc, 0, none⟩) ((Globe.cellsTo ar 24).length) kc) (i := .int .i64 ((i : Nat) : Int)) rfl (by kernel_rfl) (by kernel_rfl) (ix37z (k := i) (by omega))) (hS115) ?_
      refine wT 8 (.agg #[.int .i64 (((cc.1 : Nat) : Int) : Int), .int .i64 (((cc.2 : Nat) : Int) : Int)]) hR (fun w hS => ex_load rfl (by kernel_rfl) (ld43 (hS.2.1) (hS.2.2.1))) (hS115) ?_
      refine wS 9 hR (sn_call (f := 14) (args := #[.agg #[.slice ar67 k68 c69], .agg #[.int .i64 (((cc.1 : Nat) : Int) : Int), .int .i64 (((cc.2 : Nat) : Int) : Int)]]) (by kernel_rfl) ((Has_q (r := true) _ _ (hA75) (hY112.trans hX61) (by rw [hasB_nat (Prod.okP_v (hgo x (List.mem_of_getElem? hx70))) hu9 hv9]; exact hh)).mono ?_))
      rintro e w116 ⟨rfl, hb⟩
      replace hE := hE.trans hb; replace hX61 := hX61.trans hb; have hs117 := hb.size; clear hb
      have hS118 := And.intro ((hY112.trans hX61).cell hp74) (And.intro ((hX57.trans hX61).cell d0) (And.intro ((hX57.trans hX61).cell d1) (And.intro ((hY112.trans hX61).cell hp71) (And.intro ((hY112.trans hX61).cell hp72) (And.intro ((hY112.trans hX61).cell hp73) (And.intro ((hY112.trans hX61).cell y0) (And.intro ((hY112.trans hX61).cell y1) (And.intro ((hY112.trans hX61).cell y2) (((hY112.trans hX61).cell y3))))))))))
      refine ⟨_, rfl, hS118, ?_⟩
      refine wT 10 (.bool true) hR (fun w _ => by kernel_rfl) (hS118) ?_
      refine wT 11 (.int .i64 (((j : Nat) : Int) : Int)) hR (fun w _ => by kernel_rfl) (hS118) ?_
      refine wT 12 (.bool false) hR (fun w _ => ev_ndec (show _ = Result.ok (Next.value (Value.bool (decide ((((j : Nat) : Int) : Int) < (0 : Int))))) _ from by kernel_rfl) (by omega)) (hS118) ?_
      refine wT 13 (.bool false) hR (fun w _ => by kernel_rfl) (hS118) ?_
      refine wT 14 (.slice (some ⟨b65, o66, none⟩) k c) hR (fun w _ => by kernel_rfl) (hS118) ?_
      refine wT 15 (.int .i64 (((t9 : Nat) : Int) : Int)) hR (fun w _ => by kernel_rfl) (hS118) ?_
      refine wT 16 (.pointer (some ⟨b65, o66 + t9 * 4, none⟩)) hR (fun w _ => ex_index (p := .slice (some ⟨b65, o66, none⟩) k c) (i := .int .i64 ((t9 : Nat) : Int)) rfl (by kernel_rfl) (by kernel_rfl) (ix28 (k := t9) (by omega))) (hS118) ?_
      refine wT 17 (.agg #[.int .i64 x.im, .int .i64 x.t, .bool x.cl, .slice ar67 k68 c69]) hR (fun w hS => ex_load rfl (by kernel_rfl) (ld41 (hS.2.2.2.1) (hS.2.2.2.2.1) (hS.2.2.2.2.2.1) (hS.1))) (hS118) ?_
      refine wT 18 (.slice (some ⟨b65, o66, none⟩) k c) hR (fun w _ => by kernel_rfl) (hS118) ?_
      refine wT 19 (.int .i64 (((j : Nat) : Int) : Int)) hR (fun w _ => by kernel_rfl) (hS118) ?_
      refine wT 20 (.int .i64 (((j : Nat) : Int) : Int)) hR (fun w _ => ev_int (show _ = Result.ok (Next.value (Value.int .i64 (if (((j : Nat) : Int) : Int) < (0 : Int) then (0 : Int) else (((j : Nat) : Int) : Int)))) _ from by kernel_rfl) (by split <;> omega)) (hS118) ?_
      refine wT 21 (.pointer (some ⟨b65, o66 + j * 4, none⟩)) hR (fun w _ => ex_index (p := .slice (some ⟨b65, o66, none⟩) k c) (i := .int .i64 ((j : Nat) : Int)) rfl (by kernel_rfl) (by kernel_rfl) (ix28 (k := j) (by omega))) (hS118) ?_
      refine wT 22 (.agg #[.int .i64 p.im, .int .i64 p.t, .bool p.cl, .slice arj kj cj]) hR (fun w hS => ex_load rfl (by kernel_rfl) (ld41 (hS.2.2.2.2.2.2.1) (hS.2.2.2.2.2.2.2.1) (hS.2.2.2.2.2.2.2.2.1) (hS.2.2.2.2.2.2.2.2.2))) (hS118) ?_
      refine wS 23 hR (sn_call (f := 15) (args := #[.agg #[.int .i64 x.im, .int .i64 x.t, .bool x.cl, .slice ar67 k68 c69], .agg #[.int .i64 p.im, .int .i64 p.t, .bool p.cl, .slice arj kj cj]]) (by kernel_rfl) ((rBetter_r (x := x) (y := p) (r := true) _ hbt).mono ?_))
      rintro e w119 ⟨rfl, hb⟩
      replace hE := hE.trans hb; replace hX61 := hX61.trans hb; have hs120 := hb.size; clear hb
      have hS121 := And.intro ((hY112.trans hX61).cell hp74) (And.intro ((hX57.trans hX61).cell d0) (And.intro ((hX57.trans hX61).cell d1) (And.intro ((hY112.trans hX61).cell hp71) (And.intro ((hY112.trans hX61).cell hp72) (And.intro ((hY112.trans hX61).cell hp73) (And.intro ((hY112.trans hX61).cell y0) (And.intro ((hY112.trans hX61).cell y1) (And.intro ((hY112.trans hX61).cell y2) (((hY112.trans hX61).cell y3))))))))))
      refine ⟨_, rfl, hS121, ?_⟩
      refine wT 24 (.bool true) hR (fun w _ => by kernel_rfl) (hS121) ?_
      refine wT 25 (.bool true) hR (fun w _ => by kernel_rfl) (hS121) ?_
      refine wd_end hL hR hK (by kernel_rfl) ?_
      refine qw_then ?_; refine cC9 6 7 9 11 12 13 14 15 80 (fun L => ?_)
      refine cw_t (by kernel_rfl) ?_
      refine cw_plain ?_; refine pT (.int .i64 (((t9 : Nat) : Int) : Int)) ?_; refine pT (.int .i64 (((t9 : Nat) : Int) : Int)) ?_; refine pl_nil ?_
      refine qw_block ?_
      refine qw_then ?_; refine cw_plain ?_; refine pT (.int .i64 (((t9 : Nat) : Int) : Int)) ?_
      refine pU (.int .i64 (((t9 + 1 : Nat) : Int) : Int)) (ev_wrap (by kernel_rfl) (by omega) (by omega)) ?_
      refine pT (.int .i64 (((t9 + 1 : Nat) : Int) : Int)) ?_; refine pl_nil ?_
      refine qw_round [6, 7, 9, 11, 12, 13, 14, 15] (ws' := [(6, .slice (some ⟨b65, o66, none⟩) k c), (7, .pointer (some ⟨O35, 0, none⟩)), (9, .pointer (some ⟨O49, 0, none⟩)), (11, .slice (some ⟨bc, 0, none⟩) ((Globe.cellsTo ar 24).length) kc), (12, .int .i64 (((Prod.givenN ar (Prod.divide ar ps) i : Nat) : Int) : Int)), (13, .int .i64 (((i : Nat) : Int) : Int)), (14, .int .i64 (((t9 : Nat) : Int) : Int)), (15, .int .i64 (((t9 + 1 : Nat) : Int) : Int))]) (by kernel_rfl) _ ?_ ⟨(t9 + 1), (((t9 : Nat) : Int)), rfl, rfl, (T hs62 (T hs114 (T hs117 hs120))), hE, hX61, by omega, (Prod.BestI.take hpb hx70 hh hbt)⟩
      omega
  ·
   have htk : t9 = k := by omega
   refine cw_seq ?_; refine cw_seq ?_; refine cw_plain ?_; refine pT (.int .i64 (((t9 : Nat) : Int) : Int)) ?_; refine pT (.slice a k c) ?_; refine pT (.int .i64 (((k : Nat) : Int) : Int)) ?_
   refine pU (.bool false) (ev_ndec (show _ = Result.ok (Next.value (Value.bool (decide ((((t9 : Nat) : Int) : Int) < (((k : Nat) : Int) : Int))))) _ from by kernel_rfl) (by omega)) ?_
   refine pl_nil ?_; refine qw_then ?_
   refine cw_f (by kernel_rfl) ?_
   refine cw_exit ?_
   refine qw_then_exit ?_
   refine qw_then_exit ?_
   refine qw_block_out ?_
   refine qw_then ?_; refine cw_seq ?_
   rcases hf : (Prod.divide ar ps).find? (fun p => hasB p.rw ((cc.1 : Nat) : Int) ((cc.2 : Nat) : Int)) with _ | x
   ·
    obtain rfl : bst = -1 := Prod.best_none hu9 hv9 hva hr9 hgo (by omega) hB hf
    have hrest := Prod.rest_none hu9 hv9 hva hr9 hgo hf
    have hY122 := hX41.trans hX57
    refine cw_draw [(some 83, [7], []), (some 84, [11], []), (some 85, [13], []), (some 86, [84, 85], [1, 2]), (some 87, [86], [3]), (some 88, [83, 87], [0, 4]), (some 82, [88], [5]), (some 89, [82], [6]), (some 90, [82], [6]), (some 16, [89], [7, 5, 0, 1, 2, 3, 4, 5, 6, 7]), (some 17, [90], [8, 9, 0, 1, 2, 3, 4, 5, 6, 7, 8, 9])] (fun w' => w'.cell? ⟨O35, 0, none⟩ = some (.int .i64 1) ∧ w'.cell? ⟨O35, 1, none⟩ = some (.int .i64 1) ∧ w'.cell? ⟨O35, 2, none⟩ = some (.slice (some ⟨b29, o30, none⟩) 24 k20) ∧ w'.cell? ⟨O35, 3, none⟩ = some (.slice a21 n22 c23) ∧ w'.cell? ⟨bc, i * 2, none⟩ = some (.int .i64 (((cc.1 : Nat) : Int) : Int)) ∧ w'.cell? ⟨bc, i * 2 + 1, none⟩ = some (.int .i64 (((cc.2 : Nat) : Int) : Int))) (by kernel_rfl) (by kernel_rfl) (by kernel_rfl) (by kernel_rfl) ((calm_then (calm_block (calm_then (calm_then (calm_block (calm_then calm_body))))))) (⟨(BoxAt.ext (hY122.trans hX61) bO35_0).1, (BoxAt.ext (hY122.trans hX61) bO35_1).1, (BoxAt.ext (hY122.trans hX61) bO35_2).1, (BoxAt.ext (hY122.trans hX61) bO35_3).1, ((hX57.trans hX61).cell d0), ((hX57.trans hX61).cell d1)⟩) (fun ops Q X123 hb hL hR hK => ?_)
    replace hE := hE.trans hb; replace hX61 := hX61.trans hb; have hs124 := hb.size; clear hb
    have hS125 := And.intro ((BoxAt.ext (hY122.trans hX61) bO35_0).1) (And.intro ((BoxAt.ext (hY122.trans hX61) bO35_1).1) (And.intro ((BoxAt.ext (hY122.trans hX61) bO35_2).1) (And.intro ((BoxAt.ext (hY122.trans hX61) bO35_3).1) (And.intro ((hX57.trans hX61).cell d0) (((hX57.trans hX61).cell d1))))))
    refine wT 0 (.agg #[.int .i64 1, .int .i64 1, .slice (some ⟨b29, o30, none⟩) 24 k20, .slice a21 n22 c23]) hR (fun w hS => ex_load rfl (by kernel_rfl) (ld31 (hS.1) (hS.2.1) (hS.2.2.1) (hS.2.2.2.1))) (hS125) ?_
    refine wT 1 (.slice (some ⟨bc, 0, none⟩) ((Globe.cellsTo ar 24).length) kc) hR (fun w _ => by kernel_rfl) (hS125) ?_
    refine wT 2 (.int .i64 (((i : Nat) : Int) : Int)) hR (fun w _ => by kernel_rfl) (hS125) ?_
    refine wT 3 (.pointer (some ⟨bc, i * 2, none⟩)) hR (fun w _ => ex_index (p := .slice (some ⟨bc, 0, none⟩) ((Globe.cellsTo ar 24).length) kc) (i := .int .i64 ((i : Nat) : Int)) rfl (by kernel_rfl) (by kernel_rfl) (ix37z (k := i) (by omega))) (hS125) ?_
    refine wT 4 (.agg #[.int .i64 (((cc.1 : Nat) : Int) : Int), .int .i64 (((cc.2 : Nat) : Int) : Int)]) hR (fun w hS => ex_load rfl (by kernel_rfl) (ld43 (hS.2.2.2.2.1) (hS.2.2.2.2.2))) (hS125) ?_
    refine wS 5 hR (sn_call (f := 16) (args := #[.agg #[.int .i64 1, .int .i64 1, .slice (some ⟨b29, o30, none⟩) 24 k20, .slice a21 n22 c23], .agg #[.int .i64 (((cc.1 : Nat) : Int) : Int), .int .i64 (((cc.2 : Nat) : Int) : Int)]]) (by kernel_rfl) ((From_n (id := 1) (ver := 1) (u := ((cc.1 : Nat) : Int)) (v := ((cc.2 : Nat) : Int)) _ _ (by omega) (aa_q (hV31.aa)) (hY122.trans hX61) (hP26n.pcs) (hY122.trans hX61) (hT.ext hE) hval hf).mono ?_))
    rintro e w126 ⟨rfl, hb⟩
    replace hE := hE.trans hb; replace hX61 := hX61.trans hb; have hs127 := hb.size; clear hb
    have hS128 := And.intro ((BoxAt.ext (hY122.trans hX61) bO35_0).1) (And.intro ((BoxAt.ext (hY122.trans hX61) bO35_1).1) (And.intro ((BoxAt.ext (hY122.trans hX61) bO35_2).1) (And.intro ((BoxAt.ext (hY122.trans hX61) bO35_3).1) (And.intro ((hX57.trans hX61).cell d0) (((hX57.trans hX61).cell d1))))))
    refine ⟨_, rfl, hS128, ?_⟩
    refine wT 6 (.tuple #[.int .i64 0, .bool false]) hR (fun w _ => by kernel_rfl) (hS128) ?_
    refine wT 7 (.int .i64 0) hR (fun w _ => by kernel_rfl) (hS128) ?_
    refine wT 8 (.bool false) hR (fun w _ => by kernel_rfl) (hS128) ?_
    refine wT 9 (.int .i64 0) hR (fun w _ => by kernel_rfl) (hS128) ?_
    refine wT 10 (.bool false) hR (fun w _ => by kernel_rfl) (hS128) ?_
    refine wd_end hL hR hK (by kernel_rfl) ?_
    refine qw_then ?_; refine cC9 6 7 9 11 12 13 14 16 17 (fun L => ?_); refine cw_seq ?_; refine cw_seq ?_
    refine cw_draw [(some 91, [17], []), (some 92, [14], []), (some 93, [92], [1]), (some 94, [91, 93], [0, 2]), (some 95, [94], [3]), (some 96, [9, 95], [4]), (some 97, [11, 95], [4]), (some 98, [13, 95], [4]), (some 99, [97, 98, 95], [6, 7, 4]), (some 100, [99, 95], [8, 4]), (some 101, [96, 100, 95], [5, 9, 4, 4]), (some 102, [17, 95], [4]), (some 103, [101, 102, 95], [10, 11, 4]), (some 104, [95, 103], [4, 12])] (fun w' => w'.cell? ⟨O49, 0, none⟩ = some (.slice (some ⟨B42, o43, none⟩) 24 k44) ∧ w'.cell? ⟨bc, i * 2, none⟩ = some (.int .i64 (((cc.1 : Nat) : Int) : Int)) ∧ w'.cell? ⟨bc, i * 2 + 1, none⟩ = some (.int .i64 (((cc.2 : Nat) : Int) : Int))) (by kernel_rfl) (by kernel_rfl) (by kernel_rfl) (by kernel_rfl) ((calm_then (calm_then (calm_block (calm_then (calm_then (calm_block (calm_then calm_body)))))))) (⟨(BoxAt.ext (hX57.trans hX61) bO49_0).1, ((hX57.trans hX61).cell d0), ((hX57.trans hX61).cell d1)⟩) (fun ops Q X129 hb hL hR hK => ?_)
    replace hE := hE.trans hb; replace hX61 := hX61.trans hb; have hs130 := hb.size; clear hb
    have hS131 := And.intro ((BoxAt.ext (hX57.trans hX61) bO49_0).1) (And.intro ((hX57.trans hX61).cell d0) (((hX57.trans hX61).cell d1)))
    refine wT 0 (.bool false) hR (fun w _ => by kernel_rfl) (hS131) ?_
    refine wT 1 (.int .i64 (-1 : Int)) hR (fun w _ => by kernel_rfl) (hS131) ?_
    refine wT 2 (.bool false) hR (fun w _ => by kernel_rfl) (hS131) ?_
    refine wT 3 (.bool false) hR (fun w _ => by kernel_rfl) (hS131) ?_
    refine wT 4 (.bool false) hR (fun w _ => by kernel_rfl) (hS131) ?_
    refine wT 5 (.agg #[.slice (some ⟨B42, o43, none⟩) 24 k44]) hR (fun w hS => ex_load rfl (by kernel_rfl) (ld26 (hS.1))) (hS131) ?_
    refine wT 6 (.slice (some ⟨bc, 0, none⟩) ((Globe.cellsTo ar 24).length) kc) hR (fun w _ => by kernel_rfl) (hS131) ?_
    refine wT 7 (.int .i64 (((i : Nat) : Int) : Int)) hR (fun w _ => by kernel_rfl) (hS131) ?_
    refine wT 8 (.pointer (some ⟨bc, i * 2, none⟩)) hR (fun w _ => ex_index (p := .slice (some ⟨bc, 0, none⟩) ((Globe.cellsTo ar 24).length) kc) (i := .int .i64 ((i : Nat) : Int)) rfl (by kernel_rfl) (by kernel_rfl) (ix37z (k := i) (by omega))) (hS131) ?_
    refine wT 9 (.agg #[.int .i64 (((cc.1 : Nat) : Int) : Int), .int .i64 (((cc.2 : Nat) : Int) : Int)]) hR (fun w hS => ex_load rfl (by kernel_rfl) (ld43 (hS.2.1) (hS.2.2))) (hS131) ?_
    refine wT 11 (.bool false) hR (fun w _ => by kernel_rfl) (hS131) ?_
    refine wS 10 hR (sn_call (f := 14) (args := #[.agg #[.slice (some ⟨B42, o43, none⟩) 24 k44], .agg #[.int .i64 (((cc.1 : Nat) : Int) : Int), .int .i64 (((cc.2 : Nat) : Int) : Int)]]) (by kernel_rfl) ((Has_q (r := true) _ _ (hv45.aa) (hX57.trans hX61) (by rw [hasB_nat (Prod.rest_valid _ hva) hu9 hv9]; exact hrest)).mono ?_))
    rintro e w132 ⟨rfl, hb⟩
    replace hE := hE.trans hb; replace hX61 := hX61.trans hb; have hs133 := hb.size; clear hb
    have hS134 := And.intro ((BoxAt.ext (hX57.trans hX61) bO49_0).1) (And.intro ((hX57.trans hX61).cell d0) (((hX57.trans hX61).cell d1)))
    refine ⟨_, rfl, hS134, ?_⟩
    refine wT 12 (.bool false) hR (fun w _ => by kernel_rfl) (hS134) ?_
    refine wT 13 (.bool false) hR (fun w _ => by kernel_rfl) (hS134) ?_
    refine wd_end hL hR hK (by kernel_rfl) ?_
    refine qw_then ?_; refine cC10 6 7 9 11 12 13 14 16 17 104 (fun L => ?_)
    refine cw_f (by kernel_rfl) ?_
    refine cw_skip ?_
    refine qw_then ?_; refine cw_seq ?_; refine cw_plain ?_; refine pT (.bool false) ?_; refine pl_nil ?_; refine qw_then ?_
    refine cw_f (by kernel_rfl) ?_
    refine cw_skip ?_
    refine qw_block ?_
    refine qw_then ?_; refine cw_plain ?_; refine pT (.int .i64 (((i : Nat) : Int) : Int)) ?_
    refine pU (.int .i64 (((i + 1 : Nat) : Int) : Int)) (ev_wrap (by kernel_rfl) (by omega) (by omega)) ?_
    refine pT (.int .i64 (((i + 1 : Nat) : Int) : Int)) ?_; refine pl_nil ?_
    refine qw_round [6, 7, 9, 11, 12, 13] (ws' := [(6, .slice a k c), (7, .pointer (some ⟨O35, 0, none⟩)), (9, .pointer (some ⟨O49, 0, none⟩)), (11, .slice (some ⟨bc, 0, none⟩) ((Globe.cellsTo ar 24).length) kc), (12, .int .i64 (((Prod.givenN ar (Prod.divide ar ps) i : Nat) : Int) : Int)), (13, .int .i64 (((i + 1 : Nat) : Int) : Int))]) (by kernel_rfl) _ ?_ ⟨(i + 1), (by rw [Prod.givenN_y hcc hrest]), rfl, (T hs58 (T hs62 (T hs124 (T hs127 (T hs130 hs133))))), hE, (hX57.trans hX61), by omega⟩
    omega
   ·
    obtain ⟨j, p, rfl, hj, hpj, hpim⟩ := Prod.best_some hu9 hv9 hva hgo hgd (by omega) hB hf
    have hrest := Prod.rest_some hu9 hv9 hva hgo hf
    have hjk : j < k := by omega
    obtain ⟨b135, o136, p0, ar137, k138, c139, rfl, hx140, hp141, hp142, hp143, hp144, hA145⟩ := hP.at hjk
    obtain rfl : p0 = p := Option.some.inj (hx140.symm.trans hpj)
    have hY146 := hX41.trans hX57
    refine cw_draw [(some 83, [7], []), (some 84, [11], []), (some 85, [13], []), (some 86, [84, 85], [1, 2]), (some 87, [86], [3]), (some 88, [83, 87], [0, 4]), (some 82, [88], [5]), (some 89, [82], [6]), (some 90, [82], [6]), (some 16, [89], [7, 5, 0, 1, 2, 3, 4, 5, 6, 7]), (some 17, [90], [8, 9, 0, 1, 2, 3, 4, 5, 6, 7, 8, 9])] (fun w' => w'.cell? ⟨O35, 0, none⟩ = some (.int .i64 1) ∧ w'.cell? ⟨O35, 1, none⟩ = some (.int .i64 1) ∧ w'.cell? ⟨O35, 2, none⟩ = some (.slice (some ⟨b29, o30, none⟩) 24 k20) ∧ w'.cell? ⟨O35, 3, none⟩ = some (.slice a21 n22 c23) ∧ w'.cell? ⟨bc, i * 2, none⟩ = some (.int .i64 (((cc.1 : Nat) : Int) : Int)) ∧ w'.cell? ⟨bc, i * 2 + 1, none⟩ = some (.int .i64 (((cc.2 : Nat) : Int) : Int))) (by kernel_rfl) (by kernel_rfl) (by kernel_rfl) (by kernel_rfl) ((calm_then (calm_block (calm_then (calm_then (calm_block (calm_then calm_body))))))) (⟨(BoxAt.ext (hY146.trans hX61) bO35_0).1, (BoxAt.ext (hY146.trans hX61) bO35_1).1, (BoxAt.ext (hY146.trans hX61) bO35_2).1, (BoxAt.ext (hY146.trans hX61) bO35_3).1, ((hX57.trans hX61).cell d0), ((hX57.trans hX61).cell d1)⟩) (fun ops Q X147 hb hL hR hK => ?_)
    replace hE := hE.trans hb; replace hX61 := hX61.trans hb; have hs148 := hb.size; clear hb
    have hS149 := And.intro ((BoxAt.ext (hY146.trans hX61) bO35_0).1) (And.intro ((BoxAt.ext (hY146.trans hX61) bO35_1).1) (And.intro ((BoxAt.ext (hY146.trans hX61) bO35_2).1) (And.intro ((BoxAt.ext (hY146.trans hX61) bO35_3).1) (And.intro ((hX57.trans hX61).cell d0) (((hX57.trans hX61).cell d1))))))
    refine wT 0 (.agg #[.int .i64 1, .int .i64 1, .slice (some ⟨b29, o30, none⟩) 24 k20, .slice a21 n22 c23]) hR (fun w hS => ex_load rfl (by kernel_rfl) (ld31 (hS.1) (hS.2.1) (hS.2.2.1) (hS.2.2.2.1))) (hS149) ?_
    refine wT 1 (.slice (some ⟨bc, 0, none⟩) ((Globe.cellsTo ar 24).length) kc) hR (fun w _ => by kernel_rfl) (hS149) ?_
    refine wT 2 (.int .i64 (((i : Nat) : Int) : Int)) hR (fun w _ => by kernel_rfl) (hS149) ?_
    refine wT 3 (.pointer (some ⟨bc, i * 2, none⟩)) hR (fun w _ => ex_index (p := .slice (some ⟨bc, 0, none⟩) ((Globe.cellsTo ar 24).length) kc) (i := .int .i64 ((i : Nat) : Int)) rfl (by kernel_rfl) (by kernel_rfl) (ix37z (k := i) (by omega))) (hS149) ?_
    refine wT 4 (.agg #[.int .i64 (((cc.1 : Nat) : Int) : Int), .int .i64 (((cc.2 : Nat) : Int) : Int)]) hR (fun w hS => ex_load rfl (by kernel_rfl) (ld43 (hS.2.2.2.2.1) (hS.2.2.2.2.2))) (hS149) ?_
    refine wS 5 hR (sn_call (f := 16) (args := #[.agg #[.int .i64 1, .int .i64 1, .slice (some ⟨b29, o30, none⟩) 24 k20, .slice a21 n22 c23], .agg #[.int .i64 (((cc.1 : Nat) : Int) : Int), .int .i64 (((cc.2 : Nat) : Int) : Int)]]) (by kernel_rfl) ((From_y (id := 1) (ver := 1) (u := ((cc.1 : Nat) : Int)) (v := ((cc.2 : Nat) : Int)) _ _ (by omega) (aa_q (hV31.aa)) (hY146.trans hX61) (hP26n.pcs) (hY146.trans hX61) (hT.ext hE) hval hf).mono ?_))
    rintro e w150 ⟨rfl, hb⟩
    replace hE := hE.trans hb; replace hX61 := hX61.trans hb; have hs151 := hb.size; clear hb
    have hS152 := And.intro ((BoxAt.ext (hY146.trans hX61) bO35_0).1) (And.intro ((BoxAt.ext (hY146.trans hX61) bO35_1).1) (And.intro ((BoxAt.ext (hY146.trans hX61) bO35_2).1) (And.intro ((BoxAt.ext (hY146.trans hX61) bO35_3).1) (And.intro ((hX57.trans hX61).cell d0) (((hX57.trans hX61).cell d1))))))
    refine ⟨_, rfl, hS152, ?_⟩
    refine wT 6 (.tuple #[.int .i64 x.im, .bool true]) hR (fun w _ => by kernel_rfl) (hS152) ?_
    refine wT 7 (.int .i64 x.im) hR (fun w _ => by kernel_rfl) (hS152) ?_
    refine wT 8 (.bool true) hR (fun w _ => by kernel_rfl) (hS152) ?_
    refine wT 9 (.int .i64 x.im) hR (fun w _ => by kernel_rfl) (hS152) ?_
    refine wT 10 (.bool true) hR (fun w _ => by kernel_rfl) (hS152) ?_
    refine wd_end hL hR hK (by kernel_rfl) ?_
    refine qw_then ?_; refine cC9 6 7 9 11 12 13 14 16 17 (fun L => ?_); refine cw_seq ?_; refine cw_seq ?_
    refine cw_draw [(some 91, [17], []), (some 92, [14], []), (some 93, [92], [1]), (some 94, [91, 93], [0, 2]), (some 95, [94], [3]), (some 96, [9, 95], [4]), (some 97, [11, 95], [4]), (some 98, [13, 95], [4]), (some 99, [97, 98, 95], [6, 7, 4]), (some 100, [99, 95], [8, 4]), (some 101, [96, 100, 95], [5, 9, 4, 4]), (some 102, [17, 95], [4]), (some 103, [101, 102, 95], [10, 11, 4]), (some 104, [95, 103], [4, 12])] (fun w' => w'.cell? ⟨O49, 0, none⟩ = some (.slice (some ⟨B42, o43, none⟩) 24 k44) ∧ w'.cell? ⟨bc, i * 2, none⟩ = some (.int .i64 (((cc.1 : Nat) : Int) : Int)) ∧ w'.cell? ⟨bc, i * 2 + 1, none⟩ = some (.int .i64 (((cc.2 : Nat) : Int) : Int))) (by kernel_rfl) (by kernel_rfl) (by kernel_rfl) (by kernel_rfl) ((calm_then (calm_then (calm_block (calm_then (calm_then (calm_block (calm_then calm_body)))))))) (⟨(BoxAt.ext (hX57.trans hX61) bO49_0).1, ((hX57.trans hX61).cell d0), ((hX57.trans hX61).cell d1)⟩) (fun ops Q X153 hb hL hR hK => ?_)
    replace hE := hE.trans hb; replace hX61 := hX61.trans hb; have hs154 := hb.size; clear hb
    have hS155 := And.intro ((BoxAt.ext (hX57.trans hX61) bO49_0).1) (And.intro ((hX57.trans hX61).cell d0) (((hX57.trans hX61).cell d1)))
    refine wT 0 (.bool true) hR (fun w _ => by kernel_rfl) (hS155) ?_
    refine wT 1 (.int .i64 (((j : Nat) : Int) : Int)) hR (fun w _ => by kernel_rfl) (hS155) ?_
    refine wT 2 (.bool true) hR (fun w _ => ev_dec (show _ = Result.ok (Next.value (Value.bool (decide ((((j : Nat) : Int) : Int) ≥ (0 : Int))))) _ from by kernel_rfl) (by omega)) (hS155) ?_
    refine wT 3 (.bool false) hR (fun w _ => by kernel_rfl) (hS155) ?_
    refine wT 4 (.bool false) hR (fun w _ => by kernel_rfl) (hS155) ?_
    refine wT 5 (.agg #[.slice (some ⟨B42, o43, none⟩) 24 k44]) hR (fun w hS => ex_load rfl (by kernel_rfl) (ld26 (hS.1))) (hS155) ?_
    refine wT 6 (.slice (some ⟨bc, 0, none⟩) ((Globe.cellsTo ar 24).length) kc) hR (fun w _ => by kernel_rfl) (hS155) ?_
    refine wT 7 (.int .i64 (((i : Nat) : Int) : Int)) hR (fun w _ => by kernel_rfl) (hS155) ?_
    refine wT 8 (.pointer (some ⟨bc, i * 2, none⟩)) hR (fun w _ => ex_index (p := .slice (some ⟨bc, 0, none⟩) ((Globe.cellsTo ar 24).length) kc) (i := .int .i64 ((i : Nat) : Int)) rfl (by kernel_rfl) (by kernel_rfl) (ix37z (k := i) (by omega))) (hS155) ?_
    refine wT 9 (.agg #[.int .i64 (((cc.1 : Nat) : Int) : Int), .int .i64 (((cc.2 : Nat) : Int) : Int)]) hR (fun w hS => ex_load rfl (by kernel_rfl) (ld43 (hS.2.1) (hS.2.2))) (hS155) ?_
    refine wT 11 (.bool true) hR (fun w _ => by kernel_rfl) (hS155) ?_
    refine wS 10 hR (sn_call (f := 14) (args := #[.agg #[.slice (some ⟨B42, o43, none⟩) 24 k44], .agg #[.int .i64 (((cc.1 : Nat) : Int) : Int), .int .i64 (((cc.2 : Nat) : Int) : Int)]]) (by kernel_rfl) ((Has_q (r := false) _ _ (hv45.aa) (hX57.trans hX61) (by rw [hasB_nat (Prod.rest_valid _ hva) hu9 hv9]; exact hrest)).mono ?_))
    rintro e w156 ⟨rfl, hb⟩
    replace hE := hE.trans hb; replace hX61 := hX61.trans hb; have hs157 := hb.size; clear hb
    have hS158 := And.intro ((BoxAt.ext (hX57.trans hX61) bO49_0).1) (And.intro ((hX57.trans hX61).cell d0) (((hX57.trans hX61).cell d1)))
    refine ⟨_, rfl, hS158, ?_⟩
    refine wT 12 (.bool false) hR (fun w _ => by kernel_rfl) (hS158) ?_
    refine wT 13 (.bool false) hR (fun w _ => by kernel_rfl) (hS158) ?_
    refine wd_end hL hR hK (by kernel_rfl) ?_
    refine qw_then ?_; refine cC10 6 7 9 11 12 13 14 16 17 104 (fun L => ?_)
    refine cw_f (by kernel_rfl) ?_
    refine cw_skip ?_
    refine qw_then ?_; refine cw_seq ?_; refine cw_plain ?_; refine pT (.bool true) ?_; refine pl_nil ?_; refine qw_then ?_
    refine cw_t (by kernel_rfl) ?_
    refine cw_seq ?_; refine cw_plain ?_; refine pT (.int .i64 (((Prod.givenN ar (Prod.divide ar ps) i : Nat) : Int) : Int)) ?_
    refine pU (.int .i64 ((((Prod.givenN ar (Prod.divide ar ps) i) + 1 : Nat) : Int) : Int)) (ev_wrap (by kernel_rfl) (by omega) (by omega)) ?_
    refine pT (.int .i64 ((((Prod.givenN ar (Prod.divide ar ps) i) + 1 : Nat) : Int) : Int)) ?_; refine pl_nil ?_; refine qw_then ?_; refine cw_seq ?_; refine cw_plain ?_; refine pT (.int .i64 x.im) ?_; refine pT (.slice (some ⟨b135, o136, none⟩) k c) ?_; refine pT (.int .i64 (((j : Nat) : Int) : Int)) ?_
    refine pU (.pointer (some ⟨b135, o136 + j * 4, none⟩)) (ex_index (p := .slice (some ⟨b135, o136, none⟩) k c) (i := .int .i64 ((j : Nat) : Int)) rfl (by kernel_rfl) (by kernel_rfl) (ix28 (k := j) (by omega))) ?_
    refine pT (.pointer (some ⟨b135, o136 + j * 4, none⟩)) ?_
    have hY159 := hX17.trans hY146
    refine pU (.int .i64 p0.im) (ex_load rfl (by kernel_rfl) (ld3 (((hY159.trans hX61).cell hp141)))) ?_
    refine pU (.bool false) (ev_nne (show _ = Result.ok (Next.value (Value.bool ((x.im : Int) != (p0.im : Int)))) _ from by kernel_rfl) (by omega)) ?_
    refine pl_nil ?_; refine qw_then ?_; refine cC7 6 7 9 11 12 13 114 (fun L => ?_)
    refine cw_f (by kernel_rfl) ?_
    refine cw_skip ?_
    refine qw_block ?_
    refine qw_then ?_; refine cw_plain ?_; refine pT (.int .i64 (((i : Nat) : Int) : Int)) ?_
    refine pU (.int .i64 (((i + 1 : Nat) : Int) : Int)) (ev_wrap (by kernel_rfl) (by omega) (by omega)) ?_
    refine pT (.int .i64 (((i + 1 : Nat) : Int) : Int)) ?_; refine pl_nil ?_
    refine qw_round [6, 7, 9, 11, 12, 13] (ws' := [(6, .slice (some ⟨b135, o136, none⟩) k c), (7, .pointer (some ⟨O35, 0, none⟩)), (9, .pointer (some ⟨O49, 0, none⟩)), (11, .slice (some ⟨bc, 0, none⟩) ((Globe.cellsTo ar 24).length) kc), (12, .int .i64 ((((Prod.givenN ar (Prod.divide ar ps) i) + 1 : Nat) : Int) : Int)), (13, .int .i64 (((i + 1 : Nat) : Int) : Int))]) (by kernel_rfl) _ ?_ ⟨(i + 1), (by rw [Prod.givenN_n hcc hrest]), rfl, (T hs58 (T hs62 (T hs148 (T hs151 (T hs154 hs157))))), hE, (hX57.trans hX61), by omega⟩
    omega
 ·
  have hin : i = (Globe.cellsTo ar 24).length := by omega
  have hga := Prod.given_all (ar := ar) (ps := (Prod.divide ar ps)) (i := i) (by omega)
  refine cw_seq ?_; refine cw_seq ?_; refine cw_plain ?_; refine pT (.int .i64 (((i : Nat) : Int) : Int)) ?_; refine pT (.slice xc ((Globe.cellsTo ar 24).length) kc) ?_; refine pT (.int .i64 ((((Globe.cellsTo ar 24).length : Nat) : Int) : Int)) ?_
  refine pU (.bool false) (ev_ndec (show _ = Result.ok (Next.value (Value.bool (decide ((((i : Nat) : Int) : Int) < ((((Globe.cellsTo ar 24).length : Nat) : Int) : Int))))) _ from by kernel_rfl) (by omega)) ?_
  refine pl_nil ?_; refine qw_then ?_
  refine cw_f (by kernel_rfl) ?_
  refine cw_exit ?_
  refine qw_then_exit ?_
  refine qw_then_exit ?_
  refine qw_block_out ?_
  refine qw_then ?_; refine cw_seq ?_
  rcases Nat.eq_zero_or_pos (Globe.cellsTo (Prod.rest ar (Prod.divide ar ps)) 24).length with h0 | h0
  ·
   refine cw_plain ?_
   refine pU (.agg #[.int .i64 1, .int .i64 1, .slice (some ⟨b29, o30, none⟩) 24 k20, .slice a21 n22 c23]) (ex_load rfl (by kernel_rfl) (ld31 ((BoxAt.ext (hX41.trans hX57) bO35_0).1) ((BoxAt.ext (hX41.trans hX57) bO35_1).1) ((BoxAt.ext (hX41.trans hX57) bO35_2).1) ((BoxAt.ext (hX41.trans hX57) bO35_3).1))) ?_
   refine pS (sn_call (f := 17) (args := #[.agg #[.int .i64 1, .int .i64 1, .slice (some ⟨b29, o30, none⟩) 24 k20, .slice a21 n22 c23]]) (by kernel_rfl) ((Complete_r (r := true) (id := 1) (ver := 1) _ _ (by omega) (aa_q (hV31.aa)) (hX41.trans hX57) (hP26n.pcs) (hX41.trans hX57) (hT.ext hE) (by rw [hval, show Prod.noC (Prod.rest ar (Prod.divide ar ps)) = true from decide_eq_true h0]; rfl)).mono ?_))
   rintro e w160 ⟨rfl, hb⟩
   replace hE := hE.trans hb; replace hX57 := hX57.trans hb; have hs161 := hb.size; clear hb
   refine ⟨_, rfl, ?_⟩
   refine pT (.int .i64 (((Prod.givenN ar (Prod.divide ar ps) i : Nat) : Int) : Int)) ?_; refine pT (.slice xc ((Globe.cellsTo ar 24).length) kc) ?_; refine pT (.int .i64 ((((Globe.cellsTo ar 24).length : Nat) : Int) : Int)) ?_
   refine pU (.bool true) (ev_eq (show _ = Result.ok (Next.value (Value.bool ((((Prod.givenN ar (Prod.divide ar ps) i : Nat) : Int) : Int) == ((((Globe.cellsTo ar 24).length : Nat) : Int) : Int)))) _ from by kernel_rfl) (by omega)) ?_
   refine pT (.bool true) ?_; refine pT (.bool true) ?_
   refine pU (.agg #[.slice (some ⟨B42, o43, none⟩) 24 k44]) (ex_load rfl (by kernel_rfl) (ld26 ((BoxAt.ext hX57 bO49_0).1))) ?_
   refine pS (sn_call (f := 18) (args := #[.agg #[.slice (some ⟨B42, o43, none⟩) 24 k44]]) (by kernel_rfl) ((Count_v _ _ hv45 hX57 (hT.ext hE)).mono ?_))
   rintro e w162 ⟨rfl, hb⟩
   replace hE := hE.trans hb; replace hX57 := hX57.trans hb; have hs163 := hb.size; clear hb
   refine ⟨_, rfl, ?_⟩
   refine pT (.slice xc ((Globe.cellsTo ar 24).length) kc) ?_; refine pT (.int .i64 ((((Globe.cellsTo ar 24).length : Nat) : Int) : Int)) ?_; refine pT (.int .i64 (((Prod.givenN ar (Prod.divide ar ps) i : Nat) : Int) : Int)) ?_
   refine pU (.int .i64 (((((Globe.cellsTo ar 24).length : Nat) : Int)) - (((Prod.givenN ar (Prod.divide ar ps) i : Nat) : Int)) : Int)) (ev_wrap (by kernel_rfl) (by omega) (by omega)) ?_
   refine pU (.bool true) (ev_eq (show _ = Result.ok (Next.value (Value.bool (((((Globe.cellsTo (Prod.rest ar (Prod.divide ar ps)) 24).length : Nat) : Int) : Int) == (((((Globe.cellsTo ar 24).length : Nat) : Int)) - (((Prod.givenN ar (Prod.divide ar ps) i : Nat) : Int)) : Int)))) _ from by kernel_rfl) (by omega)) ?_
   refine pT (.bool true) ?_; refine pT (.bool true) ?_; refine pl_nil ?_; refine qw_then ?_; refine cC1 4 (fun L => ?_)
   refine cw_ret ?_
   refine qw_ret [.bool true] rfl ⟨(by kernel_rfl), trivial⟩ ?_
   exact ⟨rfl, hE⟩
  ·
   refine cw_plain ?_
   refine pU (.agg #[.int .i64 1, .int .i64 1, .slice (some ⟨b29, o30, none⟩) 24 k20, .slice a21 n22 c23]) (ex_load rfl (by kernel_rfl) (ld31 ((BoxAt.ext (hX41.trans hX57) bO35_0).1) ((BoxAt.ext (hX41.trans hX57) bO35_1).1) ((BoxAt.ext (hX41.trans hX57) bO35_2).1) ((BoxAt.ext (hX41.trans hX57) bO35_3).1))) ?_
   refine pS (sn_call (f := 17) (args := #[.agg #[.int .i64 1, .int .i64 1, .slice (some ⟨b29, o30, none⟩) 24 k20, .slice a21 n22 c23]]) (by kernel_rfl) ((Complete_r (r := false) (id := 1) (ver := 1) _ _ (by omega) (aa_q (hV31.aa)) (hX41.trans hX57) (hP26n.pcs) (hX41.trans hX57) (hT.ext hE) (by rw [hval, show Prod.noC (Prod.rest ar (Prod.divide ar ps)) = false from decide_eq_false (by omega)]; rfl)).mono ?_))
   rintro e w164 ⟨rfl, hb⟩
   replace hE := hE.trans hb; replace hX57 := hX57.trans hb; have hs165 := hb.size; clear hb
   refine ⟨_, rfl, ?_⟩
   refine pT (.int .i64 (((Prod.givenN ar (Prod.divide ar ps) i : Nat) : Int) : Int)) ?_; refine pT (.slice xc ((Globe.cellsTo ar 24).length) kc) ?_; refine pT (.int .i64 ((((Globe.cellsTo ar 24).length : Nat) : Int) : Int)) ?_
   refine pU (.bool false) (ev_neq (show _ = Result.ok (Next.value (Value.bool ((((Prod.givenN ar (Prod.divide ar ps) i : Nat) : Int) : Int) == ((((Globe.cellsTo ar 24).length : Nat) : Int) : Int)))) _ from by kernel_rfl) (by omega)) ?_
   refine pT (.bool true) ?_; refine pT (.bool true) ?_
   refine pU (.agg #[.slice (some ⟨B42, o43, none⟩) 24 k44]) (ex_load rfl (by kernel_rfl) (ld26 ((BoxAt.ext hX57 bO49_0).1))) ?_
   refine pS (sn_call (f := 18) (args := #[.agg #[.slice (some ⟨B42, o43, none⟩) 24 k44]]) (by kernel_rfl) ((Count_v _ _ hv45 hX57 (hT.ext hE)).mono ?_))
   rintro e w166 ⟨rfl, hb⟩
   replace hE := hE.trans hb; replace hX57 := hX57.trans hb; have hs167 := hb.size; clear hb
   refine ⟨_, rfl, ?_⟩
   refine pT (.slice xc ((Globe.cellsTo ar 24).length) kc) ?_; refine pT (.int .i64 ((((Globe.cellsTo ar 24).length : Nat) : Int) : Int)) ?_; refine pT (.int .i64 (((Prod.givenN ar (Prod.divide ar ps) i : Nat) : Int) : Int)) ?_
   refine pU (.int .i64 (((((Globe.cellsTo ar 24).length : Nat) : Int)) - (((Prod.givenN ar (Prod.divide ar ps) i : Nat) : Int)) : Int)) (ev_wrap (by kernel_rfl) (by omega) (by omega)) ?_
   refine pU (.bool true) (ev_eq (show _ = Result.ok (Next.value (Value.bool (((((Globe.cellsTo (Prod.rest ar (Prod.divide ar ps)) 24).length : Nat) : Int) : Int) == (((((Globe.cellsTo ar 24).length : Nat) : Int)) - (((Prod.givenN ar (Prod.divide ar ps) i : Nat) : Int)) : Int)))) _ from by kernel_rfl) (by omega)) ?_
   refine pT (.bool true) ?_; refine pT (.bool true) ?_; refine pl_nil ?_; refine qw_then ?_; refine cC1 4 (fun L => ?_)
   refine cw_ret ?_
   refine qw_ret [.bool true] rfl ⟨(by kernel_rfl), trivial⟩ ?_
   exact ⟨rfl, hE⟩

end Go.Proofs.YtajdohcgjgknmaaDoor

/- The statement ProductBest: for every input the law returns true, and every argument reads as it read before; the two tables of package math/bits that the row lists are tied to the program's text. -/
namespace Go.Proofs.YtajdohcgjgknmaaDoor
open Go.ChangeShapes Go.WideShapes Go.ChangeAt Go.RowKit

set_option maxRecDepth 100000 in
theorem ProductBest_lifted (os : Os) (started : os.Started) (H : Type) (enc : TypeId × Value → H) :
  ReturnsInHanded {} Tryd.checked os 3 .any (fun w args => (Rows.productBestSpec.pre enc Tryd.prog Tryd.f3 [] false w args ∧ laidMetH Tryd.prog laidTabs w) ∧ sizedMet enc Tryd.prog Tryd.f3 (OpenSpec.ofChange Rows.productBestSpec) false w args)
   (Rows.productBestSpec.post enc Tryd.prog Tryd.f3 false true false false) := by
 refine returnsInHanded_of_change_and (C := Tryd.checked) (X := fun w _ => laidMetH Tryd.prog laidTabs w) (fun _ _ _ hh h => h.of_heap hh) own started (by kernel_rfl) Tryd.func3
  (ChangeSpec.witness_shaped (enc := enc) (C := Tryd.checked) (os := os) (X := fun w _ => laidMetH Tryd.prog laidTabs w) false (World.doorLaid Tryd.prog 19 os) #[.slice none 0 0, .slice none 0 0] 8 rfl (World.shaped_of_RefB (by kernel_rfl) (by kernel_rfl)) (by kernel_rfl) (by kernel_rfl) (by kernel_rfl) (door_met os _)) ?_
 intro W base args ds gs before hval0 hW _ hsz hL _
 have hval : ∀ (j : Nat) t v, Tryd.f3.params[j]? = some t → args[j]? = some v → Value.okWide Tryd.prog W .any base t v := hval0
 have hW' := hW
 obtain ⟨p, q, hA0, hV, rfl, hfz, hnd⟩ := hW
 have hA : DataW.TrodAll enc Tryd.prog W 0 (fun _ => true) true Tryd.f3.params.toList args.toList ds p := hA0
 rw [Tryd.params3] at hA hval
 obtain ⟨v0, vs0, d0, ds0, p0, q0, hargs, rfl, rfl, h0, r0⟩ := trodAll_cons hA
 obtain ⟨v1, vs1, d1, ds1, p1, q1, rfl, rfl, rfl, h1, r1⟩ := trodAll_cons r0
 obtain ⟨rfl, rfl, rfl⟩ := trodAll_nil r1
 obtain rfl : args = #[v0, v1] := by cases args; simp_all
 obtain ⟨rfl, rfl⟩ := trodVars_none hV
 have k0 := h0
 have lt0 : ∀ x ∈ p0, x.block < W.heap.size := by obtain ⟨m, hm⟩ := k0; exact DataW.trod_lt m _ _ _ hm
 have op0 := open_quads (hval 0 _ v0 rfl rfl) h0
 have k1 := h1
 have lt1 : ∀ x ∈ p1, x.block < W.heap.size := by obtain ⟨m, hm⟩ := k1; exact DataW.trod_lt m _ _ _ hm
 have op1 := open_quads (hval 1 _ v1 rfl rfl) h1
 clear hA0 hval0
 refine (ProductBest_walk W v0 op0 v1 op1 (tab_of_laid hL)).mono fun e W' ⟨he, hE⟩ => ?_
 subst he
 have bel : Below W.heap.size W W' := hE
 exact ⟨_, rfl, _, _, _, [], _, [], hW', trodAll_mk1 (shut_bool Tryd.underlying4 _), (trodAll_cons_mk (Below.trod laidOut (by kernel_rfl) (of_decide_eq_true (by kernel_rfl)) k0 bel lt0) (trodAll_cons_mk (Below.trod laidOut (by kernel_rfl) (of_decide_eq_true (by kernel_rfl)) k1 bel lt1) trodAll_mk0)), rfl, bel.frame _, fun h => by cases h⟩

theorem ProductBest_over : Rows.ProductBestSaid :=
 OpenClaim.holds_of_wide 3 Tryd.f3 rfl rfl rfl rfl rfl rfl rfl ⟨rfl, rfl, rfl, rfl, rfl⟩ rfl rfl rfl rfl rfl (by kernel_rfl) Tryd.func3 (by kernel_rfl)
  (of_decide_eq_true (by kernel_rfl)) (by unfold Func.isWrapper; first | (rw [if_pos (by decide +kernel)]; kernel_rfl) | (rw [if_neg (by decide +kernel)]; exact ⟨rfl, rfl⟩))
  (fun os started H enc _ => ProductBest_lifted os started H enc)

/-- The tied card. -/
theorem ProductBest_holds : Rows.ProductBestCardSaid :=
 Claim7.holds_tied_plain_at .later [] [.data, .data] true (true, "8b5a7a53c537ff8737778701348fb3568628a2c5eeac7583eb34b5657efa7458") false
  ProductBest_over (fun _ h => by cases h) (by kernel_rfl) (fun _ h => by cases h) productBest_row_tie rfl ⟨rfl, rfl⟩ (by kernel_rfl) rfl
  (fun f fn hf hfn => by
   obtain rfl : f = 3 := Option.some.inj ((show Tryd.prog.funcNamed "nadir/nadirlaw31.ProductBest" = some 3 by kernel_rfl).symm.trans hf) |>.symm
   obtain rfl : fn = Tryd.f3 := (Option.some.inj (Tryd.func3.symm.trans hfn)).symm
   exact ⟨by kernel_rfl, fun j t ht => by
    rw [Tryd.params3] at ht
    have hm : t ∈ [22, 22] := by simpa using Array.mem_of_getElem? ht
    have hall : ([22, 22].all fun u => !Tryd.prog.wantsStandIn u) = true := by kernel_rfl
    exact (show Tryd.prog.wantsStandIn t = false by simpa using List.all_eq_true.1 hall t hm)⟩)
  (by kernel_rfl)
#print axioms ProductBest_holds
end Go.Proofs.YtajdohcgjgknmaaDoor
