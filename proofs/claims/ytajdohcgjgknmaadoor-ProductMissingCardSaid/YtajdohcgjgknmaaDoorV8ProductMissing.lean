/- The statement ProductMissing: for every input that the row lists, the law returns true, and every argument reads as it read before. -/
import Derived.Test.YtajdohcgjgknmaaDoorV7ProductMissing
import Derived.Deep.Slices
/- The opener: rows of four ints in memory. -/
namespace Go.Proofs.YtajdohcgjgknmaaDoor
open Go.ChangeShapes Go.WideShapes Go.ChangeAt Go.RowKit Go.Deep

section
variable {H : Type} {enc : TypeId × Value → H} {W : World}
/-- An array of ints (each one cell): what it reads. -/
theorem ints_of_array {spare : Nat → Bool} {held : Bool} {t : TypeId} {k fuel : Nat} {cs : List Value} {x : DataW H × List MemPlace} (ht : Tryd.prog.underlying t = some (.array k 3)) (h : DataW.trod enc Tryd.prog W 0 spare held fuel t cs = some x) (hc : cs.length = k) :
  ∃ q : Nat → Int, ∀ j, j < k → cs[j]? = some (.int .i64 (q j)) ∧ IsI (q j) := by
 obtain ⟨xs, m, rfl, hx, hlen, hxl, hg⟩ := DataW.trod_array ht h
 have hone : Tryd.prog.cellsOf 3 = 1 := by kernel_rfl
 have each : ∀ j, j < k → ∃ n : Int, cs[j]? = some (.int .i64 n) ∧ IsI n := fun j hj => by
  have h1 := hg j hj
  rw [hone, Nat.mul_one] at h1
  have hx : xs[j]? = some (xs[j]'(by omega)) := List.getElem?_eq_getElem (by omega)
  rw [hx] at h1
  obtain ⟨n, hn, _, hw⟩ := DataW.trod_int Tryd.underlying3 h1
  have hcj : cs[j]? = some (.int .i64 n) := by
   have e : ((cs.drop j).take 1)[0]? = some (.int .i64 n) := by rw [hn]; rfl
   rw [List.getElem?_take_of_lt (by omega), List.getElem?_drop, Nat.add_zero] at e
   exact e
  exact ⟨n, hcj, isI_of_wf hw⟩
 obtain ⟨q, hq⟩ := choose_lt each
 exact ⟨q, hq⟩

end


def Quads (w : World) (v : Value) : Prop := ∃ (a : Option Addr) (n c : Nat) (q : Nat → Nat → Int), v = .slice a n c ∧ n ≤ c ∧ c ≤ 9223372036854775807 ∧ (a = none → c = 0) ∧ QAt w a n q

section
variable {H : Type} {enc : TypeId × Value → H} {W : World}
set_option maxRecDepth 100000 in
theorem open_quads {b0 : Nat} {v : Value} {d : DataW H} {p : List MemPlace} (hval : Value.okWide Tryd.prog W .any b0 22 v) (h : DataW.Trod enc Tryd.prog W 0 (fun _ => true) true 22 v d p) : Quads W v := by
  obtain ⟨a, n, c, rfl⟩ := okWide_slice Tryd.underlying22 hval
  obtain ⟨fuel, hf⟩ := h
  rcases open_slice Tryd.underlying22 hf with ⟨hcs, _⟩ | ⟨a', len, cap, m, k, D, Pl, hcs, hb, hl, hm, hmm, _, hx⟩
  · simp [Value.cells] at hcs
    obtain ⟨rfl, rfl, rfl⟩ := hcs
    exact ⟨none, 0, 0, fun _ _ => 0, rfl, by omega, by omega, fun _ => rfl, .inl rfl⟩
  · simp [Value.cells] at hcs
    obtain ⟨rfl, rfl, rfl⟩ := hcs
    unfold maxLen at hm
    rcases Nat.eq_zero_or_pos n with h0 | h0
    · exact ⟨_, _, _, fun _ _ => 0, rfl, by omega, by omega, (fun e => by cases e), .inl h0⟩
    · have h4 : Tryd.prog.cellsOf 60 = 4 := by kernel_rfl
      rw [h4] at hx
      simp only [if_true] at hmm
      subst hmm
      have each : ∀ i, i < n → ∃ q : Nat → Int, ∀ j, j < 4 → W.cell? (a'.add (i * 4 + j)) = some (.int .i64 (q j)) ∧ IsI (q j) := fun i hi => by
        obtain ⟨cs', hc1, hc2⟩ := hx i (by omega)
        obtain ⟨_, hcl, hat⟩ := World.cells?_some hc1
        obtain ⟨q, hq⟩ := ints_of_array Tryd.underlying60 hc2 hcl
        refine ⟨q, fun j hj => ⟨?_, (hq j hj).2⟩⟩
        rw [← Go.Deep.add_add, hat j hj]
        exact (hq j hj).1
      obtain ⟨q, hq⟩ := choose_lt each
      obtain ⟨b, off, spot⟩ := a'
      have hspot : spot = none := by have := World.cell?_spot (hq 0 h0 0 (by omega)).1; simpa [Addr.add] using this
      subst hspot
      refine ⟨_, _, _, q, rfl, by omega, by omega, (fun e => by cases e), .inr ⟨b, off, rfl, fun i hi j hj => ?_⟩⟩
      have := hq i hi j hj
      rw [add_plain, ← Nat.add_assoc] at this
      exact this
end

end Go.Proofs.YtajdohcgjgknmaaDoor

/- What the laws of chapter 31 share: lists of pieces that are cut and joined. -/
namespace Go.Proofs.YtajdohcgjgknmaaDoor
open Go.RowKit
theorem PcsS.nowS {S : Nat → Prop} {w : World} {a : Option Addr} {n : Nat} {l : List Prod.Pc} (h : PcsS S w a n l) : PcsS (fun k => S k ∧ k < w.heap.size) w a n l := by
  obtain ⟨rs, h1, h2, h3, h4⟩ := h
  refine ⟨rs, h1, h2, fun q ad e => ⟨h3 q ad e, ?_⟩, fun x hx q ad e => ⟨h4 x hx q ad e, ?_⟩⟩
  · obtain ⟨g1, g2, g3⟩ := h1
    rcases g3 with g3 | ⟨b, o, e', hx⟩
    · omega
    · rw [e] at e'; cases e'
      exact World.block_lt_of_cell? _ _ (hx 0 _ (List.getElem?_eq_getElem (by omega))).1
  · obtain ⟨i, hi⟩ := List.getElem?_of_mem hx
    obtain ⟨p, hp, e1, e2, e3, e4⟩ := h2.at hi
    exact aa_lt e4 q ad e
theorem RawsAt.take {w : World} {a : Option Addr} {n : Nat} {rs : List RawPc} (h : RawsAt w a n rs) {k : Nat} (hk : k ≤ n) : RawsAt w a k (rs.take k) := by
  obtain ⟨h1, h2, h3⟩ := h
  refine ⟨by rw [List.length_take]; omega, by omega, ?_⟩
  rcases h3 with h3 | ⟨b, o, ha, hx⟩
  · exact .inl (by omega)
  · refine .inr ⟨b, o, ha, fun i x hi => hx i x ?_⟩
    rw [List.getElem?_take] at hi
    split at hi
    · exact hi
    · cases hi
theorem RawsAt.drop {w : World} {a : Option Addr} {n : Nat} {rs : List RawPc} (h : RawsAt w a n rs) {k c : Nat} (hk : k ≤ n) (hc : n ≤ c) : RawsAt w (if c = k then a else a.map (fun x => x.add (k * 4))) (n - k) (rs.drop k) := by
  obtain ⟨h1, h2, h3⟩ := h
  refine ⟨by rw [List.length_drop, h1], by omega, ?_⟩
  by_cases h0 : n = k
  · exact .inl (by omega)
  · rcases h3 with h3 | ⟨b, o, rfl, hx⟩
    · exact .inl (by omega)
    · rw [if_neg (by omega)]
      refine .inr ⟨b, o + k * 4, by rw [Option.map_some, Addr.add_mid], fun i x hi => ?_⟩
      rw [List.getElem?_drop] at hi
      have := hx (k + i) x hi
      rwa [show o + (k + i) * 4 = o + k * 4 + i * 4 by rw [Nat.add_mul]; omega] at this
theorem Reads.take {w : World} {rs : List RawPc} {l : List Prod.Pc} (h : Reads w rs l) (k : Nat) : Reads w (rs.take k) (l.take k) := by
  have e := h.len
  refine Reads.of_at (by rw [List.length_take, List.length_take, e]) fun i x p hx hp => ?_
  rw [List.getElem?_take] at hx hp
  split at hx
  · rename_i hi
    rw [if_pos hi] at hp
    obtain ⟨q, hq, hr⟩ := h.at hx
    rw [hp] at hq; cases hq; exact hr
  · cases hx
theorem Reads.drop {w : World} {rs : List RawPc} {l : List Prod.Pc} (h : Reads w rs l) (k : Nat) : Reads w (rs.drop k) (l.drop k) := by
 have e := h.len
 refine Reads.of_at (by rw [List.length_drop, List.length_drop, e]) fun i x p hx hp => ?_
 rw [List.getElem?_drop] at hx hp
 obtain ⟨q, hq, hr⟩ := h.at hx
 rw [hp] at hq; cases hq; exact hr
/-- A slice from k on. -/
theorem PcsAt.drop {w : World} {a : Option Addr} {n : Nat} {l : List Prod.Pc} (h : PcsAt w a n l) {k c : Nat} (hk : k ≤ n) (hc : n ≤ c) : PcsAt w (if c = k then a else a.map (fun x => x.add (k * 4))) (n - k) (l.drop k) := by
 obtain ⟨rs, h1, h2⟩ := h; exact ⟨_, h1.drop hk hc, h2.drop k⟩
end Go.Proofs.YtajdohcgjgknmaaDoor

/- The mathematics of dividing: going on from what is divided, who gives a cell, what is missing. -/
namespace Go.Proofs.YtajdohcgjgknmaaDoor
namespace Prod
open Globe
theorem okP_v {p : Pc} (h : okP p = true) : validL p.rw = true := (okP_t.1 h).2.2
/-- Cells within cells. -/
def Sub (a b : List Int) : Prop := ∀ u v, u < 48 → v < 24 → hasL a u v = true → hasL b u v = true
theorem divide_ok {ar : List Int} {l : List Pc} (ha : validL ar = true) (ho : ∀ p ∈ l, okP p = true) : ∀ p ∈ divide ar l, okP p = true := by
  have key : ∀ {s : List Pc} {r : List Int}, validL r = true → (∀ p ∈ s, okP p = true) → ∀ y ∈ divF r s, okP y = true := by
    intro s
    induction s with
    | nil => intro r _ _ y hy; cases hy
    | cons x s ih =>
      intro r hr hs y hy
      rw [divF] at hy
      rcases List.mem_append.1 hy with hy | hy
      · split at hy
        · cases hy
        · rw [List.mem_singleton.1 hy]; exact own_valid hr (hs x (by simp))
      · exact ih (less_valid hr) (fun p hp => hs p (by simp [hp])) y hy
  exact fun p hp => key ha (sortD_ok ho) p (List.mem_reverse.1 hp)
/-! Who gives a cell. -/
theorem has_divF : ∀ {s : List Pc} {r : List Int} {u v : Nat}, u < 48 → v < 24 → validL r = true → ((∃ y ∈ divF r s, hasL y.rw u v = true) ↔ hasL r u v = true ∧ ∃ p ∈ s, hasL p.rw u v = true)
  | [], _, _, _, _, _, _ => ⟨(fun ⟨y, hy, _⟩ => by cases hy), fun ⟨_, p, hp, _⟩ => by cases hp⟩
  | z :: s, r, u, v, hu, hv, h => by
    have ih := has_divF (s := s) hu hv (less_valid (b := z.rw) h)
    constructor
    · rintro ⟨y, hy, hh⟩
      obtain ⟨p, hp, _, _, _, h4⟩ := mem_divF hy
      exact ⟨(h4 u v hv hh).2, p, hp, (h4 u v hv hh).1⟩
    · rintro ⟨hr, p, hp, hh⟩
      rw [divF]
      cases hz : hasL z.rw u v
      · rcases List.mem_cons.1 hp with rfl | hp
        · rw [hh] at hz; cases hz
        · obtain ⟨y, hy, k⟩ := ih.2 ⟨by rw [has_less hv, hr, hz]; rfl, p, hp, hh⟩
          exact ⟨y, by simp [hy], k⟩
      · have hm : hasL (meetL r z.rw) u v = true := by rw [has_meet hv, hr, hz]; rfl
        have hq : noC (meetL r z.rw) = false := (noC_false (meet_valid h)).2 ⟨u, v, hu, hv, hm⟩
        exact ⟨own r z, by rw [hq]; simp, hm⟩
theorem has_divide {ar : List Int} {l : List Pc} {u v : Nat} (hu : u < 48) (hv : v < 24) (ha : validL ar = true) : (∃ y ∈ divide ar l, hasL y.rw u v = true) ↔ hasL ar u v = true ∧ ∃ p ∈ l, hasL p.rw u v = true := by
  have := has_divF (s := sortD l) (r := ar) hu hv ha
  unfold divide
  constructor
  · rintro ⟨y, hy, hh⟩
    obtain ⟨h1, p, hp, h2⟩ := this.1 ⟨y, List.mem_reverse.1 hy, hh⟩
    exact ⟨h1, p, (sortD_perm l).mem_iff.1 hp, h2⟩
  · rintro ⟨h1, p, hp, h2⟩
    obtain ⟨y, hy, hh⟩ := this.2 ⟨h1, p, (sortD_perm l).mem_iff.2 hp, h2⟩
    exact ⟨y, List.mem_reverse.2 hy, hh⟩
/-! What is missing. -/
theorem has_rest_div {ar : List Int} {l : List Pc} {u v : Nat} (hu : u < 48) (hv : v < 24) (ha : validL ar = true) : hasL (rest ar (divide ar l)) u v = (hasL ar u v && l.all fun p => !hasL p.rw u v) := by
  rw [has_rest hv]
  cases hr : hasL ar u v
  · rfl
  · rw [Bool.true_and, Bool.true_and, Bool.eq_iff_iff, List.all_eq_true, List.all_eq_true]
    constructor
    · intro h p hp
      cases hh : hasL p.rw u v
      · rfl
      · obtain ⟨y, hy, k⟩ := (has_divide hu hv ha).2 ⟨hr, p, hp, hh⟩
        have := h y hy; rw [k] at this; cases this
    · intro h y hy
      cases hh : hasL y.rw u v
      · rfl
      · obtain ⟨_, p, hp, k⟩ := (has_divide (l := l) hu hv ha).1 ⟨y, hy, hh⟩
        have := h p hp; rw [k] at this; cases this
/-! Going on, one piece after the other. -/
theorem take_snoc {T : List Pc} {j : Nat} {x : Pc} (h : T[j]? = some x) : T.take (j + 1) = T.take j ++ [x] := by rw [List.take_add_one, h]; rfl
theorem good_take {T : List Pc} (h : goodL T = true) (j : Nat) : goodL (T.take j) = true := goodL_of (fun p hp => goodL_ok h p (List.mem_of_mem_take hp)) ((goodL_dist h).sublist (List.take_sublist j T))
end Prod
end Go.Proofs.YtajdohcgjgknmaaDoor

/- The mathematics of the law ProductMissing: what is missing and what pieces give are the area, no cell twice. -/
namespace Go.Proofs.YtajdohcgjgknmaaDoor
namespace Prod
open Globe
/-- Areas joined, one after the other. -/
def uTo (r : List Int) (ps : List Pc) (j : Nat) : List Int := (ps.take j).foldl (fun a p => unionL a p.rw) r
theorem uTo_succ {r : List Int} {ps : List Pc} {j : Nat} {p : Pc} (hp : ps[j]? = some p) : uTo r ps (j + 1) = unionL (uTo r ps j) p.rw := by
 unfold uTo; rw [take_snoc hp, List.foldl_append]; rfl
theorem fold_has {v : Nat} (hv : v < 24) (u : Nat) : ∀ (ps : List Pc) (r : List Int), hasL (ps.foldl (fun a p => unionL a p.rw) r) u v = (hasL r u v || ps.any fun p => hasL p.rw u v)
 | [], r => by simp
 | p :: ps, r => by rw [List.foldl_cons, fold_has hv u ps, has_union hv, List.any_cons, Bool.or_assoc]
theorem uTo_valid {r : List Int} {ps : List Pc} (hr : validL r = true) (ho : ∀ p ∈ ps, okP p = true) : ∀ j, validL (uTo r ps j) = true := by
 have key : ∀ (ps : List Pc) (r : List Int), validL r = true → (∀ p ∈ ps, okP p = true) → validL (ps.foldl (fun a p => unionL a p.rw) r) = true := by
  intro ps
  induction ps with
  | nil => intro r hr _; exact hr
  | cons p ps ih => intro r hr ho; exact ih _ (union_valid hr (okP_v (ho p (by simp)))) fun q hq => ho q (by simp [hq])
 exact fun j => key _ r hr fun p hp => ho p (List.mem_of_mem_take hp)
def Apart (a b : Pc) : Prop := ∀ u v, v < 24 → hasL a.rw u v = true → hasL b.rw u v = false
theorem Apart.symm {a b : Pc} (h : Apart a b) : Apart b a := fun u v hv hb => by
 cases ha : hasL a.rw u v
 · rfl
 · rw [h u v hv ha] at hb; cases hb
theorem divF_apart : ∀ {s : List Pc} {r : List Int}, (divF r s).Pairwise Apart
  | [], _ => List.Pairwise.nil
  | z :: s, r => by
    rw [divF]
    split
    · exact divF_apart
    · refine List.pairwise_cons.2 ⟨fun y hy u v hv hh => ?_, divF_apart⟩
      have hh' : hasL (meetL r z.rw) u v = true := hh
      rw [has_meet hv, Bool.and_eq_true] at hh'
      cases hy' : hasL y.rw u v
      · rfl
      · obtain ⟨p, _, _, _, _, h4⟩ := mem_divF hy
        have := (h4 u v hv hy').2
        rw [has_less hv, hh'.2] at this; simp at this
theorem divide_apart (ar : List Int) (l : List Pc) : (divide ar l).Pairwise Apart := by
 unfold divide
 rw [List.pairwise_reverse]
 exact divF_apart.imp fun h => h.symm
/-- A piece has no cell of what is missing, nor of the pieces before it. -/
theorem uTo_count {ar : List Int} {l : List Pc} {j : Nat} {p : Pc} (ha : validL ar = true) (ho : ∀ p ∈ l, okP p = true) (hp : (divide ar l)[j]? = some p) : (cellsTo (uTo (rest ar (divide ar l)) (divide ar l) (j + 1)) 24).length = (cellsTo (uTo (rest ar (divide ar l)) (divide ar l) j) 24).length + (cellsTo p.rw 24).length := by
  rw [uTo_succ hp, ← count_union]
  have hR : validL (rest ar (divide ar l)) = true := rest_valid _ ha
  have hz : (cellsTo (meetL (uTo (rest ar (divide ar l)) (divide ar l) j) p.rw) 24).length = 0 := by
    rw [zero_iff (meet_valid (uTo_valid hR (divide_ok ha ho) j))]
    intro u v hu hv
    rw [has_meet hv]
    cases hh : hasL p.rw u v
    · rw [Bool.and_false]
    · rw [Bool.and_true]
      unfold uTo
      rw [fold_has hv, Bool.or_eq_false_iff]
      have hpm := List.mem_of_getElem? hp
      constructor
      · rw [has_rest hv]
        cases hq : ((divide ar l).all fun p => !hasL p.rw u v)
        · rw [Bool.and_false]
        · have := List.all_eq_true.1 hq p hpm; rw [hh] at this; cases this
      · rw [List.any_eq_false]
        intro q hq
        obtain ⟨i, hi⟩ := List.getElem?_of_mem hq
        rw [List.getElem?_take] at hi
        split at hi
        · rename_i hij
          obtain ⟨h1, e1⟩ := List.getElem?_eq_some_iff.1 hi
          obtain ⟨h2, e2⟩ := List.getElem?_eq_some_iff.1 hp
          have := List.pairwise_iff_getElem.1 (divide_apart ar l) i j h1 h2 hij
          rw [e1, e2] at this
          rw [this.symm u v hv hh]; simp
        · cases hi
  omega
theorem uTo_all {ar : List Int} {l : List Pc} {j : Nat} (ha : validL ar = true) (ho : ∀ p ∈ l, okP p = true) (hj : (divide ar l).length ≤ j) : uTo (rest ar (divide ar l)) (divide ar l) j = ar := by
  refine ext_has (uTo_valid (rest_valid _ ha) (divide_ok ha ho) j) ha fun u v hu hv => ?_
  unfold uTo
  rw [fold_has hv, List.take_of_length_le hj, has_rest hv, Bool.eq_iff_iff]
  constructor
  · intro h
    rcases Bool.or_eq_true_iff.1 h with h | h
    · exact (Bool.and_eq_true_iff.1 h).1
    · obtain ⟨y, hy, hh⟩ := List.any_eq_true.1 h
      exact ((has_divide hu hv ha).1 ⟨y, hy, hh⟩).1
  · intro h
    rw [h, Bool.true_and]
    cases hq : ((divide ar l).any fun p => hasL p.rw u v)
    · rw [Bool.or_false, List.all_eq_true]
      intro p hp
      rw [List.any_eq_false] at hq
      simpa using hq p hp
    · rw [Bool.or_true]
theorem rest_more {ar : List Int} {l : List Pc} {i j : Nat} (ha : validL ar = true) (hij : i ≤ j) : Sub (rest ar (divide ar (l.take j))) (rest ar (divide ar (l.take i))) := fun u v hu hv h => by
 rw [has_rest_div hu hv ha, Bool.and_eq_true, List.all_eq_true] at h ⊢
 exact ⟨h.1, fun p hp => h.2 p ((List.take_sublist_take_left hij).subset hp)⟩
theorem rest_sub (ar : List Int) (ps : List Pc) : Sub (rest ar ps) ar := fun u v hu hv h => by
 rw [has_rest hv, Bool.and_eq_true] at h; exact h.1
theorem contains_sub {a b : List Int} (ha : validL a = true) (hb : validL b = true) (h : Sub b a) : containsB a b = true := (contains_iff ha hb).2 h
end Prod
end Go.Proofs.YtajdohcgjgknmaaDoor

/- The mathematics of the law ProductBest: the best piece of a list; how many cells are given. -/
namespace Go.Proofs.YtajdohcgjgknmaaDoor
namespace Prod
open Globe
/-- The best of the first k pieces that have a cell: its index, or -1. -/
def BestI (l : List Pc) (u v k : Nat) (b : Int) : Prop :=
 (b = -1 ∧ ∀ p ∈ l.take k, hasL p.rw u v = false) ∨ ∃ (j : Nat) (p : Pc), b = (j : Int) ∧ j < k ∧ l[j]? = some p ∧ hasL p.rw u v = true ∧ ∀ q ∈ l.take k, hasL q.rw u v = true → better q p = false
theorem BestI.zero (l : List Pc) (u v : Nat) : BestI l u v 0 (-1) := .inl ⟨rfl, fun p hp => by simp at hp⟩
theorem mem_snoc {l : List Pc} {k : Nat} {x q : Pc} (hx : l[k]? = some x) (hq : q ∈ l.take (k + 1)) : q ∈ l.take k ∨ q = x := by
 rw [take_snoc hx] at hq
 rcases List.mem_append.1 hq with h | h
 · exact .inl h
 · exact .inr (List.mem_singleton.1 h)
theorem BestI.skip {l : List Pc} {u v k : Nat} {b : Int} {x : Pc} (h : BestI l u v k b) (hx : l[k]? = some x) (hn : hasL x.rw u v = false) : BestI l u v (k + 1) b := by
  rcases h with ⟨h1, h2⟩ | ⟨j, p, h1, h2, h3, h4, h5⟩
  · refine .inl ⟨h1, fun q hq => ?_⟩
    rcases mem_snoc hx hq with hq | rfl
    · exact h2 q hq
    · exact hn
  · refine .inr ⟨j, p, h1, by omega, h3, h4, fun q hq hh => ?_⟩
    rcases mem_snoc hx hq with hq | rfl
    · exact h5 q hq hh
    · rw [hn] at hh; cases hh
theorem BestI.first {l : List Pc} {u v k : Nat} {x : Pc} (hno : ∀ p ∈ l.take k, hasL p.rw u v = false) (hx : l[k]? = some x) (hn : hasL x.rw u v = true) : BestI l u v (k + 1) (k : Int) := by
 refine .inr ⟨k, x, rfl, by omega, hx, hn, fun q hq hh => ?_⟩
 rcases mem_snoc hx hq with hq | rfl
 · rw [hno q hq] at hh; cases hh
 · exact better_irrefl _
theorem BestI.take {l : List Pc} {u v k : Nat} {p x : Pc} (h5 : ∀ q ∈ l.take k, hasL q.rw u v = true → better q p = false) (hx : l[k]? = some x) (hn : hasL x.rw u v = true) (hb : better x p = true) : BestI l u v (k + 1) (k : Int) := by
  refine .inr ⟨k, x, rfl, by omega, hx, hn, fun q hq hh => ?_⟩
  rcases mem_snoc hx hq with hq | rfl
  · cases hqx : better q x
    · rfl
    · have := better_trans hqx hb
      rw [h5 q hq hh] at this; cases this
  · exact better_irrefl _
theorem BestI.keep {l : List Pc} {u v k j : Nat} {p x : Pc} (h2 : j < k) (h3 : l[j]? = some p) (h4 : hasL p.rw u v = true) (h5 : ∀ q ∈ l.take k, hasL q.rw u v = true → better q p = false) (hx : l[k]? = some x) (hb : better x p = false) : BestI l u v (k + 1) (j : Int) := by
 refine .inr ⟨j, p, rfl, by omega, h3, h4, fun q hq hh => ?_⟩
 rcases mem_snoc hx hq with hq | rfl
 · exact h5 q hq hh
 · exact hb
end Prod
theorem PcsAt.at2 {w : World} {b o n : Nat} {l : List Prod.Pc} (h : PcsAt w (some ⟨b, o, none⟩) n l) {i : Nat} {p : Prod.Pc} (hi : l[i]? = some p) :
  ∃ (ar : Option Addr) (k c : Nat), w.cell? ⟨b, o + i * 4, none⟩ = some (.int .i64 p.im) ∧ w.cell? ⟨b, o + i * 4 + 1, none⟩ = some (.int .i64 p.t) ∧ w.cell? ⟨b, o + i * 4 + 2, none⟩ = some (.bool p.cl) ∧
   w.cell? ⟨b, o + i * 4 + 3, none⟩ = some (.slice ar k c) ∧ AA w ar p.rw k (Globe.validL p.rw) := by
 obtain ⟨b', o', q, ar, k, c, e, hq, h1⟩ := h.at (i := i) (by rw [← h.len]; exact (List.getElem?_eq_some_iff.1 hi).1)
 cases e
 rw [hi] at hq; cases hq
 exact ⟨ar, k, c, h1⟩
end Go.Proofs.YtajdohcgjgknmaaDoor

/- Contract of package product: Missing, whose answer is new. -/
namespace Go.Proofs.YtajdohcgjgknmaaDoor
open Go.RowKit

set_option maxRecDepth 1000000 in
set_option maxHeartbeats 4000000 in
theorem Missing_f {w1 w2 : World} {id ver : Int} {ar : List Int} {ps : List Prod.Pc} {a1 a : Option Addr} {n1 n : Nat} (c1 : Nat) {c : Nat} (w : World) (hnc : n ≤ c) (hA : AA w1 a1 ar n1 (Globe.validL ar)) (e1 : Ext w1 w) (hP : PcsAt w2 a n ps) (e2 : Ext w2 w) (hT : Tab w) (hv : Prod.validP id ver ar ps = true) : Calls Tryd.prog 12 #[.agg #[.int .i64 id, .int .i64 ver, .slice a1 n1 c1, .slice a n c]] w fun e w' => ∃ B o k : Nat, e = .returned (.tuple #[.agg #[.slice (some ⟨B, o, none⟩) 24 k], .int .i64 0]) ∧ VA w' B o (Prod.rest ar ps) ∧ w.heap.size ≤ B ∧ Ext w w' := by
 replace hA := hA.ext e1; replace hP := hP.ext e2; have hnb := hP.max; have hln := hP.len; clear e1 e2
 have hok := Prod.validP_pcs hv; have hva := Prod.validP_ar hv
 obtain ⟨b1, o2, rfl, rfl, hV3⟩ := va_of hA hva
 have lt4 := hV3.lt
 refine calls_cw 18 [(0, .agg #[.int .i64 id, .int .i64 ver, .slice (some ⟨b1, o2, none⟩) 24 c1, .slice a n c])] Tryd.func12 rfl Tryd.ntmps12 (by kernel_rfl) (by kernel_rfl) (fun L => ?_)
 have hE : Ext w w := Ext.refl w
 refine cw_seq ?_; refine cw_plain ?_
 refine pS (sn_new (us := #[.int .i64 id, .int .i64 ver, .slice (some ⟨b1, o2, none⟩) 24 c1, .slice a n c]) (t := 31) (by kernel_rfl) ?_)
 intro O5 X6 hzO5 hyO5 hb hbx; have ⟨bO5_0, bO5_1, bO5_2, bO5_3⟩ := bx4 hbx; clear hbx
 replace hE := hE.trans hb; have hs7 := hb.size; clear hb; have lt8 := bO5_0.lt
 refine pS (sn_new (us := #[.slice none 0 0]) (t := 26) (by kernel_rfl) ?_)
 intro O9 X10 hzO9 hyO9 hb hbx; have bO9_0 := bx1 hbx; clear hbx
 replace hE := hE.trans hb; replace bO5_0 := BoxAt.ext hb bO5_0; replace bO5_1 := BoxAt.ext hb bO5_1; replace bO5_2 := BoxAt.ext hb bO5_2; replace bO5_3 := BoxAt.ext hb bO5_3; have hs11 := hb.size; clear hb; have lt12 := bO9_0.lt; refine pT (.int .i64 0) ?_; refine pl_nil ?_; refine qw_then ?_; refine cw_seq ?_; refine cw_seq ?_; refine cw_plain ?_
 refine pU (.agg #[.int .i64 id, .int .i64 ver, .slice (some ⟨b1, o2, none⟩) 24 c1, .slice a n c]) (ex_load rfl (by kernel_rfl) (ld31 (bO5_0.1) (bO5_1.1) (bO5_2.1) (bO5_3.1))) ?_
 refine pS (sn_call (f := 28) (args := #[.agg #[.int .i64 id, .int .i64 ver, .slice (some ⟨b1, o2, none⟩) 24 c1, .slice a n c]]) (by kernel_rfl) ((pValid_r (id := id) (ver := ver) (r := true) _ _ (by omega) (aa_q (hV3.aa)) hE (hP) hE (hT.ext hE) hv).mono ?_))
 rintro e w13 ⟨rfl, hb⟩
 replace hE := hE.trans hb; replace bO5_0 := BoxAt.ext hb bO5_0; replace bO5_1 := BoxAt.ext hb bO5_1; replace bO5_2 := BoxAt.ext hb bO5_2; replace bO5_3 := BoxAt.ext hb bO5_3; replace bO9_0 := BoxAt.ext hb bO9_0; have hs14 := hb.size; clear hb
 refine ⟨_, rfl, ?_⟩
 refine pT (.bool false) ?_; refine pl_nil ?_; refine qw_then ?_
 refine cw_f (by kernel_rfl) ?_
 refine cw_skip ?_
 refine qw_then ?_; refine cw_seq ?_; refine cw_plain ?_; refine pT (.pointer (some ⟨O5, 2, none⟩)) ?_; refine pT (.pointer (some ⟨O5, 2, none⟩)) ?_
 refine pU (.slice (some ⟨b1, o2, none⟩) 24 c1) (ex_load rfl (by kernel_rfl) (ld24 (bO5_2.1))) ?_
 refine pS (sn_call (f := 36) (args := #[.slice (some ⟨b1, o2, none⟩) 24 c1]) (by kernel_rfl) ((Clone_v _ _ hV3 hE).mono ?_))
 rintro e w19 ⟨B15, k16, rfl, hn17, hr18, hb⟩
 replace hE := hE.trans hb; replace bO5_0 := BoxAt.ext hb bO5_0; replace bO5_1 := BoxAt.ext hb bO5_1; replace bO5_2 := BoxAt.ext hb bO5_2; replace bO5_3 := BoxAt.ext hb bO5_3; replace bO9_0 := BoxAt.ext hb bO9_0; have hs20 := hb.size; clear hb
 have hr18v := hr18.va hV3.2
 have lt21 := hr18v.lt
 refine ⟨_, rfl, ?_⟩
 refine pT (.agg #[.slice (some ⟨B15, 0, none⟩) 24 k16]) ?_
 refine pS (sn_new (us := #[.slice none 0 0]) (t := 26) (by kernel_rfl) ?_)
 intro O22 X23 hzO22 hyO22 hb hbx; have bO22_0 := bx1 hbx; clear hbx
 replace hE := hE.trans hb; replace bO5_0 := BoxAt.ext hb bO5_0; replace bO5_1 := BoxAt.ext hb bO5_1; replace bO5_2 := BoxAt.ext hb bO5_2; replace bO5_3 := BoxAt.ext hb bO5_3; replace bO9_0 := BoxAt.ext hb bO9_0; replace hr18v := hr18v.ext hb; have hs24 := hb.size; clear hb; have lt25 := bO22_0.lt
 refine pP (sn_set (O := O22) (j := 0) (v := .slice (some ⟨B15, 0, none⟩) 24 k16) (ex_store (p := .pointer (some ⟨O22, 0, none⟩)) (v := .agg #[.slice (some ⟨B15, 0, none⟩) 24 k16]) rfl (by kernel_rfl) (by kernel_rfl) (st26 bO22_0.1 bO22_0.2)) bO22_0 ?_)
 intro X26 ho hv0 hk; replace hE := ho.ext hE (T (T hs7 (T hs11 (T hs14 hs20))) (Nat.le_of_eq hzO22))
 have q9 := fun (j : Nat) (v : Value) (h : BoxAt _ O5 j v) => ho.box (Nat.ne_of_gt (Nat.lt_of_lt_of_le lt8 (T (T hs11 (T hs14 hs20)) (Nat.le_of_eq hzO22)))) h
 replace bO5_0 := q9 _ _ bO5_0; replace bO5_1 := q9 _ _ bO5_1; replace bO5_2 := q9 _ _ bO5_2; replace bO5_3 := q9 _ _ bO5_3; clear q9; replace bO9_0 := ho.box (Nat.ne_of_gt (Nat.lt_of_lt_of_le lt12 (T (T hs14 hs20) (Nat.le_of_eq hzO22)))) bO9_0; replace hr18v := ho.va (Nat.ne_of_gt (Nat.lt_of_lt_of_le lt21 (Nat.le_of_eq hzO22))) hr18v; have hs27 : X23.heap.size ≤ X26.heap.size := Nat.le_of_eq ho.size.symm; clear ho hk bO22_0; have bO22_0 := hv0; clear hv0; refine pl_nil ?_; refine qw_then ?_; refine cw_seq ?_; refine cw_plain ?_; refine pT (.pointer (some ⟨O5, 3, none⟩)) ?_
 refine pU (.slice a n c) (ex_load rfl (by kernel_rfl) (ld28 (bO5_3.1))) ?_
 refine pU (.agg #[.slice (some ⟨B15, 0, none⟩) 24 k16]) (ex_load rfl (by kernel_rfl) (ld26 (bO22_0.1))) ?_
 refine pS (sn_call (f := 37) (args := #[.slice a n c, .agg #[.slice (some ⟨B15, 0, none⟩) 24 k16], .func (.func 38) #[] #[]]) (by kernel_rfl) ((foldM_v _ _ _ (hP) hE hr18v (Ext.refl _) hok).mono ?_))
 rintro e w33 ⟨B28, o29, k30, rfl, hv31, hor32, hb⟩
 replace hE := hE.trans hb; replace bO5_0 := BoxAt.ext hb bO5_0; replace bO5_1 := BoxAt.ext hb bO5_1; replace bO5_2 := BoxAt.ext hb bO5_2; replace bO5_3 := BoxAt.ext hb bO5_3; replace bO9_0 := BoxAt.ext hb bO9_0; replace hr18v := hr18v.ext hb; replace bO22_0 := BoxAt.ext hb bO22_0; have hs34 := hb.size; clear hb; have lt35 := hv31.lt
 refine ⟨_, rfl, ?_⟩
 refine pP (sn_set (O := O9) (j := 0) (v := .slice (some ⟨B28, o29, none⟩) 24 k30) (ex_store (p := .pointer (some ⟨O9, 0, none⟩)) (v := .agg #[.slice (some ⟨B28, o29, none⟩) 24 k30]) rfl (by kernel_rfl) (by kernel_rfl) (st26 bO9_0.1 bO9_0.2)) bO9_0 ?_)
 intro X36 ho hv0 hk; replace hE := ho.ext hE (T hs7 (Nat.le_of_eq hzO9))
 have q9 := fun (j : Nat) (v : Value) (h : BoxAt _ O5 j v) => ho.box (Nat.ne_of_gt (Nat.lt_of_lt_of_le lt8 (Nat.le_of_eq hzO9))) h
 replace bO5_0 := q9 _ _ bO5_0; replace bO5_1 := q9 _ _ bO5_1; replace bO5_2 := q9 _ _ bO5_2; replace bO5_3 := q9 _ _ bO5_3; clear q9; replace hr18v := ho.va (Nat.ne_of_lt (Nat.lt_of_lt_of_le lt12 (T hs14 hn17))) hr18v; replace bO22_0 := ho.box (Nat.ne_of_lt (Nat.lt_of_lt_of_le lt12 (T (T hs14 hs20) (Nat.le_of_eq hzO22)))) bO22_0; replace hv31 := ho.va (Nat.ne_of_lt (Nat.lt_of_lt_of_le lt12 (T hs14 (hor32.elim (fun e => e.symm ▸ hn17) (fun h => T (T hs20 (T hs24 hs27)) h))))) hv31; have hs37 : w33.heap.size ≤ X36.heap.size := Nat.le_of_eq ho.size.symm; clear ho hk bO9_0; have bO9_0 := hv0; clear hv0; refine pT (.int .i64 0) ?_; refine pl_nil ?_; refine qw_then ?_; refine cC2 2 3 (fun L => ?_)
 refine cw_ret ?_
 refine qw_ret [.agg #[.slice (some ⟨B28, o29, none⟩) 24 k30], .int .i64 0] rfl ⟨⟨_, by kernel_rfl, res_ld (ld26 (bO9_0.1))⟩, (by kernel_rfl), trivial⟩ ?_
 exact ⟨_, _, _, rfl, hv31, (T (T hs7 (T hs11 hs14)) (hor32.elim (fun e => e.symm ▸ hn17) (fun h => T (T hs20 (T hs24 hs27)) h))), hE⟩

end Go.Proofs.YtajdohcgjgknmaaDoor

/- The walk of the law ProductMissing. -/
namespace Go.Proofs.YtajdohcgjgknmaaDoor
open Go.RowKit Go.Shelf

set_option maxRecDepth 1000000 in
set_option maxHeartbeats 4000000 in
theorem ProductMissing_walk (w : World) (v0 : Value) (o0 : Quads w v0) (v1 : Value) (o1 : Quads w v1) (hT : Tab w) :
  Calls Tryd.prog 7 #[v0, v1] w fun e w' => e = .returned (.bool true) ∧ Ext w w' := by
 obtain ⟨a0, n0, c0, q0, rfl, hnc0, hcm0, hz0, Q0⟩ := o0
 obtain ⟨a1, n1, c1, q1, rfl, hnc1, hcm1, hz1, Q1⟩ := o1
 refine calls_cw 107 [(1, .slice a1 n1 c1), (0, .slice a0 n0 c0)] Tryd.func7 rfl Tryd.ntmps7 (by kernel_rfl) (by kernel_rfl) (fun L => ?_)
 have hE : Ext w w := Ext.refl w
 refine cw_seq ?_; refine cw_plain ?_; refine pT (.bool false) ?_; refine pl_nil ?_; refine qw_then ?_; refine cw_seq ?_; refine cw_seq ?_; refine cw_plain ?_
 refine pS (sn_call (f := 8) (args := #[]) (by kernel_rfl) ((sane_c _ (hT.ext (Ext.refl _))).mono ?_))
 rintro e w1 ⟨rfl, hb⟩
 replace hE := hE.trans hb; have hs2 := hb.size; clear hb
 refine ⟨_, rfl, ?_⟩
 refine pT (.bool false) ?_; refine pl_nil ?_; refine qw_then ?_
 refine cw_f (by kernel_rfl) ?_
 refine cw_skip ?_
 refine qw_then ?_; refine cw_seq ?_; refine cw_plain ?_; refine pT (.slice a0 n0 c0) ?_
 refine pS (sn_call (f := 9) (args := #[.slice a0 n0 c0]) (by kernel_rfl) ((Area_c _ _ Q0 hE (by omega)).mono ?_))
 rintro e w6 ⟨B3, ar, rfl, hn4, hva, hr5, hb⟩
 replace hE := hE.trans hb; have hs7 := hb.size; clear hb
 have hr5v := hr5.va hva
 have lt8 := hr5v.lt
 refine ⟨_, rfl, ?_⟩
 refine pS (sn_new (us := #[.slice none 0 0]) (t := 26) (by kernel_rfl) ?_)
 intro O9 X10 hzO9 hyO9 hb hbx; have bO9_0 := bx1 hbx; clear hbx
 replace hE := hE.trans hb; replace hr5v := hr5v.ext hb; have hs11 := hb.size; clear hb; have lt12 := bO9_0.lt
 refine pP (sn_set (O := O9) (j := 0) (v := .slice (some ⟨B3, 0, none⟩) 24 24) (ex_store (p := .pointer (some ⟨O9, 0, none⟩)) (v := .agg #[.slice (some ⟨B3, 0, none⟩) 24 24]) rfl (by kernel_rfl) (by kernel_rfl) (st26 bO9_0.1 bO9_0.2)) bO9_0 ?_)
 intro X13 ho hv0 hk; replace hE := ho.ext hE (T (T hs2 hs7) (Nat.le_of_eq hzO9)); replace hr5v := ho.va (Nat.ne_of_gt (Nat.lt_of_lt_of_le lt8 (Nat.le_of_eq hzO9))) hr5v; have hs14 : X10.heap.size ≤ X13.heap.size := Nat.le_of_eq ho.size.symm; clear ho hk bO9_0; have bO9_0 := hv0; clear hv0; refine pl_nil ?_; refine qw_then ?_; refine cw_seq ?_; refine cw_plain ?_; refine pT (.slice a1 n1 c1) ?_
 refine pS (sn_call (f := 10) (args := #[.slice a1 n1 c1]) (by kernel_rfl) ((Pieces_c _ Q1 hE (by omega) (by omega)).mono ?_))
 rintro e w15 ⟨a, k, c, ps, rfl, ho, hl, hkc, hg, hb⟩
 replace hE := hE.trans hb; replace hr5v := hr5v.ext hb; replace bO9_0 := BoxAt.ext hb bO9_0; have hs16 := hb.size; clear hb
 have hP := ho.weaken.pcs hl (by have := hg.1; omega)
 have hk8 : k ≤ 8 := by have := hg.1; omega
 have hgl := hg.good
 obtain ⟨rs, hRw, hrd⟩ := id hP
 clear ho; have hX17 : Ext w15 w15 := Ext.refl _
 refine ⟨_, rfl, ?_⟩
 refine pT (.slice a k c) ?_; refine pl_nil ?_; refine qw_then ?_; refine cw_seq ?_
 have hgo := Prod.goodL_ok hgl; have hgd := Prod.goodL_dist hgl
 refine cw_plain ?_
 refine pU (.agg #[.slice (some ⟨B3, 0, none⟩) 24 24]) (ex_load rfl (by kernel_rfl) (ld26 (bO9_0.1))) ?_
 refine pS (sn_new (us := #[.slice none 0 0]) (t := 26) (by kernel_rfl) ?_)
 intro O18 X19 hzO18 hyO18 hb hbx; have bO18_0 := bx1 hbx; clear hbx
 replace hE := hE.trans hb; replace hX17 := hX17.trans hb; replace hr5v := hr5v.ext hb; replace bO9_0 := BoxAt.ext hb bO9_0; have hs20 := hb.size; clear hb; have lt21 := bO18_0.lt
 refine pP (sn_set (O := O18) (j := 0) (v := .slice (some ⟨B3, 0, none⟩) 24 24) (ex_store (p := .pointer (some ⟨O18, 0, none⟩)) (v := .agg #[.slice (some ⟨B3, 0, none⟩) 24 24]) rfl (by kernel_rfl) (by kernel_rfl) (st26 bO18_0.1 bO18_0.2)) bO18_0 ?_)
 intro X22 ho hv0 hk; replace hE := ho.ext hE (T (T hs2 (T hs7 (T hs11 (T hs14 hs16)))) (Nat.le_of_eq hzO18)); replace hX17 := ho.ext hX17 (Nat.le_of_eq hzO18); replace hr5v := ho.va (Nat.ne_of_gt (Nat.lt_of_lt_of_le lt8 (T (T hs11 (T hs14 hs16)) (Nat.le_of_eq hzO18)))) hr5v; replace bO9_0 := ho.box (Nat.ne_of_gt (Nat.lt_of_lt_of_le lt12 (T (T hs14 hs16) (Nat.le_of_eq hzO18)))) bO9_0; have hs23 : X19.heap.size ≤ X22.heap.size := Nat.le_of_eq ho.size.symm; clear ho hk bO18_0; have bO18_0 := hv0; clear hv0; refine pl_nil ?_; refine qw_then ?_; refine cw_seq ?_; refine cw_seq ?_; refine cw_plain ?_; refine pT (.int .i64 0) ?_; refine pl_nil ?_; refine qw_then ?_
 refine cw_block ?_
 refine cw_loop [5, 6, 7, 8] (fun ws' wr m => ∃ i : Nat, ∃ Lb : List Int, ∃ bB : Nat, ∃ oB : Nat, ∃ kB : Nat, ws' = [(5, .pointer (some ⟨O9, 0, none⟩)), (6, .slice a k c), (7, .pointer (some ⟨O18, 0, none⟩)), (8, .int .i64 (((i : Nat) : Int) : Int))] ∧ m = k + 1 - i ∧ X22.heap.size ≤ wr.heap.size ∧ Ext w wr ∧ Ext w15 wr ∧ VA wr B3 0 ar ∧ BoxAt wr O9 0 (.slice (some ⟨B3, 0, none⟩) 24 24) ∧ BoxAt wr O18 0 (.slice (some ⟨bB, oB, none⟩) 24 kB) ∧ VA wr bB oB Lb ∧ i ≤ k + 1 ∧ Globe.validL Lb = true ∧ Prod.Sub (Prod.rest ar (Prod.divide ar (ps.take i))) Lb ∧ Hid (O18 ≠ bB)) (ws0 := [(5, .pointer (some ⟨O9, 0, none⟩)), (6, .slice a k c), (7, .pointer (some ⟨O18, 0, none⟩)), (8, .int .i64 0)]) (by kernel_rfl) _ ⟨0, ar, B3, 0, 24, rfl, rfl, Nat.le_refl _, hE, hX17, hr5v, bO9_0, bO18_0, hr5v, by omega, hva, (Prod.rest_sub _ _), Lib.hid (Nat.ne_of_gt (Nat.lt_of_lt_of_le lt8 (T (T hs11 (T hs14 hs16)) (Nat.le_of_eq hzO18))))⟩ ?_
 clear hr5v bO9_0 bO18_0 hE hX17
 rintro m26 L ws w25 ⟨i, Lb, bB, oB, kB, rfl, rfl, hs24, hE, hX17, hr5v, bO9_0, bxB, vaB, hi, hLb, hLs, hneB⟩
 have lt27 := vaB.lt
 by_cases hlt : i ≤ k
 ·
  refine cw_seq ?_; refine cw_seq ?_; refine cw_plain ?_; refine pT (.int .i64 (((i : Nat) : Int) : Int)) ?_; refine pT (.slice a k c) ?_; refine pT (.int .i64 (((k : Nat) : Int) : Int)) ?_
  refine pU (.bool true) (ev_dec (show _ = Result.ok (Next.value (Value.bool (decide ((((i : Nat) : Int) : Int) ≤ (((k : Nat) : Int) : Int))))) _ from by kernel_rfl) (by omega)) ?_
  refine pl_nil ?_; refine qw_then ?_
  refine cw_t (by kernel_rfl) ?_
  refine cw_skip ?_
  refine qw_then ?_; refine cw_seq ?_
  refine cw_block ?_
  refine cw_seq ?_
  refine cw_join (fun ws' Y => ∃ b42 : Nat, ∃ o43 : Nat, ∃ k33 : Nat, ∃ a34 : Option Addr, ∃ n35 : Nat, ∃ c36 : Nat, ∃ O48 : Nat, ws' = [(5, .pointer (some ⟨O9, 0, none⟩)), (6, .slice a k c), (7, .pointer (some ⟨O18, 0, none⟩)), (8, .int .i64 (((i : Nat) : Int) : Int)), (9, .pointer (some ⟨O48, 0, none⟩)), (10, .int .i64 0)] ∧ Ext w Y ∧ Ext w15 Y ∧ VA Y B3 0 ar ∧ BoxAt Y O9 0 (.slice (some ⟨B3, 0, none⟩) 24 24) ∧ BoxAt Y O18 0 (.slice (some ⟨bB, oB, none⟩) 24 kB) ∧ VA Y bB oB Lb ∧ n35 ≤ c36 ∧ Pl a34 ∧ VA Y b42 o43 ar ∧ PcsS (fun k => k ≠ O18) Y a34 n35 (Prod.divide ar (ps.take i)) ∧ BoxAt Y O48 0 (.int .i64 1) ∧ BoxAt Y O48 1 (.int .i64 1) ∧ BoxAt Y O48 2 (.slice (some ⟨b42, o43, none⟩) 24 k33) ∧ BoxAt Y O48 3 (.slice a34 n35 c36) ∧ w25.heap.size ≤ Y.heap.size ∧ w25.heap.size ≤ b42 ∧ w25.heap.size ≤ O48 ∧ Hid (b42 ≠ O48)) (fun hJ => ?_) ?_
  ·
   refine cw_draw [(some 32, [5], []), (some 33, [6], []), (some 34, [8], []), (some 35, [33, 34], [1, 2]), (some 36, [32, 35], [0, 3]), (some 31, [36], [4]), (some 37, [31], [5]), (some 38, [31], [5]), (some 9, [], []), (none, [9, 37], [8, 6, 4, 0, 1, 2, 3, 4, 5, 6, 8]), (some 10, [38], [7, 9, 0, 1, 2, 3, 4, 5, 6, 7, 8, 9])] (fun w' => w'.cell? ⟨O9, 0, none⟩ = some (.slice (some ⟨B3, 0, none⟩) 24 24)) (by kernel_rfl) (by kernel_rfl) (by kernel_rfl) (by kernel_rfl) ((calm_then (calm_block (calm_then (calm_then (calm_block (calm_then calm_body))))))) (bO9_0.1) (fun ops Q X28 hb hL hR hK => ?_)
   replace hE := hE.trans hb; replace hX17 := hX17.trans hb; replace hr5v := hr5v.ext hb; replace bO9_0 := BoxAt.ext hb bO9_0; replace bxB := BoxAt.ext hb bxB; replace vaB := vaB.ext hb; have hs29 := hb.size; clear hb
   refine wT 0 (.agg #[.slice (some ⟨B3, 0, none⟩) 24 24]) hR (fun w hS => ex_load rfl (by kernel_rfl) (ld26 (hS))) (bO9_0.1) ?_
   refine wT 1 (.slice a k c) hR (fun w _ => by kernel_rfl) (bO9_0.1) ?_
   refine wT 2 (.int .i64 (((i : Nat) : Int) : Int)) hR (fun w _ => by kernel_rfl) (bO9_0.1) ?_
   refine wT 3 (.slice a i c) hR (fun w _ => ex_slice (p := .slice a k c) rfl (by kernel_rfl) (by kernel_rfl) (by kernel_rfl) (by kernel_rfl) (sl28_010a (m := i) (by omega) (by omega))) (bO9_0.1) ?_
   refine wd_two 4 8 hR rfl rfl (by kernel_rfl) (by kernel_rfl) (by kernel_rfl) (by kernel_rfl) ?_ ?_
   ·
    have hPT30 : PcsAt X28 a i (ps.take i) := (hP.take (by omega)).ext hX17
    have hgi := Prod.good_take hgl i
    refine sn_call (f := 11) (args := #[.int .i64 1, .agg #[.slice (some ⟨B3, 0, none⟩) 24 24], .slice a i c]) (by kernel_rfl) (((Build_c (id := 1) (l := ps.take i) _ _ (by omega) (aa_q (hr5v.aa)) (Ext.refl _) hPT30 (Ext.refl _) (hT.ext hE)).mono fun _ _ h => h.eq (Prod.build_ok (by omega) hva (Prod.good_take hgl i) (by rw [List.length_take, hl]; omega)) rfl rfl).mono ?_)
    rintro e w45 ⟨a31, n32, k33, a34, n35, c36, rfl, hA37, hfr38, hP39, hnc40, hpl41, hb⟩
    replace hE := hE.trans hb; replace hX17 := hX17.trans hb; replace hr5v := hr5v.ext hb; replace bO9_0 := BoxAt.ext hb bO9_0; replace bxB := BoxAt.ext hb bxB; replace vaB := vaB.ext hb; have hs46 := hb.size; clear hb
    obtain ⟨b42, o43, rfl, rfl, hV44⟩ := va_of hA37 (hva)
    have hfr38l := hfr38 _ rfl
    have lt47 := hV44.lt
    have hP39n : PcsS (fun k => X28.heap.size ≤ k ∧ k < w45.heap.size) w45 a34 n35 (Prod.divide ar (ps.take i)) := PcsS.both hP39
    refine ⟨_, rfl, bO9_0.1, ?_⟩
    refine wT 5 (.tuple #[.agg #[.int .i64 1, .int .i64 1, .slice (some ⟨b42, o43, none⟩) 24 k33, .slice a34 n35 c36], .int .i64 0]) hR (fun w _ => by kernel_rfl) (bO9_0.1) ?_
    refine wT 6 (.agg #[.int .i64 1, .int .i64 1, .slice (some ⟨b42, o43, none⟩) 24 k33, .slice a34 n35 c36]) hR (fun w _ => by kernel_rfl) (bO9_0.1) ?_
    refine wT 7 (.int .i64 0) hR (fun w _ => by kernel_rfl) (bO9_0.1) ?_
    refine wS 8 hR (sn_new (us := #[.int .i64 0, .int .i64 0, .slice none 0 0, .slice none 0 0]) (t := 31) (by kernel_rfl) ?_)
    intro O48 X49 hzO48 hyO48 hb hbx; have ⟨bO48_0, bO48_1, bO48_2, bO48_3⟩ := bx4 hbx; clear hbx
    replace hE := hE.trans hb; replace hX17 := hX17.trans hb; replace hr5v := hr5v.ext hb; replace bO9_0 := BoxAt.ext hb bO9_0; replace bxB := BoxAt.ext hb bxB; replace vaB := vaB.ext hb; replace hV44 := hV44.ext hb; replace hP39n := hP39n.ext hb; have hs50 := hb.size; clear hb; have lt51 := bO48_0.lt
    refine ⟨bO9_0.1, ?_⟩
    refine wS 9 hR (sn_setK4 (O := O48) (j := 0) (v0 := .int .i64 1) (v1 := .int .i64 1) (v2 := .slice (some ⟨b42, o43, none⟩) 24 k33) (v3 := .slice a34 n35 c36) (ex_store (p := .pointer (some ⟨O48, 0, none⟩)) (v := .agg #[.int .i64 1, .int .i64 1, .slice (some ⟨b42, o43, none⟩) 24 k33, .slice a34 n35 c36]) rfl (by kernel_rfl) (by kernel_rfl) (st31 bO48_0.1 bO48_0.2 bO48_1.1 bO48_1.2 bO48_2.1 bO48_2.2 bO48_3.1 bO48_3.2)) bO48_0 bO48_1 bO48_2 bO48_3 ?_)
    intro X52 ho hv0 hv1 hv2 hv3 hk; replace hE := ho.ext hE (T (T hs2 (T hs7 (T hs11 (T hs14 (T hs16 (T hs20 (T hs23 (T hs24 (T hs29 hs46))))))))) (Nat.le_of_eq hzO48)); replace hX17 := ho.ext hX17 (T (T hs20 (T hs23 (T hs24 (T hs29 hs46)))) (Nat.le_of_eq hzO48)); replace hr5v := ho.va (Nat.ne_of_gt (Nat.lt_of_lt_of_le lt8 (T (T hs11 (T hs14 (T hs16 (T hs20 (T hs23 (T hs24 (T hs29 hs46))))))) (Nat.le_of_eq hzO48)))) hr5v; replace bO9_0 := ho.box (Nat.ne_of_gt (Nat.lt_of_lt_of_le lt12 (T (T hs14 (T hs16 (T hs20 (T hs23 (T hs24 (T hs29 hs46)))))) (Nat.le_of_eq hzO48)))) bO9_0; replace bxB := ho.box (Nat.ne_of_gt (Nat.lt_of_lt_of_le lt21 (T (T hs23 (T hs24 (T hs29 hs46))) (Nat.le_of_eq hzO48)))) bxB; replace vaB := ho.va (Nat.ne_of_gt (Nat.lt_of_lt_of_le lt27 (T (T hs29 hs46) (Nat.le_of_eq hzO48)))) vaB; replace hV44 := ho.va (Nat.ne_of_gt (Nat.lt_of_lt_of_le lt47 (Nat.le_of_eq hzO48))) hV44; replace hP39n := hP39n.turn ho (fun h => absurd h.2 (Nat.not_lt_of_le (Nat.le_of_eq hzO48))); have hs53 : X49.heap.size ≤ X52.heap.size := Nat.le_of_eq ho.size.symm; clear ho hk bO48_0 bO48_1 bO48_2 bO48_3; have bO48_0 := hv0; clear hv0; have bO48_1 := hv1; clear hv1; have bO48_2 := hv2; clear hv2; have bO48_3 := hv3; clear hv3
    refine ⟨bO9_0.1, ?_⟩
    refine wT 10 (.int .i64 0) hR (fun w _ => by kernel_rfl) (bO9_0.1) ?_
    refine wd_end hL hR hK (by kernel_rfl) ?_
    have hPa54 : PcsS (fun k => k ≠ O18) X52 a34 n35 (Prod.divide ar (ps.take i)) := PcsS.mono hP39n (fun k hk e => (fun h => absurd h.1 (Nat.not_le_of_lt (Nat.lt_of_lt_of_le lt21 (T hs23 (T hs24 hs29))))) (e ▸ hk))
    exact qw_leaf hJ [5, 6, 7, 8, 9, 10] (ws' := [(5, .pointer (some ⟨O9, 0, none⟩)), (6, .slice a k c), (7, .pointer (some ⟨O18, 0, none⟩)), (8, .int .i64 (((i : Nat) : Int) : Int)), (9, .pointer (some ⟨O48, 0, none⟩)), (10, .int .i64 0)]) (by kernel_rfl) ⟨b42, o43, k33, a34, n35, c36, O48, rfl, hE, hX17, hr5v, bO9_0, bxB, vaB, hnc40, hpl41, hV44, hPa54, bO48_0, bO48_1, bO48_2, bO48_3, (T hs29 (T hs46 (T hs50 hs53))), (T hs29 hfr38l), (T (T hs29 hs46) (Nat.le_of_eq hzO48)), Lib.hid (Nat.ne_of_lt (Nat.lt_of_lt_of_le lt47 (Nat.le_of_eq hzO48)))⟩
   ·
    refine sn_new (us := #[.int .i64 0, .int .i64 0, .slice none 0 0, .slice none 0 0]) (t := 31) (by kernel_rfl) ?_
    intro O55 X56 hzO55 hyO55 hb hbx; have ⟨bO55_0, bO55_1, bO55_2, bO55_3⟩ := bx4 hbx; clear hbx
    replace hE := hE.trans hb; replace hX17 := hX17.trans hb; replace hr5v := hr5v.ext hb; replace bO9_0 := BoxAt.ext hb bO9_0; replace bxB := BoxAt.ext hb bxB; replace vaB := vaB.ext hb; have hs57 := hb.size; clear hb; have lt58 := bO55_0.lt
    refine ⟨bO9_0.1, ?_⟩
    have hPT59 : PcsAt X56 a i (ps.take i) := (hP.take (by omega)).ext hX17
    have hgi := Prod.good_take hgl i
    refine wS 4 hR (sn_call (f := 11) (args := #[.int .i64 1, .agg #[.slice (some ⟨B3, 0, none⟩) 24 24], .slice a i c]) (by kernel_rfl) (((Build_c (id := 1) (l := ps.take i) _ _ (by omega) (aa_q (hr5v.aa)) (Ext.refl _) hPT59 (Ext.refl _) (hT.ext hE)).mono fun _ _ h => h.eq (Prod.build_ok (by omega) hva (Prod.good_take hgl i) (by rw [List.length_take, hl]; omega)) rfl rfl).mono ?_))
    rintro e w74 ⟨a60, n61, k62, a63, n64, c65, rfl, hA66, hfr67, hP68, hnc69, hpl70, hb⟩
    replace hE := hE.trans hb; replace hX17 := hX17.trans hb; replace hr5v := hr5v.ext hb; replace bO9_0 := BoxAt.ext hb bO9_0; replace bxB := BoxAt.ext hb bxB; replace vaB := vaB.ext hb; replace bO55_0 := BoxAt.ext hb bO55_0; replace bO55_1 := BoxAt.ext hb bO55_1; replace bO55_2 := BoxAt.ext hb bO55_2; replace bO55_3 := BoxAt.ext hb bO55_3; have hs75 := hb.size; clear hb
    obtain ⟨b71, o72, rfl, rfl, hV73⟩ := va_of hA66 (hva)
    have hfr67l := hfr67 _ rfl
    have lt76 := hV73.lt
    have hP68n : PcsS (fun k => X56.heap.size ≤ k ∧ k < w74.heap.size) w74 a63 n64 (Prod.divide ar (ps.take i)) := PcsS.both hP68
    refine ⟨_, rfl, bO9_0.1, ?_⟩
    refine wT 5 (.tuple #[.agg #[.int .i64 1, .int .i64 1, .slice (some ⟨b71, o72, none⟩) 24 k62, .slice a63 n64 c65], .int .i64 0]) hR (fun w _ => by kernel_rfl) (bO9_0.1) ?_
    refine wT 6 (.agg #[.int .i64 1, .int .i64 1, .slice (some ⟨b71, o72, none⟩) 24 k62, .slice a63 n64 c65]) hR (fun w _ => by kernel_rfl) (bO9_0.1) ?_
    refine wT 7 (.int .i64 0) hR (fun w _ => by kernel_rfl) (bO9_0.1) ?_
    refine wS 9 hR (sn_setK4 (O := O55) (j := 0) (v0 := .int .i64 1) (v1 := .int .i64 1) (v2 := .slice (some ⟨b71, o72, none⟩) 24 k62) (v3 := .slice a63 n64 c65) (ex_store (p := .pointer (some ⟨O55, 0, none⟩)) (v := .agg #[.int .i64 1, .int .i64 1, .slice (some ⟨b71, o72, none⟩) 24 k62, .slice a63 n64 c65]) rfl (by kernel_rfl) (by kernel_rfl) (st31 bO55_0.1 bO55_0.2 bO55_1.1 bO55_1.2 bO55_2.1 bO55_2.2 bO55_3.1 bO55_3.2)) bO55_0 bO55_1 bO55_2 bO55_3 ?_)
    intro X77 ho hv0 hv1 hv2 hv3 hk; replace hE := ho.ext hE (T (T hs2 (T hs7 (T hs11 (T hs14 (T hs16 (T hs20 (T hs23 (T hs24 hs29)))))))) (Nat.le_of_eq hzO55)); replace hX17 := ho.ext hX17 (T (T hs20 (T hs23 (T hs24 hs29))) (Nat.le_of_eq hzO55)); replace hr5v := ho.va (Nat.ne_of_gt (Nat.lt_of_lt_of_le lt8 (T (T hs11 (T hs14 (T hs16 (T hs20 (T hs23 (T hs24 hs29)))))) (Nat.le_of_eq hzO55)))) hr5v; replace bO9_0 := ho.box (Nat.ne_of_gt (Nat.lt_of_lt_of_le lt12 (T (T hs14 (T hs16 (T hs20 (T hs23 (T hs24 hs29))))) (Nat.le_of_eq hzO55)))) bO9_0; replace bxB := ho.box (Nat.ne_of_gt (Nat.lt_of_lt_of_le lt21 (T (T hs23 (T hs24 hs29)) (Nat.le_of_eq hzO55)))) bxB; replace vaB := ho.va (Nat.ne_of_gt (Nat.lt_of_lt_of_le lt27 (T hs29 (Nat.le_of_eq hzO55)))) vaB; replace hV73 := ho.va (Nat.ne_of_lt (Nat.lt_of_lt_of_le lt58 hfr67l)) hV73; replace hP68n := hP68n.turn ho (fun h => absurd h.1 (Nat.not_le_of_lt (Nat.lt_of_lt_of_le lt58 (Nat.le_refl _)))); have hs78 : w74.heap.size ≤ X77.heap.size := Nat.le_of_eq ho.size.symm; clear ho hk bO55_0 bO55_1 bO55_2 bO55_3; have bO55_0 := hv0; clear hv0; have bO55_1 := hv1; clear hv1; have bO55_2 := hv2; clear hv2; have bO55_3 := hv3; clear hv3
    refine ⟨bO9_0.1, ?_⟩
    refine wT 10 (.int .i64 0) hR (fun w _ => by kernel_rfl) (bO9_0.1) ?_
    refine wd_end hL hR hK (by kernel_rfl) ?_
    have hPa79 : PcsS (fun k => k ≠ O18) X77 a63 n64 (Prod.divide ar (ps.take i)) := PcsS.mono hP68n (fun k hk e => (fun h => absurd h.1 (Nat.not_le_of_lt (Nat.lt_of_lt_of_le lt21 (T hs23 (T hs24 (T hs29 hs57)))))) (e ▸ hk))
    exact qw_leaf hJ [5, 6, 7, 8, 9, 10] (ws' := [(5, .pointer (some ⟨O9, 0, none⟩)), (6, .slice a k c), (7, .pointer (some ⟨O18, 0, none⟩)), (8, .int .i64 (((i : Nat) : Int) : Int)), (9, .pointer (some ⟨O55, 0, none⟩)), (10, .int .i64 0)]) (by kernel_rfl) ⟨b71, o72, k62, a63, n64, c65, O55, rfl, hE, hX17, hr5v, bO9_0, bxB, vaB, hnc69, hpl70, hV73, hPa79, bO55_0, bO55_1, bO55_2, bO55_3, (T hs29 (T hs57 (T hs75 hs78))), (T (T hs29 hs57) hfr67l), (T hs29 (Nat.le_of_eq hzO55)), Lib.hid (Nat.ne_of_gt (Nat.lt_of_lt_of_le lt58 hfr67l))⟩
  ·
   clear hr5v bO9_0 bxB vaB hE hX17
   rintro L ws Y80 ⟨b42, o43, k33, a34, n35, c36, O48, rfl, hE, hX17, hr5v, bO9_0, bxB, vaB, hnc40, hpl41, hV44, hPa54, bO48_0, bO48_1, bO48_2, bO48_3, hn81, hn82, hn83, hn84⟩
   have lt85 := hV44.lt; have lt86 := bO48_0.lt; refine qw_then ?_; refine cw_seq ?_
   have hPn87 : PcsS (fun k => k ≠ O18 ∧ k < Y80.heap.size) Y80 a34 n35 (Prod.divide ar (ps.take i)) := PcsS.nowS hPa54
   have hgi := Prod.good_take hgl i
   have hval : Prod.validP 1 1 ar (Prod.divide ar (ps.take i)) = true := Prod.divide_valid (by omega) (by omega) hva (Prod.goodL_ok hgi) (Prod.goodL_dist hgi) (by rw [List.length_take]; omega)
   have hRv : Globe.validL (Prod.rest ar (Prod.divide ar (ps.take i))) = true := Prod.rest_valid _ hva
   have hdl := Prod.divide_len ar (ps.take i)
   rw [List.length_take] at hdl
   have hnD := (PcsS.pcs hPn87).len
   refine cw_plain ?_
   refine pU (.agg #[.int .i64 1, .int .i64 1, .slice (some ⟨b42, o43, none⟩) 24 k33, .slice a34 n35 c36]) (ex_load rfl (by kernel_rfl) (ld31 (bO48_0.1) (bO48_1.1) (bO48_2.1) (bO48_3.1))) ?_
   refine pS (sn_call (f := 12) (args := #[.agg #[.int .i64 1, .int .i64 1, .slice (some ⟨b42, o43, none⟩) 24 k33, .slice a34 n35 c36]]) (by kernel_rfl) ((Missing_f (id := 1) (ver := 1) _ _ (by omega) (aa_q (hV44.aa)) (Ext.refl _) (hPn87.pcs) (Ext.refl _) (hT.ext hE) hval).mono ?_))
   rintro e w92 ⟨B88, o89, k90, rfl, hv91, hv91n, hb⟩
   replace hE := hE.trans hb; replace hX17 := hX17.trans hb; replace hr5v := hr5v.ext hb; replace bO9_0 := BoxAt.ext hb bO9_0; replace bxB := BoxAt.ext hb bxB; replace vaB := vaB.ext hb; replace hV44 := hV44.ext hb; replace hPn87 := hPn87.ext hb; replace bO48_0 := BoxAt.ext hb bO48_0; replace bO48_1 := BoxAt.ext hb bO48_1; replace bO48_2 := BoxAt.ext hb bO48_2; replace bO48_3 := BoxAt.ext hb bO48_3; have hs93 := hb.size; clear hb; have lt94 := hv91.lt
   refine ⟨_, rfl, ?_⟩
   refine pT (.tuple #[.agg #[.slice (some ⟨B88, o89, none⟩) 24 k90], .int .i64 0]) ?_; refine pT (.agg #[.slice (some ⟨B88, o89, none⟩) 24 k90]) ?_; refine pT (.int .i64 0) ?_
   refine pS (sn_new (us := #[.slice none 0 0]) (t := 26) (by kernel_rfl) ?_)
   intro O95 X96 hzO95 hyO95 hb hbx; have bO95_0 := bx1 hbx; clear hbx
   replace hE := hE.trans hb; replace hX17 := hX17.trans hb; replace hr5v := hr5v.ext hb; replace bO9_0 := BoxAt.ext hb bO9_0; replace bxB := BoxAt.ext hb bxB; replace vaB := vaB.ext hb; replace hV44 := hV44.ext hb; replace hPn87 := hPn87.ext hb; replace bO48_0 := BoxAt.ext hb bO48_0; replace bO48_1 := BoxAt.ext hb bO48_1; replace bO48_2 := BoxAt.ext hb bO48_2; replace bO48_3 := BoxAt.ext hb bO48_3; replace hv91 := hv91.ext hb; have hs97 := hb.size; clear hb; have lt98 := bO95_0.lt
   refine pP (sn_set (O := O95) (j := 0) (v := .slice (some ⟨B88, o89, none⟩) 24 k90) (ex_store (p := .pointer (some ⟨O95, 0, none⟩)) (v := .agg #[.slice (some ⟨B88, o89, none⟩) 24 k90]) rfl (by kernel_rfl) (by kernel_rfl) (st26 bO95_0.1 bO95_0.2)) bO95_0 ?_)
   intro X99 ho hv0 hk; replace hE := ho.ext hE (T (T hs2 (T hs7 (T hs11 (T hs14 (T hs16 (T hs20 (T hs23 (T hs24 (T hn81 hs93))))))))) (Nat.le_of_eq hzO95)); replace hX17 := ho.ext hX17 (T (T hs20 (T hs23 (T hs24 (T hn81 hs93)))) (Nat.le_of_eq hzO95)); replace hr5v := ho.va (Nat.ne_of_gt (Nat.lt_of_lt_of_le lt8 (T (T hs11 (T hs14 (T hs16 (T hs20 (T hs23 (T hs24 (T hn81 hs93))))))) (Nat.le_of_eq hzO95)))) hr5v; replace bO9_0 := ho.box (Nat.ne_of_gt (Nat.lt_of_lt_of_le lt12 (T (T hs14 (T hs16 (T hs20 (T hs23 (T hs24 (T hn81 hs93)))))) (Nat.le_of_eq hzO95)))) bO9_0; replace bxB := ho.box (Nat.ne_of_gt (Nat.lt_of_lt_of_le lt21 (T (T hs23 (T hs24 (T hn81 hs93))) (Nat.le_of_eq hzO95)))) bxB; replace vaB := ho.va (Nat.ne_of_gt (Nat.lt_of_lt_of_le lt27 (T (T hn81 hs93) (Nat.le_of_eq hzO95)))) vaB; replace hV44 := ho.va (Nat.ne_of_gt (Nat.lt_of_lt_of_le lt85 (T hs93 (Nat.le_of_eq hzO95)))) hV44; replace hPn87 := hPn87.turn ho (fun h => absurd h.2 (Nat.not_lt_of_le (T hs93 (Nat.le_of_eq hzO95))))
   have q9 := fun (j : Nat) (v : Value) (h : BoxAt _ O48 j v) => ho.box (Nat.ne_of_gt (Nat.lt_of_lt_of_le lt86 (T hs93 (Nat.le_of_eq hzO95)))) h
   replace bO48_0 := q9 _ _ bO48_0; replace bO48_1 := q9 _ _ bO48_1; replace bO48_2 := q9 _ _ bO48_2; replace bO48_3 := q9 _ _ bO48_3; clear q9; replace hv91 := ho.va (Nat.ne_of_gt (Nat.lt_of_lt_of_le lt94 (Nat.le_of_eq hzO95))) hv91; have hs100 : X96.heap.size ≤ X99.heap.size := Nat.le_of_eq ho.size.symm; clear ho hk bO95_0; have bO95_0 := hv0; clear hv0; refine pT (.int .i64 0) ?_; refine pl_nil ?_; refine qw_then ?_; refine cw_seq ?_; refine cw_seq ?_; refine cw_plain ?_; refine pT (.int .i64 0) ?_; refine pT (.bool false) ?_; refine pT (.bool false) ?_; refine pT (.int .i64 0) ?_; refine pT (.bool false) ?_; refine pT (.bool false) ?_; refine pT (.bool false) ?_
   refine pU (.agg #[.slice (some ⟨bB, oB, none⟩) 24 kB]) (ex_load rfl (by kernel_rfl) (ld26 (bxB.1))) ?_
   refine pU (.agg #[.slice (some ⟨B88, o89, none⟩) 24 k90]) (ex_load rfl (by kernel_rfl) (ld26 (bO95_0.1))) ?_
   refine pS (sn_call (f := 23) (args := #[.agg #[.slice (some ⟨bB, oB, none⟩) 24 kB], .agg #[.slice (some ⟨B88, o89, none⟩) 24 k90]]) (by kernel_rfl) ((Contains_q (r := true) _ _ _ (vaB.aa) (Ext.refl _) (hv91.aa) (Ext.refl _) (Prod.contains_sub hLb hRv hLs)).mono ?_))
   rintro e w101 ⟨rfl, hb⟩
   replace hE := hE.trans hb; replace hX17 := hX17.trans hb; replace hr5v := hr5v.ext hb; replace bO9_0 := BoxAt.ext hb bO9_0; replace bxB := BoxAt.ext hb bxB; replace vaB := vaB.ext hb; replace hV44 := hV44.ext hb; replace hPn87 := hPn87.ext hb; replace bO48_0 := BoxAt.ext hb bO48_0; replace bO48_1 := BoxAt.ext hb bO48_1; replace bO48_2 := BoxAt.ext hb bO48_2; replace bO48_3 := BoxAt.ext hb bO48_3; replace hv91 := hv91.ext hb; replace bO95_0 := BoxAt.ext hb bO95_0; have hs102 := hb.size; clear hb
   refine ⟨_, rfl, ?_⟩
   refine pT (.bool false) ?_; refine pT (.bool false) ?_; refine pl_nil ?_; refine qw_then ?_; refine cC7 5 6 7 8 9 11 55 (fun L => ?_)
   refine cw_f (by kernel_rfl) ?_
   refine cw_skip ?_
   refine qw_then ?_; refine cw_seq ?_; refine cw_plain ?_
   refine pU (.agg #[.slice (some ⟨B88, o89, none⟩) 24 k90]) (ex_load rfl (by kernel_rfl) (ld26 (bO95_0.1))) ?_
   refine pS (sn_new (us := #[.slice none 0 0]) (t := 26) (by kernel_rfl) ?_)
   intro O103 X104 hzO103 hyO103 hb hbx; have bO103_0 := bx1 hbx; clear hbx
   replace hE := hE.trans hb; replace hX17 := hX17.trans hb; replace hr5v := hr5v.ext hb; replace bO9_0 := BoxAt.ext hb bO9_0; replace bxB := BoxAt.ext hb bxB; replace vaB := vaB.ext hb; replace hV44 := hV44.ext hb; replace hPn87 := hPn87.ext hb; replace bO48_0 := BoxAt.ext hb bO48_0; replace bO48_1 := BoxAt.ext hb bO48_1; replace bO48_2 := BoxAt.ext hb bO48_2; replace bO48_3 := BoxAt.ext hb bO48_3; replace hv91 := hv91.ext hb; replace bO95_0 := BoxAt.ext hb bO95_0; have hs105 := hb.size; clear hb; have lt106 := bO103_0.lt
   refine pP (sn_set (O := O103) (j := 0) (v := .slice (some ⟨B88, o89, none⟩) 24 k90) (ex_store (p := .pointer (some ⟨O103, 0, none⟩)) (v := .agg #[.slice (some ⟨B88, o89, none⟩) 24 k90]) rfl (by kernel_rfl) (by kernel_rfl) (st26 bO103_0.1 bO103_0.2)) bO103_0 ?_)
   intro X107 ho hv0 hk; replace hE := ho.ext hE (T (T hs2 (T hs7 (T hs11 (T hs14 (T hs16 (T hs20 (T hs23 (T hs24 (T hn81 (T hs93 (T hs97 (T hs100 hs102)))))))))))) (Nat.le_of_eq hzO103)); replace hX17 := ho.ext hX17 (T (T hs20 (T hs23 (T hs24 (T hn81 (T hs93 (T hs97 (T hs100 hs102))))))) (Nat.le_of_eq hzO103)); replace hr5v := ho.va (Nat.ne_of_gt (Nat.lt_of_lt_of_le lt8 (T (T hs11 (T hs14 (T hs16 (T hs20 (T hs23 (T hs24 (T hn81 (T hs93 (T hs97 (T hs100 hs102)))))))))) (Nat.le_of_eq hzO103)))) hr5v; replace bO9_0 := ho.box (Nat.ne_of_gt (Nat.lt_of_lt_of_le lt12 (T (T hs14 (T hs16 (T hs20 (T hs23 (T hs24 (T hn81 (T hs93 (T hs97 (T hs100 hs102))))))))) (Nat.le_of_eq hzO103)))) bO9_0; replace bxB := ho.box (Nat.ne_of_gt (Nat.lt_of_lt_of_le lt21 (T (T hs23 (T hs24 (T hn81 (T hs93 (T hs97 (T hs100 hs102)))))) (Nat.le_of_eq hzO103)))) bxB; replace vaB := ho.va (Nat.ne_of_gt (Nat.lt_of_lt_of_le lt27 (T (T hn81 (T hs93 (T hs97 (T hs100 hs102)))) (Nat.le_of_eq hzO103)))) vaB; replace hV44 := ho.va (Nat.ne_of_gt (Nat.lt_of_lt_of_le lt85 (T (T hs93 (T hs97 (T hs100 hs102))) (Nat.le_of_eq hzO103)))) hV44; replace hPn87 := hPn87.turn ho (fun h => absurd h.2 (Nat.not_lt_of_le (T (T hs93 (T hs97 (T hs100 hs102))) (Nat.le_of_eq hzO103))))
   have q9 := fun (j : Nat) (v : Value) (h : BoxAt _ O48 j v) => ho.box (Nat.ne_of_gt (Nat.lt_of_lt_of_le lt86 (T (T hs93 (T hs97 (T hs100 hs102))) (Nat.le_of_eq hzO103)))) h
   replace bO48_0 := q9 _ _ bO48_0; replace bO48_1 := q9 _ _ bO48_1; replace bO48_2 := q9 _ _ bO48_2; replace bO48_3 := q9 _ _ bO48_3; clear q9; replace hv91 := ho.va (Nat.ne_of_gt (Nat.lt_of_lt_of_le lt94 (T (T hs97 (T hs100 hs102)) (Nat.le_of_eq hzO103)))) hv91; replace bO95_0 := ho.box (Nat.ne_of_gt (Nat.lt_of_lt_of_le lt98 (T (T hs100 hs102) (Nat.le_of_eq hzO103)))) bO95_0; have hs108 : X104.heap.size ≤ X107.heap.size := Nat.le_of_eq ho.size.symm; clear ho hk bO103_0; have bO103_0 := hv0; clear hv0; refine pl_nil ?_; refine qw_then ?_; refine cw_seq ?_; refine cw_plain ?_
   refine pU (.agg #[.slice (some ⟨B88, o89, none⟩) 24 k90]) (ex_load rfl (by kernel_rfl) (ld26 (bO95_0.1))) ?_
   refine pS (sn_call (f := 18) (args := #[.agg #[.slice (some ⟨B88, o89, none⟩) 24 k90]]) (by kernel_rfl) ((Count_v _ _ hv91 (Ext.refl _) (hT.ext hE)).mono ?_))
   rintro e w109 ⟨rfl, hb⟩
   replace hE := hE.trans hb; replace hX17 := hX17.trans hb; replace hr5v := hr5v.ext hb; replace bO9_0 := BoxAt.ext hb bO9_0; replace bxB := BoxAt.ext hb bxB; replace vaB := vaB.ext hb; replace hV44 := hV44.ext hb; replace hPn87 := hPn87.ext hb; replace bO48_0 := BoxAt.ext hb bO48_0; replace bO48_1 := BoxAt.ext hb bO48_1; replace bO48_2 := BoxAt.ext hb bO48_2; replace bO48_3 := BoxAt.ext hb bO48_3; replace hv91 := hv91.ext hb; replace bO95_0 := BoxAt.ext hb bO95_0; replace bO103_0 := BoxAt.ext hb bO103_0; have hs110 := hb.size; clear hb
   refine ⟨_, rfl, ?_⟩
   refine pT (.int .i64 ((((Globe.cellsTo ((Prod.rest ar (Prod.divide ar (ps.take i)))) 24).length : Nat) : Int) : Int)) ?_; refine pl_nil ?_; refine qw_then ?_; refine cw_seq ?_; refine cw_seq ?_; refine cw_plain ?_; refine pT (.int .i64 0) ?_; refine pl_nil ?_; refine qw_then ?_
   refine cw_block ?_
   refine cw_loop [5, 6, 7, 8, 9, 11, 13, 14, 15] (fun ws' wr m => ∃ j : Nat, ∃ bU : Nat, ∃ oU : Nat, ∃ kU : Nat, ws' = [(5, .pointer (some ⟨O9, 0, none⟩)), (6, .slice a k c), (7, .pointer (some ⟨O18, 0, none⟩)), (8, .int .i64 (((i : Nat) : Int) : Int)), (9, .pointer (some ⟨O48, 0, none⟩)), (11, .pointer (some ⟨O95, 0, none⟩)), (13, .pointer (some ⟨O103, 0, none⟩)), (14, .int .i64 ((((Globe.cellsTo (Prod.uTo (Prod.rest ar (Prod.divide ar (ps.take i))) (Prod.divide ar (ps.take i)) j) 24).length : Nat) : Int) : Int)), (15, .int .i64 (((j : Nat) : Int) : Int))] ∧ m = n35 - j ∧ w109.heap.size ≤ wr.heap.size ∧ Ext w wr ∧ Ext w15 wr ∧ VA wr B3 0 ar ∧ BoxAt wr O9 0 (.slice (some ⟨B3, 0, none⟩) 24 24) ∧ BoxAt wr O18 0 (.slice (some ⟨bB, oB, none⟩) 24 kB) ∧ VA wr bB oB Lb ∧ VA wr b42 o43 ar ∧ PcsS (fun k => k ≠ O18 ∧ k < Y80.heap.size) wr a34 n35 (Prod.divide ar (ps.take i)) ∧ BoxAt wr O48 0 (.int .i64 1) ∧ BoxAt wr O48 1 (.int .i64 1) ∧ BoxAt wr O48 2 (.slice (some ⟨b42, o43, none⟩) 24 k33) ∧ BoxAt wr O48 3 (.slice a34 n35 c36) ∧ VA wr B88 o89 ((Prod.rest ar (Prod.divide ar (ps.take i)))) ∧ BoxAt wr O95 0 (.slice (some ⟨B88, o89, none⟩) 24 k90) ∧ BoxAt wr O103 0 (.slice (some ⟨bU, oU, none⟩) 24 kU) ∧ VA wr bU oU (Prod.uTo (Prod.rest ar (Prod.divide ar (ps.take i))) (Prod.divide ar (ps.take i)) j) ∧ j ≤ n35 ∧ Hid (O103 ≠ bU)) (ws0 := [(5, .pointer (some ⟨O9, 0, none⟩)), (6, .slice a k c), (7, .pointer (some ⟨O18, 0, none⟩)), (8, .int .i64 (((i : Nat) : Int) : Int)), (9, .pointer (some ⟨O48, 0, none⟩)), (11, .pointer (some ⟨O95, 0, none⟩)), (13, .pointer (some ⟨O103, 0, none⟩)), (14, .int .i64 ((((Globe.cellsTo ((Prod.rest ar (Prod.divide ar (ps.take i)))) 24).length : Nat) : Int) : Int)), (15, .int .i64 0)]) (by kernel_rfl) _ ⟨0, B88, o89, k90, rfl, rfl, Nat.le_refl _, hE, hX17, hr5v, bO9_0, bxB, vaB, hV44, hPn87, bO48_0, bO48_1, bO48_2, bO48_3, hv91, bO95_0, bO103_0, hv91, Nat.zero_le _, Lib.hid (Nat.ne_of_gt (Nat.lt_of_lt_of_le lt94 (T (T hs97 (T hs100 hs102)) (Nat.le_of_eq hzO103))))⟩ ?_
   clear hr5v bO9_0 bxB vaB hV44 hPn87 bO48_0 bO48_1 bO48_2 bO48_3 hv91 bO95_0 bO103_0 hE hX17
   rintro m113 L ws w112 ⟨j, bU, oU, kU, rfl, rfl, hs111, hE, hX17, hr5v, bO9_0, bxB, vaB, hV44, hPn87, bO48_0, bO48_1, bO48_2, bO48_3, hv91, bO95_0, bxU, vaU, hj, hneU⟩
   have lt114 := vaU.lt
   by_cases hlt : j < n35
   ·
    have hPx115 := PcsS.pcs hPn87
    have hX116 : Ext w112 w112 := Ext.refl _
    obtain ⟨b117, o118, x, ar119, k120, c121, rfl, hx122, hp123, hp124, hp125, hp126, hA127⟩ := hPx115.at hlt
    have hxo := Prod.divide_ok hva (Prod.goodL_ok hgi) x (List.mem_of_getElem? hx122)
    obtain ⟨b128, o129, rfl, rfl, hV130⟩ := va_of hA127 (Prod.okP_v hxo)
    have lt131 := hV130.lt; refine cw_seq ?_; refine cw_seq ?_; refine cw_plain ?_; refine pT (.int .i64 (((j : Nat) : Int) : Int)) ?_; refine pT (.pointer (some ⟨O48, 3, none⟩)) ?_
    refine pU (.slice (some ⟨b117, o118, none⟩) n35 c36) (ex_load rfl (by kernel_rfl) (ld28 (bO48_3.1))) ?_
    refine pT (.int .i64 (((n35 : Nat) : Int) : Int)) ?_
    refine pU (.bool true) (ev_dec (show _ = Result.ok (Next.value (Value.bool (decide ((((j : Nat) : Int) : Int) < (((n35 : Nat) : Int) : Int))))) _ from by kernel_rfl) (by omega)) ?_
    refine pl_nil ?_; refine qw_then ?_
    refine cw_t (by kernel_rfl) ?_
    refine cw_skip ?_
    refine qw_then ?_; refine cw_seq ?_
    refine cw_block ?_
    refine cw_seq ?_
    refine cw_join (fun ws' Y => ∃ B134 : Nat, ∃ k135 : Nat, ∃ O141 : Nat, ws' = [(5, .pointer (some ⟨O9, 0, none⟩)), (6, .slice a k c), (7, .pointer (some ⟨O18, 0, none⟩)), (8, .int .i64 (((i : Nat) : Int) : Int)), (9, .pointer (some ⟨O48, 0, none⟩)), (11, .pointer (some ⟨O95, 0, none⟩)), (13, .pointer (some ⟨O103, 0, none⟩)), (14, .int .i64 ((((Globe.cellsTo (Prod.uTo (Prod.rest ar (Prod.divide ar (ps.take i))) (Prod.divide ar (ps.take i)) j) 24).length : Nat) : Int) : Int)), (15, .int .i64 (((j : Nat) : Int) : Int)), (16, .pointer (some ⟨O141, 0, none⟩)), (17, .int .i64 0)] ∧ Ext w Y ∧ Ext w15 Y ∧ Ext w112 Y ∧ VA Y B3 0 ar ∧ BoxAt Y O9 0 (.slice (some ⟨B3, 0, none⟩) 24 24) ∧ BoxAt Y O18 0 (.slice (some ⟨bB, oB, none⟩) 24 kB) ∧ VA Y bB oB Lb ∧ VA Y b42 o43 ar ∧ PcsS (fun k => k ≠ O18 ∧ k < Y80.heap.size) Y (some ⟨b117, o118, none⟩) n35 (Prod.divide ar (ps.take i)) ∧ BoxAt Y O48 0 (.int .i64 1) ∧ BoxAt Y O48 1 (.int .i64 1) ∧ BoxAt Y O48 2 (.slice (some ⟨b42, o43, none⟩) 24 k33) ∧ BoxAt Y O48 3 (.slice (some ⟨b117, o118, none⟩) n35 c36) ∧ VA Y B88 o89 ((Prod.rest ar (Prod.divide ar (ps.take i)))) ∧ BoxAt Y O95 0 (.slice (some ⟨B88, o89, none⟩) 24 k90) ∧ BoxAt Y O103 0 (.slice (some ⟨bU, oU, none⟩) 24 kU) ∧ VA Y bU oU (Prod.uTo (Prod.rest ar (Prod.divide ar (ps.take i))) (Prod.divide ar (ps.take i)) j) ∧ VA Y B134 0 (Globe.unionL (Prod.uTo (Prod.rest ar (Prod.divide ar (ps.take i))) (Prod.divide ar (ps.take i)) j) x.rw) ∧ BoxAt Y O141 0 (.slice (some ⟨B134, 0, none⟩) 24 k135) ∧ w112.heap.size ≤ Y.heap.size ∧ w112.heap.size ≤ B134 ∧ w112.heap.size ≤ O141 ∧ Hid (B134 ≠ O141)) (fun hJ => ?_) ?_
    ·
     refine cw_draw [(some 67, [13], []), (some 68, [9], []), (some 69, [68], [1]), (some 70, [15], []), (some 71, [69, 70], [2, 3]), (some 72, [71], [4]), (some 73, [72], [5]), (some 74, [67, 73], [0, 6]), (some 66, [74], [7]), (some 75, [66], [8]), (some 76, [66], [8]), (some 16, [], []), (none, [16, 75], [11, 9, 7, 0, 1, 2, 3, 4, 5, 6, 7, 8, 9, 11]), (some 17, [76], [10, 12, 0, 1, 2, 3, 4, 5, 6, 7, 8, 9, 10, 11, 12])] (fun w' => w'.cell? ⟨O103, 0, none⟩ = some (.slice (some ⟨bU, oU, none⟩) 24 kU) ∧ w'.cell? ⟨O48, 3, none⟩ = some (.slice (some ⟨b117, o118, none⟩) n35 c36) ∧ w'.cell? ⟨b117, o118 + j * 4 + 3, none⟩ = some (.slice (some ⟨b128, o129, none⟩) 24 c121)) (by kernel_rfl) (by kernel_rfl) (by kernel_rfl) (by kernel_rfl) ((calm_then (calm_block (calm_then (calm_then (calm_block (calm_then (calm_block (calm_then (calm_then (calm_block (calm_then calm_body)))))))))))) (⟨bxU.1, bO48_3.1, hp126⟩) (fun ops Q X132 hb hL hR hK => ?_)
     replace hE := hE.trans hb; replace hX17 := hX17.trans hb; replace hX116 := hX116.trans hb; replace hr5v := hr5v.ext hb; replace bO9_0 := BoxAt.ext hb bO9_0; replace bxB := BoxAt.ext hb bxB; replace vaB := vaB.ext hb; replace hV44 := hV44.ext hb; replace hPn87 := hPn87.ext hb; replace bO48_0 := BoxAt.ext hb bO48_0; replace bO48_1 := BoxAt.ext hb bO48_1; replace bO48_2 := BoxAt.ext hb bO48_2; replace bO48_3 := BoxAt.ext hb bO48_3; replace hv91 := hv91.ext hb; replace bO95_0 := BoxAt.ext hb bO95_0; replace bxU := BoxAt.ext hb bxU; replace vaU := vaU.ext hb; have hs133 := hb.size; clear hb
     refine wT 0 (.agg #[.slice (some ⟨bU, oU, none⟩) 24 kU]) hR (fun w hS => ex_load rfl (by kernel_rfl) (ld26 (hS.1))) (⟨bxU.1, bO48_3.1, (hX116.cell hp126)⟩) ?_
     refine wT 1 (.pointer (some ⟨O48, 3, none⟩)) hR (fun w _ => by kernel_rfl) (⟨bxU.1, bO48_3.1, (hX116.cell hp126)⟩) ?_
     refine wT 2 (.slice (some ⟨b117, o118, none⟩) n35 c36) hR (fun w hS => ex_load rfl (by kernel_rfl) (ld28 (hS.2.1))) (⟨bxU.1, bO48_3.1, (hX116.cell hp126)⟩) ?_
     refine wT 3 (.int .i64 (((j : Nat) : Int) : Int)) hR (fun w _ => by kernel_rfl) (⟨bxU.1, bO48_3.1, (hX116.cell hp126)⟩) ?_
     refine wT 4 (.pointer (some ⟨b117, o118 + j * 4, none⟩)) hR (fun w _ => ex_index (p := .slice (some ⟨b117, o118, none⟩) n35 c36) (i := .int .i64 ((j : Nat) : Int)) rfl (by kernel_rfl) (by kernel_rfl) (ix28 (k := j) (by omega))) (⟨bxU.1, bO48_3.1, (hX116.cell hp126)⟩) ?_
     refine wT 5 (.pointer (some ⟨b117, o118 + j * 4 + 3, none⟩)) hR (fun w _ => by kernel_rfl) (⟨bxU.1, bO48_3.1, (hX116.cell hp126)⟩) ?_
     refine wT 6 (.agg #[.slice (some ⟨b128, o129, none⟩) 24 c121]) hR (fun w hS => ex_load rfl (by kernel_rfl) (ld26 (hS.2.2))) (⟨bxU.1, bO48_3.1, (hX116.cell hp126)⟩) ?_
     refine wd_two 7 11 hR rfl rfl (by kernel_rfl) (by kernel_rfl) (by kernel_rfl) (by kernel_rfl) ?_ ?_
     ·
      refine sn_call (f := 24) (args := #[.agg #[.slice (some ⟨bU, oU, none⟩) 24 kU], .agg #[.slice (some ⟨b128, o129, none⟩) 24 c121]]) (by kernel_rfl) ((Union_v _ _ _ vaU (Ext.refl _) hV130 hX116).mono ?_)
      rintro e w138 ⟨B134, k135, rfl, hn136, -, hv137, hb⟩
      replace hE := hE.trans hb; replace hX17 := hX17.trans hb; replace hX116 := hX116.trans hb; replace hr5v := hr5v.ext hb; replace bO9_0 := BoxAt.ext hb bO9_0; replace bxB := BoxAt.ext hb bxB; replace vaB := vaB.ext hb; replace hV44 := hV44.ext hb; replace hPn87 := hPn87.ext hb; replace bO48_0 := BoxAt.ext hb bO48_0; replace bO48_1 := BoxAt.ext hb bO48_1; replace bO48_2 := BoxAt.ext hb bO48_2; replace bO48_3 := BoxAt.ext hb bO48_3; replace hv91 := hv91.ext hb; replace bO95_0 := BoxAt.ext hb bO95_0; replace bxU := BoxAt.ext hb bxU; replace vaU := vaU.ext hb; have hs139 := hb.size; clear hb; have lt140 := hv137.lt
      refine ⟨_, rfl, ⟨bxU.1, bO48_3.1, (hX116.cell hp126)⟩, ?_⟩
      refine wT 8 (.tuple #[.agg #[.slice (some ⟨B134, 0, none⟩) 24 k135], .int .i64 0]) hR (fun w _ => by kernel_rfl) (⟨bxU.1, bO48_3.1, (hX116.cell hp126)⟩) ?_
      refine wT 9 (.agg #[.slice (some ⟨B134, 0, none⟩) 24 k135]) hR (fun w _ => by kernel_rfl) (⟨bxU.1, bO48_3.1, (hX116.cell hp126)⟩) ?_
      refine wT 10 (.int .i64 0) hR (fun w _ => by kernel_rfl) (⟨bxU.1, bO48_3.1, (hX116.cell hp126)⟩) ?_
      refine wS 11 hR (sn_new (us := #[.slice none 0 0]) (t := 26) (by kernel_rfl) ?_)
      intro O141 X142 hzO141 hyO141 hb hbx; have bO141_0 := bx1 hbx; clear hbx
      replace hE := hE.trans hb; replace hX17 := hX17.trans hb; replace hX116 := hX116.trans hb; replace hr5v := hr5v.ext hb; replace bO9_0 := BoxAt.ext hb bO9_0; replace bxB := BoxAt.ext hb bxB; replace vaB := vaB.ext hb; replace hV44 := hV44.ext hb; replace hPn87 := hPn87.ext hb; replace bO48_0 := BoxAt.ext hb bO48_0; replace bO48_1 := BoxAt.ext hb bO48_1; replace bO48_2 := BoxAt.ext hb bO48_2; replace bO48_3 := BoxAt.ext hb bO48_3; replace hv91 := hv91.ext hb; replace bO95_0 := BoxAt.ext hb bO95_0; replace bxU := BoxAt.ext hb bxU; replace vaU := vaU.ext hb; replace hv137 := hv137.ext hb; have hs143 := hb.size; clear hb; have lt144 := bO141_0.lt
      refine ⟨⟨bxU.1, bO48_3.1, (hX116.cell hp126)⟩, ?_⟩
      refine wS 12 hR (sn_set (O := O141) (j := 0) (v := .slice (some ⟨B134, 0, none⟩) 24 k135) (ex_store (p := .pointer (some ⟨O141, 0, none⟩)) (v := .agg #[.slice (some ⟨B134, 0, none⟩) 24 k135]) rfl (by kernel_rfl) (by kernel_rfl) (st26 bO141_0.1 bO141_0.2)) bO141_0 ?_)
      intro X145 ho hv0 hk; replace hE := ho.ext hE (T (T hs2 (T hs7 (T hs11 (T hs14 (T hs16 (T hs20 (T hs23 (T hs24 (T hn81 (T hs93 (T hs97 (T hs100 (T hs102 (T hs105 (T hs108 (T hs110 (T hs111 (T hs133 hs139)))))))))))))))))) (Nat.le_of_eq hzO141)); replace hX17 := ho.ext hX17 (T (T hs20 (T hs23 (T hs24 (T hn81 (T hs93 (T hs97 (T hs100 (T hs102 (T hs105 (T hs108 (T hs110 (T hs111 (T hs133 hs139))))))))))))) (Nat.le_of_eq hzO141)); replace hX116 := ho.ext hX116 (T (T hs133 hs139) (Nat.le_of_eq hzO141)); replace hr5v := ho.va (Nat.ne_of_gt (Nat.lt_of_lt_of_le lt8 (T (T hs11 (T hs14 (T hs16 (T hs20 (T hs23 (T hs24 (T hn81 (T hs93 (T hs97 (T hs100 (T hs102 (T hs105 (T hs108 (T hs110 (T hs111 (T hs133 hs139)))))))))))))))) (Nat.le_of_eq hzO141)))) hr5v; replace bO9_0 := ho.box (Nat.ne_of_gt (Nat.lt_of_lt_of_le lt12 (T (T hs14 (T hs16 (T hs20 (T hs23 (T hs24 (T hn81 (T hs93 (T hs97 (T hs100 (T hs102 (T hs105 (T hs108 (T hs110 (T hs111 (T hs133 hs139))))))))))))))) (Nat.le_of_eq hzO141)))) bO9_0; replace bxB := ho.box (Nat.ne_of_gt (Nat.lt_of_lt_of_le lt21 (T (T hs23 (T hs24 (T hn81 (T hs93 (T hs97 (T hs100 (T hs102 (T hs105 (T hs108 (T hs110 (T hs111 (T hs133 hs139)))))))))))) (Nat.le_of_eq hzO141)))) bxB; replace vaB := ho.va (Nat.ne_of_gt (Nat.lt_of_lt_of_le lt27 (T (T hn81 (T hs93 (T hs97 (T hs100 (T hs102 (T hs105 (T hs108 (T hs110 (T hs111 (T hs133 hs139)))))))))) (Nat.le_of_eq hzO141)))) vaB; replace hV44 := ho.va (Nat.ne_of_gt (Nat.lt_of_lt_of_le lt85 (T (T hs93 (T hs97 (T hs100 (T hs102 (T hs105 (T hs108 (T hs110 (T hs111 (T hs133 hs139))))))))) (Nat.le_of_eq hzO141)))) hV44; replace hPn87 := hPn87.turn ho (fun h => absurd h.2 (Nat.not_lt_of_le (T (T hs93 (T hs97 (T hs100 (T hs102 (T hs105 (T hs108 (T hs110 (T hs111 (T hs133 hs139))))))))) (Nat.le_of_eq hzO141))))
      have q9 := fun (j : Nat) (v : Value) (h : BoxAt _ O48 j v) => ho.box (Nat.ne_of_gt (Nat.lt_of_lt_of_le lt86 (T (T hs93 (T hs97 (T hs100 (T hs102 (T hs105 (T hs108 (T hs110 (T hs111 (T hs133 hs139))))))))) (Nat.le_of_eq hzO141)))) h
      replace bO48_0 := q9 _ _ bO48_0; replace bO48_1 := q9 _ _ bO48_1; replace bO48_2 := q9 _ _ bO48_2; replace bO48_3 := q9 _ _ bO48_3; clear q9; replace hv91 := ho.va (Nat.ne_of_gt (Nat.lt_of_lt_of_le lt94 (T (T hs97 (T hs100 (T hs102 (T hs105 (T hs108 (T hs110 (T hs111 (T hs133 hs139)))))))) (Nat.le_of_eq hzO141)))) hv91; replace bO95_0 := ho.box (Nat.ne_of_gt (Nat.lt_of_lt_of_le lt98 (T (T hs100 (T hs102 (T hs105 (T hs108 (T hs110 (T hs111 (T hs133 hs139))))))) (Nat.le_of_eq hzO141)))) bO95_0; replace bxU := ho.box (Nat.ne_of_gt (Nat.lt_of_lt_of_le lt106 (T (T hs108 (T hs110 (T hs111 (T hs133 hs139)))) (Nat.le_of_eq hzO141)))) bxU; replace vaU := ho.va (Nat.ne_of_gt (Nat.lt_of_lt_of_le lt114 (T (T hs133 hs139) (Nat.le_of_eq hzO141)))) vaU; replace hv137 := ho.va (Nat.ne_of_gt (Nat.lt_of_lt_of_le lt140 (Nat.le_of_eq hzO141))) hv137; have hs146 : X142.heap.size ≤ X145.heap.size := Nat.le_of_eq ho.size.symm; clear ho hk bO141_0; have bO141_0 := hv0; clear hv0
      refine ⟨⟨bxU.1, bO48_3.1, (hX116.cell hp126)⟩, ?_⟩
      refine wT 13 (.int .i64 0) hR (fun w _ => by kernel_rfl) (⟨bxU.1, bO48_3.1, (hX116.cell hp126)⟩) ?_
      refine wd_end hL hR hK (by kernel_rfl) ?_
      exact qw_leaf hJ [5, 6, 7, 8, 9, 11, 13, 14, 15, 16, 17] (ws' := [(5, .pointer (some ⟨O9, 0, none⟩)), (6, .slice a k c), (7, .pointer (some ⟨O18, 0, none⟩)), (8, .int .i64 (((i : Nat) : Int) : Int)), (9, .pointer (some ⟨O48, 0, none⟩)), (11, .pointer (some ⟨O95, 0, none⟩)), (13, .pointer (some ⟨O103, 0, none⟩)), (14, .int .i64 ((((Globe.cellsTo (Prod.uTo (Prod.rest ar (Prod.divide ar (ps.take i))) (Prod.divide ar (ps.take i)) j) 24).length : Nat) : Int) : Int)), (15, .int .i64 (((j : Nat) : Int) : Int)), (16, .pointer (some ⟨O141, 0, none⟩)), (17, .int .i64 0)]) (by kernel_rfl) ⟨B134, k135, O141, rfl, hE, hX17, hX116, hr5v, bO9_0, bxB, vaB, hV44, hPn87, bO48_0, bO48_1, bO48_2, bO48_3, hv91, bO95_0, bxU, vaU, hv137, bO141_0, (T hs133 (T hs139 (T hs143 hs146))), (T hs133 hn136), (T (T hs133 hs139) (Nat.le_of_eq hzO141)), Lib.hid (Nat.ne_of_lt (Nat.lt_of_lt_of_le lt140 (Nat.le_of_eq hzO141)))⟩
     ·
      refine sn_new (us := #[.slice none 0 0]) (t := 26) (by kernel_rfl) ?_
      intro O147 X148 hzO147 hyO147 hb hbx; have bO147_0 := bx1 hbx; clear hbx
      replace hE := hE.trans hb; replace hX17 := hX17.trans hb; replace hX116 := hX116.trans hb; replace hr5v := hr5v.ext hb; replace bO9_0 := BoxAt.ext hb bO9_0; replace bxB := BoxAt.ext hb bxB; replace vaB := vaB.ext hb; replace hV44 := hV44.ext hb; replace hPn87 := hPn87.ext hb; replace bO48_0 := BoxAt.ext hb bO48_0; replace bO48_1 := BoxAt.ext hb bO48_1; replace bO48_2 := BoxAt.ext hb bO48_2; replace bO48_3 := BoxAt.ext hb bO48_3; replace hv91 := hv91.ext hb; replace bO95_0 := BoxAt.ext hb bO95_0; replace bxU := BoxAt.ext hb bxU; replace vaU := vaU.ext hb; have hs149 := hb.size; clear hb; have lt150 := bO147_0.lt
      refine ⟨⟨bxU.1, bO48_3.1, (hX116.cell hp126)⟩, ?_⟩
      refine wS 7 hR (sn_call (f := 24) (args := #[.agg #[.slice (some ⟨bU, oU, none⟩) 24 kU], .agg #[.slice (some ⟨b128, o129, none⟩) 24 c121]]) (by kernel_rfl) ((Union_v _ _ _ vaU (Ext.refl _) hV130 hX116).mono ?_))
      rintro e w155 ⟨B151, k152, rfl, hn153, -, hv154, hb⟩
      replace hE := hE.trans hb; replace hX17 := hX17.trans hb; replace hX116 := hX116.trans hb; replace hr5v := hr5v.ext hb; replace bO9_0 := BoxAt.ext hb bO9_0; replace bxB := BoxAt.ext hb bxB; replace vaB := vaB.ext hb; replace hV44 := hV44.ext hb; replace hPn87 := hPn87.ext hb; replace bO48_0 := BoxAt.ext hb bO48_0; replace bO48_1 := BoxAt.ext hb bO48_1; replace bO48_2 := BoxAt.ext hb bO48_2; replace bO48_3 := BoxAt.ext hb bO48_3; replace hv91 := hv91.ext hb; replace bO95_0 := BoxAt.ext hb bO95_0; replace bxU := BoxAt.ext hb bxU; replace vaU := vaU.ext hb; replace bO147_0 := BoxAt.ext hb bO147_0; have hs156 := hb.size; clear hb; have lt157 := hv154.lt
      refine ⟨_, rfl, ⟨bxU.1, bO48_3.1, (hX116.cell hp126)⟩, ?_⟩
      refine wT 8 (.tuple #[.agg #[.slice (some ⟨B151, 0, none⟩) 24 k152], .int .i64 0]) hR (fun w _ => by kernel_rfl) (⟨bxU.1, bO48_3.1, (hX116.cell hp126)⟩) ?_
      refine wT 9 (.agg #[.slice (some ⟨B151, 0, none⟩) 24 k152]) hR (fun w _ => by kernel_rfl) (⟨bxU.1, bO48_3.1, (hX116.cell hp126)⟩) ?_
      refine wT 10 (.int .i64 0) hR (fun w _ => by kernel_rfl) (⟨bxU.1, bO48_3.1, (hX116.cell hp126)⟩) ?_
      refine wS 12 hR (sn_set (O := O147) (j := 0) (v := .slice (some ⟨B151, 0, none⟩) 24 k152) (ex_store (p := .pointer (some ⟨O147, 0, none⟩)) (v := .agg #[.slice (some ⟨B151, 0, none⟩) 24 k152]) rfl (by kernel_rfl) (by kernel_rfl) (st26 bO147_0.1 bO147_0.2)) bO147_0 ?_)
      intro X158 ho hv0 hk; replace hE := ho.ext hE (T (T hs2 (T hs7 (T hs11 (T hs14 (T hs16 (T hs20 (T hs23 (T hs24 (T hn81 (T hs93 (T hs97 (T hs100 (T hs102 (T hs105 (T hs108 (T hs110 (T hs111 hs133))))))))))))))))) (Nat.le_of_eq hzO147)); replace hX17 := ho.ext hX17 (T (T hs20 (T hs23 (T hs24 (T hn81 (T hs93 (T hs97 (T hs100 (T hs102 (T hs105 (T hs108 (T hs110 (T hs111 hs133)))))))))))) (Nat.le_of_eq hzO147)); replace hX116 := ho.ext hX116 (T hs133 (Nat.le_of_eq hzO147)); replace hr5v := ho.va (Nat.ne_of_gt (Nat.lt_of_lt_of_le lt8 (T (T hs11 (T hs14 (T hs16 (T hs20 (T hs23 (T hs24 (T hn81 (T hs93 (T hs97 (T hs100 (T hs102 (T hs105 (T hs108 (T hs110 (T hs111 hs133))))))))))))))) (Nat.le_of_eq hzO147)))) hr5v; replace bO9_0 := ho.box (Nat.ne_of_gt (Nat.lt_of_lt_of_le lt12 (T (T hs14 (T hs16 (T hs20 (T hs23 (T hs24 (T hn81 (T hs93 (T hs97 (T hs100 (T hs102 (T hs105 (T hs108 (T hs110 (T hs111 hs133)))))))))))))) (Nat.le_of_eq hzO147)))) bO9_0; replace bxB := ho.box (Nat.ne_of_gt (Nat.lt_of_lt_of_le lt21 (T (T hs23 (T hs24 (T hn81 (T hs93 (T hs97 (T hs100 (T hs102 (T hs105 (T hs108 (T hs110 (T hs111 hs133))))))))))) (Nat.le_of_eq hzO147)))) bxB; replace vaB := ho.va (Nat.ne_of_gt (Nat.lt_of_lt_of_le lt27 (T (T hn81 (T hs93 (T hs97 (T hs100 (T hs102 (T hs105 (T hs108 (T hs110 (T hs111 hs133))))))))) (Nat.le_of_eq hzO147)))) vaB; replace hV44 := ho.va (Nat.ne_of_gt (Nat.lt_of_lt_of_le lt85 (T (T hs93 (T hs97 (T hs100 (T hs102 (T hs105 (T hs108 (T hs110 (T hs111 hs133)))))))) (Nat.le_of_eq hzO147)))) hV44; replace hPn87 := hPn87.turn ho (fun h => absurd h.2 (Nat.not_lt_of_le (T (T hs93 (T hs97 (T hs100 (T hs102 (T hs105 (T hs108 (T hs110 (T hs111 hs133)))))))) (Nat.le_of_eq hzO147))))
      have q9 := fun (j : Nat) (v : Value) (h : BoxAt _ O48 j v) => ho.box (Nat.ne_of_gt (Nat.lt_of_lt_of_le lt86 (T (T hs93 (T hs97 (T hs100 (T hs102 (T hs105 (T hs108 (T hs110 (T hs111 hs133)))))))) (Nat.le_of_eq hzO147)))) h
      replace bO48_0 := q9 _ _ bO48_0; replace bO48_1 := q9 _ _ bO48_1; replace bO48_2 := q9 _ _ bO48_2; replace bO48_3 := q9 _ _ bO48_3; clear q9; replace hv91 := ho.va (Nat.ne_of_gt (Nat.lt_of_lt_of_le lt94 (T (T hs97 (T hs100 (T hs102 (T hs105 (T hs108 (T hs110 (T hs111 hs133))))))) (Nat.le_of_eq hzO147)))) hv91; replace bO95_0 := ho.box (Nat.ne_of_gt (Nat.lt_of_lt_of_le lt98 (T (T hs100 (T hs102 (T hs105 (T hs108 (T hs110 (T hs111 hs133)))))) (Nat.le_of_eq hzO147)))) bO95_0; replace bxU := ho.box (Nat.ne_of_gt (Nat.lt_of_lt_of_le lt106 (T (T hs108 (T hs110 (T hs111 hs133))) (Nat.le_of_eq hzO147)))) bxU; replace vaU := ho.va (Nat.ne_of_gt (Nat.lt_of_lt_of_le lt114 (T hs133 (Nat.le_of_eq hzO147)))) vaU; replace hv154 := ho.va (Nat.ne_of_lt (Nat.lt_of_lt_of_le lt150 hn153)) hv154; have hs159 : w155.heap.size ≤ X158.heap.size := Nat.le_of_eq ho.size.symm; clear ho hk bO147_0; have bO147_0 := hv0; clear hv0
      refine ⟨⟨bxU.1, bO48_3.1, (hX116.cell hp126)⟩, ?_⟩
      refine wT 13 (.int .i64 0) hR (fun w _ => by kernel_rfl) (⟨bxU.1, bO48_3.1, (hX116.cell hp126)⟩) ?_
      refine wd_end hL hR hK (by kernel_rfl) ?_
      exact qw_leaf hJ [5, 6, 7, 8, 9, 11, 13, 14, 15, 16, 17] (ws' := [(5, .pointer (some ⟨O9, 0, none⟩)), (6, .slice a k c), (7, .pointer (some ⟨O18, 0, none⟩)), (8, .int .i64 (((i : Nat) : Int) : Int)), (9, .pointer (some ⟨O48, 0, none⟩)), (11, .pointer (some ⟨O95, 0, none⟩)), (13, .pointer (some ⟨O103, 0, none⟩)), (14, .int .i64 ((((Globe.cellsTo (Prod.uTo (Prod.rest ar (Prod.divide ar (ps.take i))) (Prod.divide ar (ps.take i)) j) 24).length : Nat) : Int) : Int)), (15, .int .i64 (((j : Nat) : Int) : Int)), (16, .pointer (some ⟨O147, 0, none⟩)), (17, .int .i64 0)]) (by kernel_rfl) ⟨B151, k152, O147, rfl, hE, hX17, hX116, hr5v, bO9_0, bxB, vaB, hV44, hPn87, bO48_0, bO48_1, bO48_2, bO48_3, hv91, bO95_0, bxU, vaU, hv154, bO147_0, (T hs133 (T hs149 (T hs156 hs159))), (T (T hs133 hs149) hn153), (T hs133 (Nat.le_of_eq hzO147)), Lib.hid (Nat.ne_of_gt (Nat.lt_of_lt_of_le lt150 hn153))⟩
    ·
     clear hr5v bO9_0 bxB vaB hV44 hPn87 bO48_0 bO48_1 bO48_2 bO48_3 hv91 bO95_0 bxU vaU hE hX17 hX116
     rintro L ws Y160 ⟨B134, k135, O141, rfl, hE, hX17, hX116, hr5v, bO9_0, bxB, vaB, hV44, hPn87, bO48_0, bO48_1, bO48_2, bO48_3, hv91, bO95_0, bxU, vaU, hv137, bO141_0, hn161, hn162, hn163, hn164⟩
     have lt165 := hv137.lt; have lt166 := bO141_0.lt; refine qw_then ?_; refine cw_seq ?_; refine cw_seq ?_; refine cw_plain ?_; refine pT (.int .i64 0) ?_; refine pT (.bool false) ?_; refine pl_nil ?_; refine qw_then ?_
     refine cw_f (by kernel_rfl) ?_
     refine cw_skip ?_
     refine qw_then ?_; refine cw_seq ?_; refine cw_plain ?_
     refine pU (.agg #[.slice (some ⟨B134, 0, none⟩) 24 k135]) (ex_load rfl (by kernel_rfl) (ld26 (bO141_0.1))) ?_
     refine pP (sn_set (O := O103) (j := 0) (v := .slice (some ⟨B134, 0, none⟩) 24 k135) (ex_store (p := .pointer (some ⟨O103, 0, none⟩)) (v := .agg #[.slice (some ⟨B134, 0, none⟩) 24 k135]) rfl (by kernel_rfl) (by kernel_rfl) (st26 bxU.1 bxU.2)) bxU ?_)
     intro X167 ho hv0 hk; replace hE := ho.ext hE (T (T hs2 (T hs7 (T hs11 (T hs14 (T hs16 (T hs20 (T hs23 (T hs24 (T hn81 (T hs93 (T hs97 (T hs100 hs102)))))))))))) (Nat.le_of_eq hzO103)); replace hX17 := ho.ext hX17 (T (T hs20 (T hs23 (T hs24 (T hn81 (T hs93 (T hs97 (T hs100 hs102))))))) (Nat.le_of_eq hzO103)); replace hr5v := ho.va (Nat.ne_of_gt (Nat.lt_of_lt_of_le lt8 (T (T hs11 (T hs14 (T hs16 (T hs20 (T hs23 (T hs24 (T hn81 (T hs93 (T hs97 (T hs100 hs102)))))))))) (Nat.le_of_eq hzO103)))) hr5v; replace bO9_0 := ho.box (Nat.ne_of_gt (Nat.lt_of_lt_of_le lt12 (T (T hs14 (T hs16 (T hs20 (T hs23 (T hs24 (T hn81 (T hs93 (T hs97 (T hs100 hs102))))))))) (Nat.le_of_eq hzO103)))) bO9_0; replace bxB := ho.box (Nat.ne_of_gt (Nat.lt_of_lt_of_le lt21 (T (T hs23 (T hs24 (T hn81 (T hs93 (T hs97 (T hs100 hs102)))))) (Nat.le_of_eq hzO103)))) bxB; replace vaB := ho.va (Nat.ne_of_gt (Nat.lt_of_lt_of_le lt27 (T (T hn81 (T hs93 (T hs97 (T hs100 hs102)))) (Nat.le_of_eq hzO103)))) vaB; replace hV44 := ho.va (Nat.ne_of_gt (Nat.lt_of_lt_of_le lt85 (T (T hs93 (T hs97 (T hs100 hs102))) (Nat.le_of_eq hzO103)))) hV44; replace hPn87 := hPn87.turn ho (fun h => absurd h.2 (Nat.not_lt_of_le (T (T hs93 (T hs97 (T hs100 hs102))) (Nat.le_of_eq hzO103))))
     have q9 := fun (j : Nat) (v : Value) (h : BoxAt _ O48 j v) => ho.box (Nat.ne_of_gt (Nat.lt_of_lt_of_le lt86 (T (T hs93 (T hs97 (T hs100 hs102))) (Nat.le_of_eq hzO103)))) h
     replace bO48_0 := q9 _ _ bO48_0; replace bO48_1 := q9 _ _ bO48_1; replace bO48_2 := q9 _ _ bO48_2; replace bO48_3 := q9 _ _ bO48_3; clear q9; replace hv91 := ho.va (Nat.ne_of_gt (Nat.lt_of_lt_of_le lt94 (T (T hs97 (T hs100 hs102)) (Nat.le_of_eq hzO103)))) hv91; replace bO95_0 := ho.box (Nat.ne_of_gt (Nat.lt_of_lt_of_le lt98 (T (T hs100 hs102) (Nat.le_of_eq hzO103)))) bO95_0; replace vaU := ho.va hneU.out vaU; replace hv137 := ho.va (Nat.ne_of_lt (Nat.lt_of_lt_of_le lt106 (T (T hs108 (T hs110 hs111)) hn162))) hv137; replace bO141_0 := ho.box (Nat.ne_of_lt (Nat.lt_of_lt_of_le lt106 (T (T hs108 (T hs110 hs111)) hn163))) bO141_0; have hs168 : Y160.heap.size ≤ X167.heap.size := Nat.le_of_eq ho.size.symm; clear ho hk bxU; have bxU := hv0; clear hv0; refine pl_nil ?_; refine qw_then ?_
     have hq1 := cells_le9 (Prod.uTo (Prod.rest ar (Prod.divide ar (ps.take i))) (Prod.divide ar (ps.take i)) j); have hq2 := cells_le9 x.rw
     obtain ⟨ar169, kz170, cz171, -, -, -, hz172, hz172A⟩ := PcsAt.at2 (PcsS.pcs hPn87) hx122
     obtain ⟨bz173, oz174, rfl, rfl, hV175⟩ := va_of hz172A (Prod.okP_v hxo)
     refine cw_plain ?_; refine pT (.int .i64 ((((Globe.cellsTo (Prod.uTo (Prod.rest ar (Prod.divide ar (ps.take i))) (Prod.divide ar (ps.take i)) j) 24).length : Nat) : Int) : Int)) ?_; refine pT (.pointer (some ⟨O48, 3, none⟩)) ?_
     refine pU (.slice (some ⟨b117, o118, none⟩) n35 c36) (ex_load rfl (by kernel_rfl) (ld28 (bO48_3.1))) ?_
     refine pT (.int .i64 (((j : Nat) : Int) : Int)) ?_
     refine pU (.pointer (some ⟨b117, o118 + j * 4, none⟩)) (ex_index (p := .slice (some ⟨b117, o118, none⟩) n35 c36) (i := .int .i64 ((j : Nat) : Int)) rfl (by kernel_rfl) (by kernel_rfl) (ix28 (k := j) (by omega))) ?_
     refine pT (.pointer (some ⟨b117, o118 + j * 4 + 3, none⟩)) ?_
     refine pU (.agg #[.slice (some ⟨bz173, oz174, none⟩) 24 cz171]) (ex_load rfl (by kernel_rfl) (ld26 (hz172))) ?_
     refine pS (sn_call (f := 18) (args := #[.agg #[.slice (some ⟨bz173, oz174, none⟩) 24 cz171]]) (by kernel_rfl) ((Count_v _ _ hV175 (Ext.refl _) (hT.ext hE)).mono ?_))
     rintro e w176 ⟨rfl, hb⟩
     replace hE := hE.trans hb; replace hX17 := hX17.trans hb; replace hr5v := hr5v.ext hb; replace bO9_0 := BoxAt.ext hb bO9_0; replace bxB := BoxAt.ext hb bxB; replace vaB := vaB.ext hb; replace hV44 := hV44.ext hb; replace hPn87 := hPn87.ext hb; replace bO48_0 := BoxAt.ext hb bO48_0; replace bO48_1 := BoxAt.ext hb bO48_1; replace bO48_2 := BoxAt.ext hb bO48_2; replace bO48_3 := BoxAt.ext hb bO48_3; replace hv91 := hv91.ext hb; replace bO95_0 := BoxAt.ext hb bO95_0; replace vaU := vaU.ext hb; replace hv137 := hv137.ext hb; replace bO141_0 := BoxAt.ext hb bO141_0; replace bxU := BoxAt.ext hb bxU; replace hz172 := hb.cell hz172; replace hV175 := hV175.ext hb; have hs177 := hb.size; clear hb
     refine ⟨_, rfl, ?_⟩
     refine pU (.int .i64 (((((Globe.cellsTo (Prod.uTo (Prod.rest ar (Prod.divide ar (ps.take i))) (Prod.divide ar (ps.take i)) j) 24).length) + ((Globe.cellsTo x.rw 24).length) : Nat) : Int) : Int)) (ev_wrap (by kernel_rfl) (by omega) (by omega)) ?_
     refine pT (.int .i64 (((((Globe.cellsTo (Prod.uTo (Prod.rest ar (Prod.divide ar (ps.take i))) (Prod.divide ar (ps.take i)) j) 24).length) + ((Globe.cellsTo x.rw 24).length) : Nat) : Int) : Int)) ?_; refine pl_nil ?_
     refine qw_block ?_
     refine qw_then ?_; refine cC9 5 6 7 8 9 11 13 14 15 (fun L => ?_); refine cw_plain ?_; refine pT (.int .i64 (((j : Nat) : Int) : Int)) ?_
     refine pU (.int .i64 (((j + 1 : Nat) : Int) : Int)) (ev_wrap (by kernel_rfl) (by omega) (by omega)) ?_
     refine pT (.int .i64 (((j + 1 : Nat) : Int) : Int)) ?_; refine pl_nil ?_
     refine qw_round [5, 6, 7, 8, 9, 11, 13, 14, 15] (ws' := [(5, .pointer (some ⟨O9, 0, none⟩)), (6, .slice a k c), (7, .pointer (some ⟨O18, 0, none⟩)), (8, .int .i64 (((i : Nat) : Int) : Int)), (9, .pointer (some ⟨O48, 0, none⟩)), (11, .pointer (some ⟨O95, 0, none⟩)), (13, .pointer (some ⟨O103, 0, none⟩)), (14, .int .i64 (((((Globe.cellsTo (Prod.uTo (Prod.rest ar (Prod.divide ar (ps.take i))) (Prod.divide ar (ps.take i)) j) 24).length) + ((Globe.cellsTo x.rw 24).length) : Nat) : Int) : Int)), (15, .int .i64 (((j + 1 : Nat) : Int) : Int))]) (by kernel_rfl) _ ?_ ⟨(j + 1), B134, 0, k135, (by rw [Prod.uTo_count hva (Prod.goodL_ok hgi) hx122]), rfl, (T hs111 (T hn161 (T hs168 hs177))), hE, hX17, hr5v, bO9_0, bxB, vaB, hV44, hPn87, bO48_0, bO48_1, bO48_2, bO48_3, hv91, bO95_0, bxU, (by rw [Prod.uTo_succ hx122]; exact hv137), by omega, Lib.hid (Nat.ne_of_lt (Nat.lt_of_lt_of_le lt106 (T (T hs108 (T hs110 hs111)) hn162)))⟩
     omega
   ·
    have hjn : j = n35 := by omega
    refine cw_seq ?_; refine cw_seq ?_; refine cw_plain ?_; refine pT (.int .i64 (((j : Nat) : Int) : Int)) ?_; refine pT (.pointer (some ⟨O48, 3, none⟩)) ?_
    refine pU (.slice a34 n35 c36) (ex_load rfl (by kernel_rfl) (ld28 (bO48_3.1))) ?_
    refine pT (.int .i64 (((n35 : Nat) : Int) : Int)) ?_
    refine pU (.bool false) (ev_ndec (show _ = Result.ok (Next.value (Value.bool (decide ((((j : Nat) : Int) : Int) < (((n35 : Nat) : Int) : Int))))) _ from by kernel_rfl) (by omega)) ?_
    refine pl_nil ?_; refine qw_then ?_
    refine cw_f (by kernel_rfl) ?_
    refine cw_exit ?_
    refine qw_then_exit ?_
    refine qw_then_exit ?_
    refine qw_block_out ?_
    refine qw_then ?_; refine cw_seq ?_; refine cw_seq ?_
    have hua : Prod.uTo (Prod.rest ar (Prod.divide ar (ps.take i))) (Prod.divide ar (ps.take i)) j = ar := Prod.uTo_all hva (Prod.goodL_ok hgi) (by omega)
    have huc : (Globe.cellsTo (Prod.uTo (Prod.rest ar (Prod.divide ar (ps.take i))) (Prod.divide ar (ps.take i)) j) 24).length = (Globe.cellsTo ar 24).length := by rw [hua]
    refine cw_plain ?_
    refine pU (.agg #[.slice (some ⟨bU, oU, none⟩) 24 kU]) (ex_load rfl (by kernel_rfl) (ld26 (bxU.1))) ?_
    refine pU (.agg #[.slice (some ⟨B3, 0, none⟩) 24 24]) (ex_load rfl (by kernel_rfl) (ld26 (bO9_0.1))) ?_
    refine pS (sn_call (f := 25) (args := #[.agg #[.slice (some ⟨bU, oU, none⟩) 24 kU], .agg #[.slice (some ⟨B3, 0, none⟩) 24 24]]) (by kernel_rfl) ((rSame_q (r := true) _ _ _ (vaU.aa) (Ext.refl _) (hr5v.aa) (Ext.refl _) (decide_eq_true hua)).mono ?_))
    rintro e w178 ⟨rfl, hb⟩
    replace hE := hE.trans hb; replace hX17 := hX17.trans hb; replace hr5v := hr5v.ext hb; replace bO9_0 := BoxAt.ext hb bO9_0; replace bxB := BoxAt.ext hb bxB; replace vaB := vaB.ext hb; replace hV44 := hV44.ext hb; replace hPn87 := hPn87.ext hb; replace bO48_0 := BoxAt.ext hb bO48_0; replace bO48_1 := BoxAt.ext hb bO48_1; replace bO48_2 := BoxAt.ext hb bO48_2; replace bO48_3 := BoxAt.ext hb bO48_3; replace hv91 := hv91.ext hb; replace bO95_0 := BoxAt.ext hb bO95_0; replace bxU := BoxAt.ext hb bxU; replace vaU := vaU.ext hb; have hs179 := hb.size; clear hb
    refine ⟨_, rfl, ?_⟩
    refine pT (.bool false) ?_; refine pT (.bool false) ?_; refine pT (.int .i64 ((((Globe.cellsTo (Prod.uTo (Prod.rest ar (Prod.divide ar (ps.take i))) (Prod.divide ar (ps.take i)) j) 24).length : Nat) : Int) : Int)) ?_
    refine pU (.agg #[.slice (some ⟨B3, 0, none⟩) 24 24]) (ex_load rfl (by kernel_rfl) (ld26 (bO9_0.1))) ?_
    refine pS (sn_call (f := 18) (args := #[.agg #[.slice (some ⟨B3, 0, none⟩) 24 24]]) (by kernel_rfl) ((Count_v _ _ hr5v (Ext.refl _) (hT.ext hE)).mono ?_))
    rintro e w180 ⟨rfl, hb⟩
    replace hE := hE.trans hb; replace hX17 := hX17.trans hb; replace hr5v := hr5v.ext hb; replace bO9_0 := BoxAt.ext hb bO9_0; replace bxB := BoxAt.ext hb bxB; replace vaB := vaB.ext hb; replace hV44 := hV44.ext hb; replace hPn87 := hPn87.ext hb; replace bO48_0 := BoxAt.ext hb bO48_0; replace bO48_1 := BoxAt.ext hb bO48_1; replace bO48_2 := BoxAt.ext hb bO48_2; replace bO48_3 := BoxAt.ext hb bO48_3; replace hv91 := hv91.ext hb; replace bO95_0 := BoxAt.ext hb bO95_0; replace bxU := BoxAt.ext hb bxU; replace vaU := vaU.ext hb; have hs181 := hb.size; clear hb
    refine ⟨_, rfl, ?_⟩
    refine pU (.bool false) (ev_nne (show _ = Result.ok (Next.value (Value.bool (((((Globe.cellsTo (Prod.uTo (Prod.rest ar (Prod.divide ar (ps.take i))) (Prod.divide ar (ps.take i)) j) 24).length : Nat) : Int) : Int) != ((((Globe.cellsTo ar 24).length : Nat) : Int) : Int)))) _ from by kernel_rfl) (by omega)) ?_
    refine pT (.bool false) ?_; refine pT (.bool false) ?_; refine pT (.pointer (some ⟨O48, 3, none⟩)) ?_
    refine pU (.slice a34 n35 c36) (ex_load rfl (by kernel_rfl) (ld28 (bO48_3.1))) ?_
    refine pT (.int .i64 (((n35 : Nat) : Int) : Int)) ?_; refine pT (.int .i64 (((i : Nat) : Int) : Int)) ?_
    refine pU (.bool false) (ev_ndec (show _ = Result.ok (Next.value (Value.bool (decide ((((n35 : Nat) : Int) : Int) > (((i : Nat) : Int) : Int))))) _ from by kernel_rfl) (by omega)) ?_
    refine pT (.bool false) ?_; refine pl_nil ?_; refine qw_then ?_; refine cC6 5 6 7 8 11 105 (fun L => ?_)
    refine cw_f (by kernel_rfl) ?_
    refine cw_skip ?_
    refine qw_then ?_; refine cw_plain ?_
    refine pU (.agg #[.slice (some ⟨B88, o89, none⟩) 24 k90]) (ex_load rfl (by kernel_rfl) (ld26 (bO95_0.1))) ?_
    refine pP (sn_set (O := O18) (j := 0) (v := .slice (some ⟨B88, o89, none⟩) 24 k90) (ex_store (p := .pointer (some ⟨O18, 0, none⟩)) (v := .agg #[.slice (some ⟨B88, o89, none⟩) 24 k90]) rfl (by kernel_rfl) (by kernel_rfl) (st26 bxB.1 bxB.2)) bxB ?_)
    intro X182 ho hv0 hk; replace hE := ho.ext hE (T (T hs2 (T hs7 (T hs11 (T hs14 hs16)))) (Nat.le_of_eq hzO18)); replace hX17 := ho.ext hX17 (Nat.le_of_eq hzO18); replace hr5v := ho.va (Nat.ne_of_gt (Nat.lt_of_lt_of_le lt8 (T (T hs11 (T hs14 hs16)) (Nat.le_of_eq hzO18)))) hr5v; replace bO9_0 := ho.box (Nat.ne_of_gt (Nat.lt_of_lt_of_le lt12 (T (T hs14 hs16) (Nat.le_of_eq hzO18)))) bO9_0; replace vaB := ho.va hneB.out vaB; replace hV44 := ho.va (Nat.ne_of_lt (Nat.lt_of_lt_of_le lt21 (T (T hs23 hs24) hn82))) hV44; replace hPn87 := hPn87.turn ho (fun h => h.1 rfl)
    have q9 := fun (j : Nat) (v : Value) (h : BoxAt _ O48 j v) => ho.box (Nat.ne_of_lt (Nat.lt_of_lt_of_le lt21 (T (T hs23 hs24) hn83))) h
    replace bO48_0 := q9 _ _ bO48_0; replace bO48_1 := q9 _ _ bO48_1; replace bO48_2 := q9 _ _ bO48_2; replace bO48_3 := q9 _ _ bO48_3; clear q9; replace hv91 := ho.va (Nat.ne_of_lt (Nat.lt_of_lt_of_le lt21 (T (T hs23 (T hs24 hn81)) hv91n))) hv91; replace bO95_0 := ho.box (Nat.ne_of_lt (Nat.lt_of_lt_of_le lt21 (T (T hs23 (T hs24 (T hn81 hs93))) (Nat.le_of_eq hzO95)))) bO95_0; replace bxU := ho.box (Nat.ne_of_lt (Nat.lt_of_lt_of_le lt21 (T (T hs23 (T hs24 (T hn81 (T hs93 (T hs97 (T hs100 hs102)))))) (Nat.le_of_eq hzO103)))) bxU; have hs183 : w180.heap.size ≤ X182.heap.size := Nat.le_of_eq ho.size.symm; clear ho hk bxB; have bxB := hv0; clear hv0; refine pl_nil ?_
    refine qw_block ?_
    refine qw_then ?_; refine cw_plain ?_; refine pT (.int .i64 (((i : Nat) : Int) : Int)) ?_
    refine pU (.int .i64 (((i + 1 : Nat) : Int) : Int)) (ev_wrap (by kernel_rfl) (by omega) (by omega)) ?_
    refine pT (.int .i64 (((i + 1 : Nat) : Int) : Int)) ?_; refine pl_nil ?_
    refine qw_round [5, 6, 7, 8] (ws' := [(5, .pointer (some ⟨O9, 0, none⟩)), (6, .slice a k c), (7, .pointer (some ⟨O18, 0, none⟩)), (8, .int .i64 (((i + 1 : Nat) : Int) : Int))]) (by kernel_rfl) _ ?_ ⟨(i + 1), (Prod.rest ar (Prod.divide ar (ps.take i))), B88, o89, k90, rfl, rfl, (T hs24 (T hn81 (T hs93 (T hs97 (T hs100 (T hs102 (T hs105 (T hs108 (T hs110 (T hs111 (T hs179 (T hs181 hs183)))))))))))), hE, hX17, hr5v, bO9_0, bxB, hv91, by omega, (Prod.rest_valid _ hva), (Prod.rest_more hva (by omega)), Lib.hid (Nat.ne_of_lt (Nat.lt_of_lt_of_le lt21 (T (T hs23 (T hs24 hn81)) hv91n)))⟩
    omega
 ·
  refine cw_seq ?_; refine cw_seq ?_; refine cw_plain ?_; refine pT (.int .i64 (((i : Nat) : Int) : Int)) ?_; refine pT (.slice a k c) ?_; refine pT (.int .i64 (((k : Nat) : Int) : Int)) ?_
  refine pU (.bool false) (ev_ndec (show _ = Result.ok (Next.value (Value.bool (decide ((((i : Nat) : Int) : Int) ≤ (((k : Nat) : Int) : Int))))) _ from by kernel_rfl) (by omega)) ?_
  refine pl_nil ?_; refine qw_then ?_
  refine cw_f (by kernel_rfl) ?_
  refine cw_exit ?_
  refine qw_then_exit ?_
  refine qw_then_exit ?_
  refine qw_block_out ?_
  refine qw_then ?_; refine cw_seq ?_; refine cw_plain ?_; refine pT (.bool true) ?_; refine pl_nil ?_; refine qw_then ?_
  refine cw_ret ?_
  refine qw_ret [.bool true] rfl ⟨(by kernel_rfl), trivial⟩ ?_
  exact ⟨rfl, hE⟩

end Go.Proofs.YtajdohcgjgknmaaDoor

/- The statement ProductMissing: for every input the law returns true, and every argument reads as it read before; the two tables of package math/bits that the row lists are tied to the program's text. -/
namespace Go.Proofs.YtajdohcgjgknmaaDoor
open Go.ChangeShapes Go.WideShapes Go.ChangeAt Go.RowKit

set_option maxRecDepth 100000 in
theorem ProductMissing_lifted (os : Os) (started : os.Started) (H : Type) (enc : TypeId × Value → H) :
  ReturnsInHanded {} Tryd.checked os 7 .any (fun w args => (Rows.productMissingSpec.pre enc Tryd.prog Tryd.f7 [] false w args ∧ laidMetH Tryd.prog laidTabs w) ∧ sizedMet enc Tryd.prog Tryd.f7 (OpenSpec.ofChange Rows.productMissingSpec) false w args)
   (Rows.productMissingSpec.post enc Tryd.prog Tryd.f7 false true false false) := by
 refine returnsInHanded_of_change_and (C := Tryd.checked) (X := fun w _ => laidMetH Tryd.prog laidTabs w) (fun _ _ _ hh h => h.of_heap hh) own started (by kernel_rfl) Tryd.func7
  (ChangeSpec.witness_shaped (enc := enc) (C := Tryd.checked) (os := os) (X := fun w _ => laidMetH Tryd.prog laidTabs w) false (World.doorLaid Tryd.prog 19 os) #[.slice none 0 0, .slice none 0 0] 8 rfl (World.shaped_of_RefB (by kernel_rfl) (by kernel_rfl)) (by kernel_rfl) (by kernel_rfl) (by kernel_rfl) (door_met os _)) ?_
 intro W base args ds gs before hval0 hW _ hsz hL _
 have hval : ∀ (j : Nat) t v, Tryd.f7.params[j]? = some t → args[j]? = some v → Value.okWide Tryd.prog W .any base t v := hval0
 have hW' := hW
 obtain ⟨p, q, hA0, hV, rfl, hfz, hnd⟩ := hW
 have hA : DataW.TrodAll enc Tryd.prog W 0 (fun _ => true) true Tryd.f7.params.toList args.toList ds p := hA0
 rw [Tryd.params7] at hA hval
 obtain ⟨v0, vs0, d0, ds0, p0, q0, hargs, rfl, rfl, h0, r0⟩ := trodAll_cons hA
 obtain ⟨v1, vs1, d1, ds1, p1, q1, rfl, rfl, rfl, h1, r1⟩ := trodAll_cons r0
 obtain ⟨rfl, rfl, rfl⟩ := trodAll_nil r1
 obtain rfl : args = #[v0, v1] := by cases args; simp_all
 obtain ⟨rfl, rfl⟩ := trodVars_none hV
 have k0 := h0
 have lt0 : ∀ x ∈ p0, x.block < W.heap.size := by obtain ⟨m, hm⟩ := k0; exact DataW.trod_lt m _ _ _ hm
 have op0 := open_quads (hval 0 _ v0 rfl rfl) h0
 have k1 := h1
 have lt1 : ∀ x ∈ p1, x.block < W.heap.size := by obtain ⟨m, hm⟩ := k1; exact DataW.trod_lt m _ _ _ hm
 have op1 := open_quads (hval 1 _ v1 rfl rfl) h1
 clear hA0 hval0
 refine (ProductMissing_walk W v0 op0 v1 op1 (tab_of_laid hL)).mono fun e W' ⟨he, hE⟩ => ?_
 subst he
 have bel : Below W.heap.size W W' := hE
 exact ⟨_, rfl, _, _, _, [], _, [], hW', trodAll_mk1 (shut_bool Tryd.underlying4 _), (trodAll_cons_mk (Below.trod laidOut (by kernel_rfl) (of_decide_eq_true (by kernel_rfl)) k0 bel lt0) (trodAll_cons_mk (Below.trod laidOut (by kernel_rfl) (of_decide_eq_true (by kernel_rfl)) k1 bel lt1) trodAll_mk0)), rfl, bel.frame _, fun h => by cases h⟩

theorem ProductMissing_over : Rows.ProductMissingSaid :=
 OpenClaim.holds_of_wide 7 Tryd.f7 rfl rfl rfl rfl rfl rfl rfl ⟨rfl, rfl, rfl, rfl, rfl⟩ rfl rfl rfl rfl rfl (by kernel_rfl) Tryd.func7 (by kernel_rfl)
  (of_decide_eq_true (by kernel_rfl)) (by unfold Func.isWrapper; first | (rw [if_pos (by decide +kernel)]; kernel_rfl) | (rw [if_neg (by decide +kernel)]; exact ⟨rfl, rfl⟩))
  (fun os started H enc _ => ProductMissing_lifted os started H enc)

/-- The tied card. -/
theorem ProductMissing_holds : Rows.ProductMissingCardSaid :=
 Claim7.holds_tied_plain_at .later [] [.data, .data] true (true, "8b5a7a53c537ff8737778701348fb3568628a2c5eeac7583eb34b5657efa7458") false
  ProductMissing_over (fun _ h => by cases h) (by kernel_rfl) (fun _ h => by cases h) productMissing_row_tie rfl ⟨rfl, rfl⟩ (by kernel_rfl) rfl
  (fun f fn hf hfn => by
   obtain rfl : f = 7 := Option.some.inj ((show Tryd.prog.funcNamed "nadir/nadirlaw31.ProductMissing" = some 7 by kernel_rfl).symm.trans hf) |>.symm
   obtain rfl : fn = Tryd.f7 := (Option.some.inj (Tryd.func7.symm.trans hfn)).symm
   exact ⟨by kernel_rfl, fun j t ht => by
    rw [Tryd.params7] at ht
    have hm : t ∈ [22, 22] := by simpa using Array.mem_of_getElem? ht
    have hall : ([22, 22].all fun u => !Tryd.prog.wantsStandIn u) = true := by kernel_rfl
    exact (show Tryd.prog.wantsStandIn t = false by simpa using List.all_eq_true.1 hall t hm)⟩)
  (by kernel_rfl)
#print axioms ProductMissing_holds
end Go.Proofs.YtajdohcgjgknmaaDoor
