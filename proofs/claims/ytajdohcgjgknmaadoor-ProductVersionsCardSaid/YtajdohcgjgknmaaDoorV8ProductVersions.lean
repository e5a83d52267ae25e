/- The statement ProductVersions: for every input that the row lists, the law returns true, and every argument reads as it read before. -/
import Derived.Test.YtajdohcgjgknmaaDoorV7ProductVersions
import Derived.Deep.Slices
/- The opener: rows of four ints in memory. -/
namespace Go.Proofs.YtajdohcgjgknmaaDoor
open Go.ChangeShapes Go.WideShapes Go.ChangeAt Go.RowKit Go.Deep

section
variable {H : Type} {enc : TypeId × Value → H} {W : World}
/-- An array of ints (each one cell): what it reads. -/
theorem ints_of_array {spare : Nat → Bool} {held : Bool} {t : TypeId} {k fuel : Nat} {cs : List Value} {x : DataW H × List MemPlace} (ht : Tryd.prog.underlying t = some (.array k 3)) (h : DataW.trod enc Tryd.prog W 0 spare held fuel t cs = some x) (hc : cs.length = k) :
  ∃ q : Nat → Int, ∀ j, j < k → cs[j]? = some (.int .i64 (q j)) ∧ IsI (q j) := by
 obtain ⟨xs, m, rfl, hx, hlen, hxl, hg⟩ := DataW.trod_array ht h
 have hone : Tryd.prog.cellsOf 3 = 1 := by kernel_rfl
 have each : ∀ j, j < k → ∃ n : Int, cs[j]? = some (.int .i64 n) ∧ IsI n := fun j hj => by
  have h1 := hg j hj
  rw [hone, Nat.mul_one] at h1
  have hx : xs[j]? = some (xs[j]'(by omega)) := List.getElem?_eq_getElem (by omega)
  rw [hx] at h1
  obtain ⟨n, hn, _, hw⟩ := DataW.trod_int Tryd.underlying3 h1
  have hcj : cs[j]? = some (.int .i64 n) := by
   have e : ((cs.drop j).take 1)[0]? = some (.int .i64 n) := by rw [hn]; rfl
   rw [List.getElem?_take_of_lt (by omega), List.getElem?_drop, Nat.add_zero] at e
   exact e
  exact ⟨n, hcj, isI_of_wf hw⟩
 obtain ⟨q, hq⟩ := choose_lt each
 exact ⟨q, hq⟩

end


def Quads (w : World) (v : Value) : Prop := ∃ (a : Option Addr) (n c : Nat) (q : Nat → Nat → Int), v = .slice a n c ∧ n ≤ c ∧ c ≤ 9223372036854775807 ∧ (a = none → c = 0) ∧ QAt w a n q

section
variable {H : Type} {enc : TypeId × Value → H} {W : World}
set_option maxRecDepth 100000 in
theorem open_quads {b0 : Nat} {v : Value} {d : DataW H} {p : List MemPlace} (hval : Value.okWide Tryd.prog W .any b0 22 v) (h : DataW.Trod enc Tryd.prog W 0 (fun _ => true) true 22 v d p) : Quads W v := by
  obtain ⟨a, n, c, rfl⟩ := okWide_slice Tryd.underlying22 hval
  obtain ⟨fuel, hf⟩ := h
  rcases open_slice Tryd.underlying22 hf with ⟨hcs, _⟩ | ⟨a', len, cap, m, k, D, Pl, hcs, hb, hl, hm, hmm, _, hx⟩
  · simp [Value.cells] at hcs
    obtain ⟨rfl, rfl, rfl⟩ := hcs
    exact ⟨none, 0, 0, fun _ _ => 0, rfl, by omega, by omega, fun _ => rfl, .inl rfl⟩
  · simp [Value.cells] at hcs
    obtain ⟨rfl, rfl, rfl⟩ := hcs
    unfold maxLen at hm
    rcases Nat.eq_zero_or_pos n with h0 | h0
    · exact ⟨_, _, _, fun _ _ => 0, rfl, by omega, by omega, (fun e => by cases e), .inl h0⟩
    · have h4 : Tryd.prog.cellsOf 60 = 4 := by kernel_rfl
      rw [h4] at hx
      simp only [if_true] at hmm
      subst hmm
      have each : ∀ i, i < n → ∃ q : Nat → Int, ∀ j, j < 4 → W.cell? (a'.add (i * 4 + j)) = some (.int .i64 (q j)) ∧ IsI (q j) := fun i hi => by
        obtain ⟨cs', hc1, hc2⟩ := hx i (by omega)
        obtain ⟨_, hcl, hat⟩ := World.cells?_some hc1
        obtain ⟨q, hq⟩ := ints_of_array Tryd.underlying60 hc2 hcl
        refine ⟨q, fun j hj => ⟨?_, (hq j hj).2⟩⟩
        rw [← Go.Deep.add_add, hat j hj]
        exact (hq j hj).1
      obtain ⟨q, hq⟩ := choose_lt each
      obtain ⟨b, off, spot⟩ := a'
      have hspot : spot = none := by have := World.cell?_spot (hq 0 h0 0 (by omega)).1; simpa [Addr.add] using this
      subst hspot
      refine ⟨_, _, _, q, rfl, by omega, by omega, (fun e => by cases e), .inr ⟨b, off, rfl, fun i hi j hj => ?_⟩⟩
      have := hq i hi j hj
      rw [add_plain, ← Nat.add_assoc] at this
      exact this
end

end Go.Proofs.YtajdohcgjgknmaaDoor

/- What the laws of chapter 31 share: lists of pieces that are cut and joined. -/
namespace Go.Proofs.YtajdohcgjgknmaaDoor
open Go.RowKit
theorem PcsS.nowS {S : Nat → Prop} {w : World} {a : Option Addr} {n : Nat} {l : List Prod.Pc} (h : PcsS S w a n l) : PcsS (fun k => S k ∧ k < w.heap.size) w a n l := by
  obtain ⟨rs, h1, h2, h3, h4⟩ := h
  refine ⟨rs, h1, h2, fun q ad e => ⟨h3 q ad e, ?_⟩, fun x hx q ad e => ⟨h4 x hx q ad e, ?_⟩⟩
  · obtain ⟨g1, g2, g3⟩ := h1
    rcases g3 with g3 | ⟨b, o, e', hx⟩
    · omega
    · rw [e] at e'; cases e'
      exact World.block_lt_of_cell? _ _ (hx 0 _ (List.getElem?_eq_getElem (by omega))).1
  · obtain ⟨i, hi⟩ := List.getElem?_of_mem hx
    obtain ⟨p, hp, e1, e2, e3, e4⟩ := h2.at hi
    exact aa_lt e4 q ad e
theorem RawsAt.take {w : World} {a : Option Addr} {n : Nat} {rs : List RawPc} (h : RawsAt w a n rs) {k : Nat} (hk : k ≤ n) : RawsAt w a k (rs.take k) := by
  obtain ⟨h1, h2, h3⟩ := h
  refine ⟨by rw [List.length_take]; omega, by omega, ?_⟩
  rcases h3 with h3 | ⟨b, o, ha, hx⟩
  · exact .inl (by omega)
  · refine .inr ⟨b, o, ha, fun i x hi => hx i x ?_⟩
    rw [List.getElem?_take] at hi
    split at hi
    · exact hi
    · cases hi
theorem RawsAt.drop {w : World} {a : Option Addr} {n : Nat} {rs : List RawPc} (h : RawsAt w a n rs) {k c : Nat} (hk : k ≤ n) (hc : n ≤ c) : RawsAt w (if c = k then a else a.map (fun x => x.add (k * 4))) (n - k) (rs.drop k) := by
  obtain ⟨h1, h2, h3⟩ := h
  refine ⟨by rw [List.length_drop, h1], by omega, ?_⟩
  by_cases h0 : n = k
  · exact .inl (by omega)
  · rcases h3 with h3 | ⟨b, o, rfl, hx⟩
    · exact .inl (by omega)
    · rw [if_neg (by omega)]
      refine .inr ⟨b, o + k * 4, by rw [Option.map_some, Addr.add_mid], fun i x hi => ?_⟩
      rw [List.getElem?_drop] at hi
      have := hx (k + i) x hi
      rwa [show o + (k + i) * 4 = o + k * 4 + i * 4 by rw [Nat.add_mul]; omega] at this
theorem Reads.take {w : World} {rs : List RawPc} {l : List Prod.Pc} (h : Reads w rs l) (k : Nat) : Reads w (rs.take k) (l.take k) := by
  have e := h.len
  refine Reads.of_at (by rw [List.length_take, List.length_take, e]) fun i x p hx hp => ?_
  rw [List.getElem?_take] at hx hp
  split at hx
  · rename_i hi
    rw [if_pos hi] at hp
    obtain ⟨q, hq, hr⟩ := h.at hx
    rw [hp] at hq; cases hq; exact hr
  · cases hx
theorem Reads.drop {w : World} {rs : List RawPc} {l : List Prod.Pc} (h : Reads w rs l) (k : Nat) : Reads w (rs.drop k) (l.drop k) := by
 have e := h.len
 refine Reads.of_at (by rw [List.length_drop, List.length_drop, e]) fun i x p hx hp => ?_
 rw [List.getElem?_drop] at hx hp
 obtain ⟨q, hq, hr⟩ := h.at hx
 rw [hp] at hq; cases hq; exact hr
/-- A slice from k on. -/
theorem PcsAt.drop {w : World} {a : Option Addr} {n : Nat} {l : List Prod.Pc} (h : PcsAt w a n l) {k c : Nat} (hk : k ≤ n) (hc : n ≤ c) : PcsAt w (if c = k then a else a.map (fun x => x.add (k * 4))) (n - k) (l.drop k) := by
 obtain ⟨rs, h1, h2⟩ := h; exact ⟨_, h1.drop hk hc, h2.drop k⟩
end Go.Proofs.YtajdohcgjgknmaaDoor

/- The mathematics of dividing: going on from what is divided, who gives a cell, what is missing. -/
namespace Go.Proofs.YtajdohcgjgknmaaDoor
namespace Prod
open Globe
theorem okP_v {p : Pc} (h : okP p = true) : validL p.rw = true := (okP_t.1 h).2.2
/-- Cells within cells. -/
def Sub (a b : List Int) : Prop := ∀ u v, u < 48 → v < 24 → hasL a u v = true → hasL b u v = true
theorem meet_sub {r' r z : List Int} (h' : validL r' = true) (_h : validL r = true) (hs : Sub r' r) : meetL r' (meetL r z) = meetL r' z :=
 ext_has (meet_valid h') (meet_valid h') fun u v hu hv => by
  rw [has_meet hv, has_meet hv, has_meet hv]
  cases q : hasL r' u v
  · rfl
  · rw [hs u v hu hv q]; simp
theorem less_sub {r' r z : List Int} (h' : validL r' = true) (_h : validL r = true) (hs : Sub r' r) : lessL r' (meetL r z) = lessL r' z :=
 ext_has (less_valid h') (less_valid h') fun u v hu hv => by
  rw [has_less hv, has_less hv, has_meet hv]
  cases q : hasL r' u v
  · rfl
  · rw [hs u v hu hv q]; simp
theorem less_none {r' r z : List Int} (h' : validL r' = true) (h : validL r = true) (hs : Sub r' r) (hn : noC (meetL r z) = true) : lessL r' z = r' :=
 ext_has (less_valid h') h' fun u v hu hv => by
  have h2 := (noC_iff (meet_valid h)).1 hn u v hu hv
  rw [has_meet hv] at h2
  rw [has_less hv]
  cases q : hasL r' u v
  · rfl
  · rw [hs u v hu hv q] at h2; simp at h2; rw [h2]; rfl
theorem meet_none {r' r z : List Int} (h' : validL r' = true) (h : validL r = true) (hs : Sub r' r) (hn : noC (meetL r z) = true) : noC (meetL r' z) = true :=
 (noC_iff (meet_valid h')).2 fun u v hu hv => by
  have h2 := (noC_iff (meet_valid h)).1 hn u v hu hv
  rw [has_meet hv] at h2 ⊢
  cases q : hasL r' u v
  · rfl
  · rw [hs u v hu hv q] at h2; simpa using h2
theorem sub_less {r' r z : List Int} (hs : Sub r' r) : Sub (lessL r' z) (lessL r z) := fun u v hu hv h => by
 rw [has_less hv, Bool.and_eq_true] at h ⊢
 exact ⟨hs u v hu hv h.1, h.2⟩
theorem sub_less' {r' r z : List Int} (h' : validL r' = true) (h : validL r = true) (hs : Sub r' r) (hn : noC (meetL r z) = true) : Sub r' (lessL r z) := fun u v hu hv h9 => by
 have := sub_less (z := z) hs u v hu hv (by rw [less_none h' h hs hn]; exact h9)
 exact this
theorem sub_refl (r : List Int) : Sub r r := fun _ _ _ _ h => h
theorem own_own {r' r : List Int} {x : Pc} (h' : validL r' = true) (h : validL r = true) (hs : Sub r' r) : own r' (own r x) = own r' x := by
 unfold own; show Pc.mk _ _ _ _ = Pc.mk _ _ _ _; rw [show meetL r' (meetL r x.rw) = meetL r' x.rw from meet_sub h' h hs]
/-- Dividing what is left among what was divided. -/
theorem divF_divF : ∀ {s : List Pc} {r' r : List Int}, validL r' = true → validL r = true → Sub r' r → divF r' (divF r s) = divF r' s
  | [], _, _, _, _, _ => rfl
  | z :: s, r', r, h', h, hs => by
    rw [divF.eq_2 r, divF.eq_2 r']
    cases q : noC (meetL r z.rw)
    · rw [if_neg (by simp)]
      show divF r' (own r z :: divF (lessL r z.rw) s) = _
      rw [divF, show meetL r' (own r z).rw = meetL r' z.rw from meet_sub h' h hs, own_own h' h hs, show lessL r' (own r z).rw = lessL r' z.rw from less_sub h' h hs, divF_divF (less_valid h') (less_valid h) (sub_less hs)]
    · rw [if_pos rfl, List.nil_append, divF_divF h' (less_valid h) (sub_less' h' h hs q), meet_none h' h hs q, if_pos rfl, List.nil_append, less_none h' h hs q]
theorem ins_all {x : Pc} : ∀ {l : List Pc}, (∀ d ∈ l, better x d = true) → ins x l = x :: l
 | [], _ => rfl
 | d :: l, h => by unfold ins; rw [if_pos (h d (by simp))]
theorem divF_better {x : Pc} {s : List Pc} {r : List Int} (h : ∀ p ∈ s, better x p = true) : ∀ d ∈ divF r s, better x d = true := fun d hd => by
 obtain ⟨p, hp, e1, e2, e3, _⟩ := mem_divF hd
 have := h p hp
 unfold better at this ⊢
 rw [e1, e2, e3]; exact this
/-- Dividing after one piece more has come to what was divided. -/
theorem divF_ins : ∀ {s : List Pc} {r : List Int} {x : Pc}, Sorted s → validL r = true → divF r (ins x (divF r s)) = divF r (ins x s)
  | [], _, _, _, _ => rfl
  | y :: s, r, x, hs, h => by
    obtain ⟨h1, h2⟩ := List.pairwise_cons.1 hs
    cases hb : better x y
    · have e : ins x (y :: s) = y :: ins x s := by rw [ins, if_neg (by rw [hb]; simp)]
      rw [e, divF.eq_2 r y (ins x s), divF.eq_2 r y s]
      cases q : noC (meetL r y.rw)
      · rw [if_neg (by simp)]
        show divF r (ins x (own r y :: divF (lessL r y.rw) s)) = _
        have e2 : ins x (own r y :: divF (lessL r y.rw) s) = own r y :: ins x (divF (lessL r y.rw) s) := by rw [ins, if_neg (by rw [show better x (own r y) = false from hb]; simp)]
        rw [e2, divF, show meetL r (own r y).rw = meetL r y.rw from meet_sub h h (sub_refl r), own_own h h (sub_refl r), show lessL r (own r y).rw = lessL r y.rw from less_sub h h (sub_refl r), q, if_neg (by simp), divF_ins h2 (less_valid h)]
      · rw [if_pos rfl, List.nil_append, List.nil_append]
        have e3 : lessL r y.rw = r := less_none h h (sub_refl r) q
        rw [e3]
        exact divF_ins h2 h
    · have hall : ∀ p ∈ y :: s, better x p = true := fun p hp => by
        rcases List.mem_cons.1 hp with rfl | hp
        · exact hb
        · exact better_trans hb (h1 p hp)
      rw [ins_all (divF_better hall), ins_all hall, divF.eq_2 r x (divF r (y :: s)), divF.eq_2 r x (y :: s)]
      have hsub : Sub (lessL r x.rw) r := fun u v hu hv hh => by
        rw [has_less hv, Bool.and_eq_true] at hh; exact hh.1
      rw [divF_divF (less_valid h) h hsub]
theorem divF_sorted : ∀ {s : List Pc} {r : List Int}, Sorted s → Sorted (divF r s)
 | [], _, _ => List.Pairwise.nil
 | y :: s, r, hs => by
  obtain ⟨h1, h2⟩ := List.pairwise_cons.1 hs
  rw [divF]
  split
  · exact divF_sorted h2
  · exact List.pairwise_cons.2 ⟨divF_better (x := own r y) fun p hp => h1 p hp, divF_sorted h2⟩
theorem divF_dist : ∀ {s : List Pc} {r : List Int}, Dist s → Dist (divF r s)
  | [], _, _ => List.Pairwise.nil
  | y :: s, r, hs => by
    obtain ⟨h1, h2⟩ := Dist.cons.1 hs
    rw [divF]
    split
    · exact divF_dist h2
    · refine Dist.cons.2 ⟨fun d hd => ?_, divF_dist h2⟩
      obtain ⟨p, hp, e, _⟩ := mem_divF hd
      rw [e]; exact h1 p hp
theorem divide_dist {ar : List Int} {l : List Pc} (hd : Dist l) : Dist (divide ar l) := (Dist.perm (List.reverse_perm _)).2 (divF_dist ((Dist.perm (sortD_perm l)).2 hd))
theorem divide_ok {ar : List Int} {l : List Pc} (ha : validL ar = true) (ho : ∀ p ∈ l, okP p = true) : ∀ p ∈ divide ar l, okP p = true := by
  have key : ∀ {s : List Pc} {r : List Int}, validL r = true → (∀ p ∈ s, okP p = true) → ∀ y ∈ divF r s, okP y = true := by
    intro s
    induction s with
    | nil => intro r _ _ y hy; cases hy
    | cons x s ih =>
      intro r hr hs y hy
      rw [divF] at hy
      rcases List.mem_append.1 hy with hy | hy
      · split at hy
        · cases hy
        · rw [List.mem_singleton.1 hy]; exact own_valid hr (hs x (by simp))
      · exact ih (less_valid hr) (fun p hp => hs p (by simp [hp])) y hy
  exact fun p hp => key ha (sortD_ok ho) p (List.mem_reverse.1 hp)
theorem sort_divide {ar : List Int} {l : List Pc} (hd : Dist l) : sortD (divide ar l) = divF ar (sortD l) :=
 ((sortD_congr (divide_dist hd) (List.reverse_perm _)).trans (sortD_id (divF_dist ((Dist.perm (sortD_perm l)).2 hd)) (divF_sorted (sortD_sorted hd))))
theorem sort_snoc {l : List Pc} {x : Pc} (hd : Dist (l ++ [x])) : sortD (l ++ [x]) = ins x (sortD l) := sortD_congr hd (b := x :: l) List.perm_append_comm
theorem dist_init {l : List Pc} {x : Pc} (h : Dist (l ++ [x])) : Dist l := (List.pairwise_append.1 h).1
theorem dist_next {ar : List Int} {l : List Pc} {x : Pc} (h : Dist (l ++ [x])) : Dist (divide ar l ++ [x]) :=
 List.pairwise_append.2 ⟨divide_dist (dist_init h), List.pairwise_singleton _ _, fun p hp q hq => by
  rw [List.mem_singleton.1 hq]
  obtain ⟨z, hz, e, _⟩ := mem_divF (List.mem_reverse.1 hp)
  rw [e]; exact (List.pairwise_append.1 h).2.2 z ((sortD_perm l).mem_iff.1 hz) x (by simp)⟩
/-- What is built, with one piece more. -/
theorem divide_next {ar : List Int} {l : List Pc} {x : Pc} (ha : validL ar = true) (h : Dist (l ++ [x])) : divide ar (divide ar l ++ [x]) = divide ar (l ++ [x]) := by
 show (divF ar (sortD _)).reverse = (divF ar (sortD _)).reverse
 rw [sort_snoc (dist_next h), sort_snoc h, sort_divide (dist_init h), divF_ins (sortD_sorted (dist_init h)) ha]
theorem hasIm_app {a b : List Pc} {im : Int} : hasIm (a ++ b) im = (hasIm a im || hasIm b im) := by unfold hasIm; rw [List.any_append]
theorem divF_no {x : Pc} : ∀ {s : List Pc} {r : List Int}, validL r = true → hasIm (divF r (ins x s)) x.im = false → divF r (ins x s) = divF r s
  | [], r, h, hn => by
    rw [ins, divF] at hn ⊢
    rw [hasIm_app, Bool.or_eq_false_iff] at hn
    cases q : noC (meetL r x.rw)
    · rw [q] at hn; simp [hasIm, own] at hn
    · rw [if_pos rfl, List.nil_append]; rfl
  | y :: s, r, h, hn => by
    cases hb : better x y
    · have e : ins x (y :: s) = y :: ins x s := by rw [ins, if_neg (by rw [hb]; simp)]
      rw [e, divF] at hn ⊢
      rw [hasIm_app, Bool.or_eq_false_iff] at hn
      rw [divF_no (less_valid h) hn.2, divF.eq_2 r y s]
    · have e : ins x (y :: s) = x :: y :: s := by rw [ins, if_pos hb]
      rw [e, divF] at hn ⊢
      rw [hasIm_app, Bool.or_eq_false_iff] at hn
      cases q : noC (meetL r x.rw)
      · rw [q] at hn; simp [hasIm, own] at hn
      · rw [if_pos rfl, List.nil_append, less_none h h (sub_refl r) q]
theorem hasIm_perm {a b : List Pc} (h : a.Perm b) (im : Int) : hasIm a im = hasIm b im := by
 unfold hasIm
 rw [Bool.eq_iff_iff, List.any_eq_true, List.any_eq_true]
 exact ⟨fun ⟨q, hq, e⟩ => ⟨q, h.mem_iff.1 hq, e⟩, fun ⟨q, hq, e⟩ => ⟨q, h.mem_iff.2 hq, e⟩⟩
/-- A piece that gives nothing changes nothing. -/
theorem divide_no {ar : List Int} {l : List Pc} {x : Pc} (ha : validL ar = true) (h : Dist (l ++ [x])) (hn : hasIm (divide ar (l ++ [x])) x.im = false) : divide ar (l ++ [x]) = divide ar l := by
 unfold divide at hn ⊢
 rw [hasIm_perm (List.reverse_perm _), sort_snoc h] at hn
 rw [sort_snoc h, divF_no ha hn]

/-! Who gives a cell. -/
theorem has_divF : ∀ {s : List Pc} {r : List Int} {u v : Nat}, u < 48 → v < 24 → validL r = true → ((∃ y ∈ divF r s, hasL y.rw u v = true) ↔ hasL r u v = true ∧ ∃ p ∈ s, hasL p.rw u v = true)
  | [], _, _, _, _, _, _ => ⟨(fun ⟨y, hy, _⟩ => by cases hy), fun ⟨_, p, hp, _⟩ => by cases hp⟩
  | z :: s, r, u, v, hu, hv, h => by
    have ih := has_divF (s := s) hu hv (less_valid (b := z.rw) h)
    constructor
    · rintro ⟨y, hy, hh⟩
      obtain ⟨p, hp, _, _, _, h4⟩ := mem_divF hy
      exact ⟨(h4 u v hv hh).2, p, hp, (h4 u v hv hh).1⟩
    · rintro ⟨hr, p, hp, hh⟩
      rw [divF]
      cases hz : hasL z.rw u v
      · rcases List.mem_cons.1 hp with rfl | hp
        · rw [hh] at hz; cases hz
        · obtain ⟨y, hy, k⟩ := ih.2 ⟨by rw [has_less hv, hr, hz]; rfl, p, hp, hh⟩
          exact ⟨y, by simp [hy], k⟩
      · have hm : hasL (meetL r z.rw) u v = true := by rw [has_meet hv, hr, hz]; rfl
        have hq : noC (meetL r z.rw) = false := (noC_false (meet_valid h)).2 ⟨u, v, hu, hv, hm⟩
        exact ⟨own r z, by rw [hq]; simp, hm⟩
theorem divF_best : ∀ {s : List Pc} {r : List Int} {x : Pc} {u v : Nat}, Sorted s → v < 24 → x ∈ divF r s → hasL x.rw u v = true → ∀ q ∈ s, hasL q.rw u v = true → better q x = false
  | [], _, _, _, _, _, _, hx, _, _, _, _ => by cases hx
  | z :: s, r, x, u, v, hs, hv, hx, hh, q, hq, hc => by
    obtain ⟨h1, h2⟩ := List.pairwise_cons.1 hs
    rw [divF] at hx
    rcases List.mem_append.1 hx with hx | hx
    · split at hx
      · cases hx
      · rw [List.mem_singleton.1 hx]
        show better q z = false
        rcases List.mem_cons.1 hq with rfl | hq
        · exact better_irrefl _
        · exact better_asymm (h1 q hq)
    · rcases List.mem_cons.1 hq with rfl | hq
      · obtain ⟨p, _, _, _, _, h4⟩ := mem_divF hx
        have := (h4 u v hv hh).2
        rw [has_less hv, hc] at this; simp at this
      · exact divF_best h2 hv hx hh q hq hc
theorem find_has {ps : List Pc} {u v : Nat} (hu : u < 48) (hv : v < 24) (ho : ∀ p ∈ ps, okP p = true) : (∀ x, ps.find? (fun p => hasB p.rw ((u : Nat) : Int) ((v : Nat) : Int)) = some x → x ∈ ps ∧ hasL x.rw u v = true) ∧ (ps.find? (fun p => hasB p.rw ((u : Nat) : Int) ((v : Nat) : Int)) = none ↔ ¬ ∃ x ∈ ps, hasL x.rw u v = true) := by
  constructor
  · intro x hx
    have hm := List.mem_of_find?_eq_some hx
    have := List.find?_some hx
    rw [hasB_nat (okP_v (ho x hm)) hu hv] at this
    exact ⟨hm, this⟩
  · rw [List.find?_eq_none]
    constructor
    · rintro h ⟨x, hx, hh⟩
      exact h x hx (by rw [hasB_nat (okP_v (ho x hx)) hu hv]; exact hh)
    · intro h x hx hh
      rw [hasB_nat (okP_v (ho x hx)) hu hv] at hh
      exact h ⟨x, hx, hh⟩
theorem has_divide {ar : List Int} {l : List Pc} {u v : Nat} (hu : u < 48) (hv : v < 24) (ha : validL ar = true) : (∃ y ∈ divide ar l, hasL y.rw u v = true) ↔ hasL ar u v = true ∧ ∃ p ∈ l, hasL p.rw u v = true := by
  have := has_divF (s := sortD l) (r := ar) hu hv ha
  unfold divide
  constructor
  · rintro ⟨y, hy, hh⟩
    obtain ⟨h1, p, hp, h2⟩ := this.1 ⟨y, List.mem_reverse.1 hy, hh⟩
    exact ⟨h1, p, (sortD_perm l).mem_iff.1 hp, h2⟩
  · rintro ⟨h1, p, hp, h2⟩
    obtain ⟨y, hy, hh⟩ := this.2 ⟨h1, p, (sortD_perm l).mem_iff.2 hp, h2⟩
    exact ⟨y, List.mem_reverse.2 hy, hh⟩
theorem divide_best {ar : List Int} {l : List Pc} (hd : Dist l) {x : Pc} {u v : Nat} (hv : v < 24) (hx : x ∈ divide ar l) (hh : hasL x.rw u v = true) : ∀ q ∈ l, hasL q.rw u v = true → better q x = false := fun q hq hc =>
 divF_best (sortD_sorted hd) hv (List.mem_reverse.1 hx) hh q ((sortD_perm l).mem_iff.2 hq) hc
theorem divide_from {ar : List Int} {l : List Pc} {x : Pc} (hx : x ∈ divide ar l) : ∃ p ∈ l, x.im = p.im ∧ x.cl = p.cl ∧ x.t = p.t ∧ ∀ u v, v < 24 → hasL x.rw u v = true → hasL p.rw u v = true ∧ hasL ar u v = true := by
 obtain ⟨p, hp, h⟩ := mem_divF (List.mem_reverse.1 hx)
 exact ⟨p, (sortD_perm l).mem_iff.1 hp, h⟩
/-- More pieces: no cell is given worse. -/
theorem over_more {ar : List Int} {a b : List Pc} (ha : validL ar = true) (hd : Dist a) (ho : ∀ p ∈ a, okP p = true) (hsub : ∀ p ∈ b, p ∈ a) : overL (divide ar a) (divide ar b) = true := by
 unfold overL
 rw [List.all_eq_true]
 intro y hy
 rw [List.all_eq_true]
 intro c hc
 obtain ⟨hv, hu, hh⟩ := mem_cells.1 hc
 obtain ⟨p, hp, e1, e2, e3, h4⟩ := divide_from hy
 obtain ⟨k1, k2⟩ := h4 c.1 c.2 hv hh
 obtain ⟨f1, f2⟩ := find_has hu hv (divide_ok ha ho)
 unfold okY
 cases hf : (divide ar a).find? (fun p => hasB p.rw ((c.1 : Nat) : Int) ((c.2 : Nat) : Int)) with
 | none => exact absurd ((has_divide hu hv ha).2 ⟨k2, p, hsub p hp, k1⟩) (f2.1 hf)
 | some x =>
  obtain ⟨g1, g2⟩ := f1 x hf
  have := divide_best hd hv g1 g2 p (hsub p hp) k1
  show (!better y x) = true
  unfold better at this ⊢
  rw [e1, e2, e3, this]; rfl
theorem over_pre {id v1 v2 : Int} {ar : List Int} {l : List Pc} {i k : Nat} (hid : 0 ≤ id ∧ id ≤ 63) (h1 : 1 ≤ v1 ∧ v1 ≤ 100) (h2 : 1 ≤ v2 ∧ v2 ≤ 100) (ha : validL ar = true) (hg : goodL l = true) (hn : l.length ≤ 24) (hik : i ≤ k) (hv : v1 < v2) : overB id v2 ar (divide ar (l.take k)) id v1 ar (divide ar (l.take i)) = true := by
 have ho : ∀ j, ∀ p ∈ l.take j, okP p = true := fun j p hp => goodL_ok hg p (List.mem_of_mem_take hp)
 have hd : ∀ j, Dist (l.take j) := fun j => (goodL_dist hg).sublist (List.take_sublist j l)
 have hl : ∀ j, (l.take j).length ≤ 24 := fun j => by rw [List.length_take]; omega
 unfold overB
 rw [divide_valid hid h2 ha (ho k) (hd k) (hl k), divide_valid hid h1 ha (ho i) (hd i) (hl i), over_more ha (hd k) (ho k) (fun p hp => ?_), decide_eq_true hv]
 · simp
 · exact (List.take_sublist_take_left hik).subset hp
theorem over_not {id v1 v2 : Int} {ar ar2 : List Int} {a b : List Pc} (h : v2 ≤ v1) : overB id v2 ar a id v1 ar2 b = false := by
 unfold overB; rw [decide_eq_false (show ¬ v1 < v2 by omega)]; simp

/-! What is missing. -/
/-! Going on, one piece after the other. -/
theorem take_snoc {T : List Pc} {j : Nat} {x : Pc} (h : T[j]? = some x) : T.take (j + 1) = T.take j ++ [x] := by rw [List.take_add_one, h]; rfl
theorem good_take {T : List Pc} (h : goodL T = true) (j : Nat) : goodL (T.take j) = true := goodL_of (fun p hp => goodL_ok h p (List.mem_of_mem_take hp)) ((goodL_dist h).sublist (List.take_sublist j T))
theorem divide_step {ar : List Int} {T : List Pc} {j : Nat} {x : Pc} (ha : validL ar = true) (hg : goodL T = true) (hx : T[j]? = some x) : divide ar (divide ar (T.take j) ++ [x]) = divide ar (T.take (j + 1)) := by
 rw [take_snoc hx]
 exact divide_next ha (by rw [← take_snoc hx]; exact goodL_dist (good_take hg _))
theorem nextVer_or (ver : Int) (ar : List Int) (ps : List Pc) (x : Pc) : nextVer ver ar ps x = ver ∨ nextVer ver ar ps x = ver + 1 := by
 unfold nextVer
 split
 · exact .inr rfl
 · exact .inl rfl
theorem next_ok {id ver : Int} {ar : List Int} {T : List Pc} {j : Nat} {x : Pc} (hid : 0 ≤ id ∧ id ≤ 63) (hver : 1 ≤ ver ∧ ver ≤ 99) (ha : validL ar = true) (hg : goodL T = true) (hn : T.length ≤ 24) (hx : T[j]? = some x) : nextOk id ver ar (divide ar (T.take j)) x = true := by
 have hl : ∀ j, (T.take j).length ≤ 24 := fun j => by rw [List.length_take]; omega
 have hno : hasIm (divide ar (T.take j)) x.im = false := hasIm_of fun q hq => by
  have h9 : Dist (divide ar (T.take j) ++ [x]) := dist_next (by rw [← take_snoc hx]; exact goodL_dist (good_take hg _))
  exact (List.pairwise_append.1 h9).2.2 q hq x (by simp)
 unfold nextOk
 rw [goodL_ok hg x (List.mem_of_getElem? hx), divide_valid hid (by omega) ha (goodL_ok (good_take hg j)) (goodL_dist (good_take hg j)) (hl j), hno, divide_step ha hg hx, divide_valid hid (by rcases nextVer_or ver ar (divide ar (T.take j)) x with h | h <;> omega) ha (goodL_ok (good_take hg _)) (goodL_dist (good_take hg _)) (hl _)]
 rfl
theorem next_same {ver : Int} {ar : List Int} {T : List Pc} {j : Nat} {x : Pc} (ha : validL ar = true) (hg : goodL T = true) (hx : T[j]? = some x) (h : nextVer ver ar (divide ar (T.take j)) x = ver) : divide ar (T.take (j + 1)) = divide ar (T.take j) := by
 have hn : hasIm (divide ar (T.take (j + 1))) x.im = false := by
  unfold nextVer at h
  rw [divide_step ha hg hx] at h
  cases q : hasIm (divide ar (T.take (j + 1))) x.im
  · rfl
  · rw [q, if_pos rfl] at h; omega
 rw [take_snoc hx] at hn ⊢
 exact divide_no ha (by rw [← take_snoc hx]; exact goodL_dist (good_take hg _)) hn
end Prod
end Go.Proofs.YtajdohcgjgknmaaDoor

/- Lists of products of one's own, for the law ProductVersions. -/
namespace Go.Proofs.YtajdohcgjgknmaaDoor
open Go.RowKit
theorem PcsS.keepF {F : List Nat} {w w' : World} {a : Option Addr} {n : Nat} {l : List Prod.Pc} (h : PcsS (fun k => k ∈ F) w a n l) (hk : ∀ b ∈ F, ∀ o u, w.cell? ⟨b, o, none⟩ = some u → w'.cell? ⟨b, o, none⟩ = some u) : PcsS (fun k => k ∈ F) w' a n l := by
  obtain ⟨rs, ⟨g1, g2, g3⟩, h2, h3, h4⟩ := h
  refine ⟨rs, ⟨g1, g2, ?_⟩, Reads.of_at h2.len fun i x p hx hp => ?_, h3, h4⟩
  · rcases Nat.eq_zero_or_pos n with h0 | h0
    · exact .inl h0
    · refine g3.imp id fun ⟨b, o, ha, hx⟩ => ⟨b, o, ha, fun i x hi => ?_⟩
      have hb : b ∈ F := h3 h0 _ ha
      obtain ⟨c1, c2, c3, c4⟩ := hx i x hi
      exact ⟨hk b hb _ _ c1, hk b hb _ _ c2, hk b hb _ _ c3, hk b hb _ _ c4⟩
  · obtain ⟨q, hq, e1, e2, e3, e4⟩ := h2.at hx
    rw [hp] at hq; cases hq
    refine ⟨e1, e2, e3, ?_⟩
    obtain ⟨k1, k2, k3, k4⟩ := e4
    refine ⟨?_, k2, k3, k4⟩
    rcases Nat.eq_zero_or_pos x.n with h0 | h0
    · exact .inl (List.eq_nil_of_length_eq_zero (by omega))
    · exact k1.imp id fun ⟨b, off, ha, hc⟩ => ⟨b, off, ha, fun i hi => hk b (h4 x (List.mem_of_getElem? hx) h0 _ ha) _ _ (hc i hi)⟩
theorem PcsS.grown {S : Nat → Prop} {w w' : World} {r : Option Nat} {a : Option Addr} {n : Nat} {l : List Prod.Pc} (h : PcsS S w a n l) (hg : w.grownBy w' r) (hr : ∀ k, S k → r ≠ some k) : PcsS S w' a n l := by
  obtain ⟨rs, ⟨g1, g2, g3⟩, h2, h3, h4⟩ := h
  refine ⟨rs, ⟨g1, g2, ?_⟩, Reads.of_at h2.len fun i x p hx hp => ?_, h3, h4⟩
  · rcases Nat.eq_zero_or_pos n with h0 | h0
    · exact .inl h0
    · refine g3.imp id fun ⟨b, o, ha, hx⟩ => ⟨b, o, ha, fun i x hi => ?_⟩
      have hb : r ≠ some b := hr b (h3 h0 _ ha)
      obtain ⟨c1, c2, c3, c4⟩ := hx i x hi
      exact ⟨cell_grownR c1 hg hb, cell_grownR c2 hg hb, cell_grownR c3 hg hb, cell_grownR c4 hg hb⟩
  · obtain ⟨q, hq, e1, e2, e3, k1, k2, k3, k4⟩ := h2.at hx
    rw [hp] at hq; cases hq
    refine ⟨e1, e2, e3, ?_, k2, k3, k4⟩
    rcases Nat.eq_zero_or_pos x.n with h0 | h0
    · exact .inl (List.eq_nil_of_length_eq_zero (by omega))
    · exact k1.imp id fun ⟨b, off, ha, hc⟩ => ⟨b, off, ha, fun i hi => cell_grownR (hc i hi) hg (hr b (h4 x (List.mem_of_getElem? hx) h0 _ ha))⟩
/-- A product in four cells: its version and its pieces (number 1, the area ar). -/
def prodR (ar : List Int) : Rep (Int × List Prod.Pc) where
 rel w c x F := ∃ (b o k : Nat) (a : Option Addr) (n cp : Nat), c = [.int .i64 1, .int .i64 x.1, .slice (some ⟨b, o, none⟩) 24 k, .slice a n cp] ∧ VA w b o ar ∧ b ∈ F ∧ PcsS (fun k => k ∈ F) w a n x.2 ∧ n ≤ cp ∧ ∀ b ∈ F, ∃ o u, w.cell? ⟨b, o, none⟩ = some u
 keep := by
  rintro w w' c x F ⟨b, o, k, a, n, cp, rfl, hv, hb, hP, hn, hF⟩ h
  exact ⟨b, o, k, a, n, cp, rfl, ⟨fun i hi => h b hb _ _ (hv.1 i hi), hv.2⟩, hb, hP.keepF h, hn, fun b hb => by obtain ⟨o, u, e⟩ := hF b hb; exact ⟨o, u, h b hb _ _ e⟩⟩
 lt := by
  rintro w c x F ⟨b, o, k, a, n, cp, rfl, hv, hb, hP, hn, hF⟩ b' hb'
  obtain ⟨o, u, e⟩ := hF b' hb'
  exact World.block_lt_of_cell? _ _ e
theorem OwnL.monoS {α : Type} {S T : Nat → Prop} {R : Rep α} {n₀ : Nat} {e : TypeId} {size : Nat} {v : Value} {w : World} {l : List α} (h : OwnL (inR S R) n₀ e size v w l) (hST : ∀ b, S b → T b) : OwnL (inR T R) n₀ e size v w l := by
 obtain ⟨cs, h1, h2, h3, h4⟩ := h
 exact ⟨cs, h1, h2, h3, fun j x c hx hc => by obtain ⟨F, q1, q2⟩ := h4 j x c hx hc; exact ⟨F, ⟨q1.1, fun b hb => hST b (q1.2 b hb)⟩, q2⟩⟩
theorem OwnL.nowS {α : Type} {S : Nat → Prop} {R : Rep α} {n₀ : Nat} {e : TypeId} {size : Nat} {v : Value} {w : World} {l : List α} (h : OwnL (inR S R) n₀ e size v w l) : OwnL (inR (fun b => S b ∧ b < w.heap.size) R) n₀ e size v w l := by
 obtain ⟨cs, h1, h2, h3, h4⟩ := h
 exact ⟨cs, h1, h2, h3, fun j x c hx hc => by obtain ⟨F, q1, q2⟩ := h4 j x c hx hc; exact ⟨F, ⟨q1.1, fun b hb => ⟨q1.2 b hb, R.lt q1.1 b hb⟩⟩, q2⟩⟩
open Classical in
/-- A product whose blocks are all in S, as an element of a list of one's own. -/
theorem prod_rel {S : Nat → Prop} {w : World} {b o k : Nat} {a : Option Addr} {n cp : Nat} {ar : List Int} {ver : Int} {ps : List Prod.Pc} (hv : VA w b o ar) (hb : S b) (hP : PcsS S w a n ps) (hn : n ≤ cp) :
    ∃ F, (inR S (prodR ar)).rel w [.int .i64 1, .int .i64 ver, .slice (some ⟨b, o, none⟩) 24 k, .slice a n cp] (ver, ps) F := by
  let F := (List.range w.heap.size).filter fun b => decide (S b ∧ ∃ o u, w.cell? ⟨b, o, none⟩ = some u)
  have hF : ∀ b, b ∈ F ↔ b < w.heap.size ∧ S b ∧ ∃ o u, w.cell? ⟨b, o, none⟩ = some u := fun b => by simp [F]
  have h9 := hP.nowS
  refine ⟨F, ⟨b, o, k, a, n, cp, rfl, hv, (hF b).2 ⟨hv.lt, hb, _, _, hv.1 0 (by decide)⟩, ?_, hn, fun b hb => ((hF b).1 hb).2.2⟩, fun b hb => ((hF b).1 hb).2.1⟩
  obtain ⟨rs, h1, h2, h3, h4⟩ := h9
  refine ⟨rs, h1, h2, fun q ad e => ?_, fun x hx q ad e => ?_⟩
  · refine (hF _).2 ⟨(h3 q ad e).2, (h3 q ad e).1, ?_⟩
    obtain ⟨g1, g2, g3⟩ := h1
    rcases g3 with g3 | ⟨b', o', e', hx⟩
    · omega
    · rw [e] at e'; cases e'
      exact ⟨_, _, (hx 0 _ (List.getElem?_eq_getElem (by omega))).1⟩
  · refine (hF _).2 ⟨(h4 x hx q ad e).2, (h4 x hx q ad e).1, ?_⟩
    obtain ⟨i, hi⟩ := List.getElem?_of_mem hx
    obtain ⟨p, hp, e1, e2, e3, k1, k2, k3, k4⟩ := h2.at hi
    rcases k1 with k1 | ⟨b', off, ha, hc⟩
    · rw [k1] at k2; simp at k2; omega
    · rw [e] at ha; cases ha
      exact ⟨_, _, hc 0 (by omega)⟩
/-- An element of a list of products. -/
theorem prod_at {S : Nat → Prop} {n₀ e : Nat} {w : World} {ar : List Int} {g n cap : Nat} {l : List (Int × List Prod.Pc)} (h : OwnL (inR S (prodR ar)) n₀ e 4 (.slice (some ⟨g, 0, none⟩) n cap) w l) (hl : l.length = n) {i : Nat} {x : Int × List Prod.Pc} (hx : l[i]? = some x) :
  ∃ (b o k : Nat) (a : Option Addr) (m cp : Nat), w.cell? ⟨g, i * 4, none⟩ = some (.int .i64 1) ∧ w.cell? ⟨g, i * 4 + 1, none⟩ = some (.int .i64 x.1) ∧ w.cell? ⟨g, i * 4 + 2, none⟩ = some (.slice (some ⟨b, o, none⟩) 24 k) ∧ w.cell? ⟨g, i * 4 + 3, none⟩ = some (.slice a m cp) ∧ VA w b o ar ∧ PcsAt w a m x.2 ∧ m ≤ cp := by
 subst hl
 obtain ⟨cs, h1, h2, h3, h4⟩ := h
 have hi := (List.getElem?_eq_some_iff.1 hx).1
 obtain ⟨d, hd⟩ : ∃ d, cs[i]? = some d := ⟨_, List.getElem?_eq_getElem (by rw [h1]; exact hi)⟩
 obtain ⟨F, ⟨⟨b, o, k, a, m, cp, rfl, q1, q2, q3, q4, _⟩, _⟩, _⟩ := h4 i x d hx hd
 have f := fun j (hj : j < 4) => flatten_get h2 i hd j hj
 have c : ∀ j u, j < 4 → cs.flatten[i * 4 + j]? = some u → w.cell? ⟨g, i * 4 + j, none⟩ = some u := fun j u hj hu => by
  have := own_cell9 h3 (j := i * 4 + j) (u := u) (by omega) hu
  rwa [Nat.zero_add] at this
 exact ⟨b, o, k, a, m, cp, c 0 _ (by omega) (by simpa using f 0 (by omega)), c 1 _ (by omega) (by simpa using f 1 (by omega)), c 2 _ (by omega) (by simpa using f 2 (by omega)), c 3 _ (by omega) (by simpa using f 3 (by omega)), q1, q3.pcs, q4⟩
/-- A slice that is written out, its block as it came. -/
theorem sn_newSH {P : Program} {w : World} {ev : Operand → Value} {oi : Oper} {N : Value → World → Prop} {us : Array Value} {t : TypeId} {k c : Nat} (h1 : (execOp ev oi).run P w = .ok (.value (.slice (some ⟨w.heap.size, 0, none⟩) k c)) (w.alloc (.cells us t)))
  (h : ∀ O X, w.heap.size = O → X.heap.size = O + 1 → Ext w X → (∀ i u, us[i]? = some u → BoxAt X O i u) → X.heap[O]? = some (.cells us t (0, 0)) → N (.slice (some ⟨O, 0, none⟩) k c) X) : StepN P ev oi w N := by
 refine sn_eff h1 (h _ _ rfl (by simp) (Ext.alloc (Ext.refl _) _) (fun i u hu => ⟨?_, ?_⟩) (heap_alloc_new w _))
 · rw [cell_of_row _ _ i _ t (0, 0) (heap_alloc_new w _)]; exact hu
 · simp [go_sem]
/-- One element in a block of its own: a list of one's own. -/
theorem own_one {α : Type} {R : Rep α} {n₀ O : Nat} {e : TypeId} {w : World} {d : List Value} {x : α} {F : List Nat} (h : w.heap[O]? = some (.cells d.toArray e (0, 0))) (hb : n₀ ≤ O) (hR : R.rel w d x F) (hF : ∀ b ∈ F, b ≠ O) : OwnL R n₀ e d.length (.slice (some ⟨O, 0, none⟩) 1 1) w [x] :=
 ⟨[d], rfl, by simp, ⟨by simp, .inr ⟨O, 1, d.toArray, rfl, hb, h, Nat.le_refl _, by unfold maxLen; omega, by simp, by simp⟩⟩, fun j y c hy hc => by
  cases j with
  | zero =>
   simp at hy hc; subst hy hc
   exact ⟨F, hR, fun b hb he => hF b hb (Option.some.inj he).symm⟩
  | succ j => simp at hy⟩
theorem prodT : ElemT Tryd.prog 55 31 (.agg #[.int .i64 0, .int .i64 0, .slice none 0 0, .slice none 0 0]) 4 64 := ⟨Tryd.underlying55, by kernel_rfl, rfl, by decide⟩
namespace Prod
/-- The versions so far: the number of pieces that each was built of. -/
def versL (ar : List Int) (l : List Pc) (ms : List Nat) : List (Int × List Pc) := (List.range ms.length).map fun (j : Nat) => ((j : Int) + 1, divide ar (l.take (ms[j]?.getD 0)))
theorem versL_len (ar : List Int) (l : List Pc) (ms : List Nat) : (versL ar l ms).length = ms.length := by simp [versL]
theorem versL_at {ar : List Int} {l : List Pc} {ms : List Nat} {j m : Nat} (h : ms[j]? = some m) : (versL ar l ms)[j]? = some ((j : Int) + 1, divide ar (l.take m)) := by
 have hj := (List.getElem?_eq_some_iff.1 h).1
 unfold versL
 rw [List.getElem?_map, List.getElem?_range hj, Option.map_some, h]; rfl
theorem versL_snoc (ar : List Int) (l : List Pc) (ms : List Nat) (m : Nat) : versL ar l (ms ++ [m]) = versL ar l ms ++ [((ms.length : Int) + 1, divide ar (l.take m))] := by
  unfold versL
  rw [List.length_append, List.length_singleton, List.range_succ, List.map_append]
  congr 1
  · refine List.map_congr_left fun j hj => ?_
    rw [List.getElem?_append_left (List.mem_range.1 hj)]
  · simp
def UpTo (ms : List Nat) (i : Nat) : Prop := ms.Pairwise (· ≤ ·) ∧ ∀ m ∈ ms, m ≤ i
theorem UpTo.one : UpTo [0] 0 := ⟨List.pairwise_singleton _ _, fun m hm => by rw [List.mem_singleton.1 hm]; exact Nat.le_refl _⟩
theorem UpTo.more {ms : List Nat} {i j : Nat} (h : UpTo ms i) (hij : i ≤ j) : UpTo ms j := ⟨h.1, fun m hm => T (h.2 m hm) hij⟩
theorem UpTo.snoc {ms : List Nat} {i : Nat} (h : UpTo ms i) : UpTo (ms ++ [i + 1]) (i + 1) :=
 ⟨List.pairwise_append.2 ⟨h.1, List.pairwise_singleton _ _, fun a ha b hb => by rw [List.mem_singleton.1 hb]; have := h.2 a ha; omega⟩, fun m hm => by
  rcases List.mem_append.1 hm with hm | hm
  · have := h.2 m hm; omega
  · rw [List.mem_singleton.1 hm]; exact Nat.le_refl _⟩
theorem UpTo.le {ms : List Nat} {i a b x y : Nat} (h : UpTo ms i) (hab : a ≤ b) (ha : ms[a]? = some x) (hb : ms[b]? = some y) : x ≤ y := by
  obtain ⟨h1, e1⟩ := List.getElem?_eq_some_iff.1 ha
  obtain ⟨h2, e2⟩ := List.getElem?_eq_some_iff.1 hb
  rcases Nat.eq_or_lt_of_le hab with rfl | hlt
  · rw [ha] at hb; cases hb; exact Nat.le_refl _
  · have := List.pairwise_iff_getElem.1 h.1 a b h1 h2 hlt
    rw [e1, e2] at this; exact this
/-- Which of two versions supersedes the other. -/
theorem vers_over {ar : List Int} {l : List Pc} {ms : List Nat} {n i k x y : Nat} (ha : Globe.validL ar = true) (hg : goodL l = true) (hn : l.length ≤ 24) (hm : ms.length ≤ 50) (h : UpTo ms n) (hi : ms[i]? = some x) (hk : ms[k]? = some y) : overB 1 ((i : Int) + 1) ar (divide ar (l.take x)) 1 ((k : Int) + 1) ar (divide ar (l.take y)) = decide (k < i) := by
  have hi' := (List.getElem?_eq_some_iff.1 hi).1
  have hk' := (List.getElem?_eq_some_iff.1 hk).1
  by_cases q : k < i
  · rw [decide_eq_true q]
    exact over_pre (by omega) (by omega) (by omega) ha hg hn (h.le (Nat.le_of_lt q) hk hi) (by omega)
  · rw [decide_eq_false q]
    exact over_not (by omega)
end Prod
end Go.Proofs.YtajdohcgjgknmaaDoor

/- The walk of the law ProductVersions. -/
namespace Go.Proofs.YtajdohcgjgknmaaDoor
open Go.RowKit Go.Shelf

set_option maxRecDepth 1000000 in
set_option maxHeartbeats 4000000 in
theorem ProductVersions_walk (w : World) (v0 : Value) (o0 : Quads w v0) (v1 : Value) (o1 : Quads w v1) (hT : Tab w) :
  Calls Tryd.prog 6 #[v0, v1] w fun e w' => e = .returned (.bool true) ∧ Ext w w' := by
 obtain ⟨a0, n0, c0, q0, rfl, hnc0, hcm0, hz0, Q0⟩ := o0
 obtain ⟨a1, n1, c1, q1, rfl, hnc1, hcm1, hz1, Q1⟩ := o1
 refine calls_cw 88 [(1, .slice a1 n1 c1), (0, .slice a0 n0 c0)] Tryd.func6 rfl Tryd.ntmps6 (by kernel_rfl) (by kernel_rfl) (fun L => ?_)
 have hE : Ext w w := Ext.refl w
 refine cw_seq ?_; refine cw_plain ?_; refine pT (.bool false) ?_; refine pl_nil ?_; refine qw_then ?_; refine cw_seq ?_; refine cw_seq ?_; refine cw_plain ?_
 refine pS (sn_call (f := 8) (args := #[]) (by kernel_rfl) ((sane_c _ (hT.ext (Ext.refl _))).mono ?_))
 rintro e w1 ⟨rfl, hb⟩
 replace hE := hE.trans hb; have hs2 := hb.size; clear hb
 refine ⟨_, rfl, ?_⟩
 refine pT (.bool false) ?_; refine pl_nil ?_; refine qw_then ?_
 refine cw_f (by kernel_rfl) ?_
 refine cw_skip ?_
 refine qw_then ?_; refine cw_seq ?_; refine cw_plain ?_; refine pT (.slice a1 n1 c1) ?_
 refine pS (sn_call (f := 10) (args := #[.slice a1 n1 c1]) (by kernel_rfl) ((Pieces_c _ Q1 hE (by omega) (by omega)).mono ?_))
 rintro e w3 ⟨a, k, c, ps, rfl, ho, hl, hkc, hg, hb⟩
 replace hE := hE.trans hb; have hs4 := hb.size; clear hb
 have hP := ho.weaken.pcs hl (by have := hg.1; omega)
 have hk8 : k ≤ 8 := by have := hg.1; omega
 have hgl := hg.good
 obtain ⟨rs, hRw, hrd⟩ := id hP
 clear ho; have hX5 : Ext w3 w3 := Ext.refl _
 refine ⟨_, rfl, ?_⟩
 refine pT (.slice a k c) ?_; refine pl_nil ?_; refine qw_then ?_; refine cw_seq ?_; refine cw_plain ?_; refine pT (.slice a0 n0 c0) ?_
 refine pS (sn_call (f := 9) (args := #[.slice a0 n0 c0]) (by kernel_rfl) ((Area_c _ _ Q0 hE (by omega)).mono ?_))
 rintro e w9 ⟨B6, ar, rfl, hn7, hva, hr8, hb⟩
 replace hE := hE.trans hb; replace hX5 := hX5.trans hb; have hs10 := hb.size; clear hb
 have hr8v := hr8.va hva
 have lt11 := hr8v.lt
 refine ⟨_, rfl, ?_⟩
 refine pS (sn_call (f := 11) (args := #[.int .i64 1, .agg #[.slice (some ⟨B6, 0, none⟩) 24 24], .slice none 0 0]) (by kernel_rfl) (((Build_c (id := 1) (l := ps.take 0) _ _ (by omega) (aa_q (hr8v.aa)) (Ext.refl _) (PcsAt.nil w9 none) (Ext.refl _) (hT.ext hE)).mono fun _ _ h => h.eq (Prod.build_ok (by omega) hva (Prod.good_take hgl 0) (by simp)) rfl rfl).mono ?_))
 rintro e w26 ⟨a12, n13, k14, a15, n16, c17, rfl, hA18, hfr19, hP20, hnc21, hpl22, hb⟩
 replace hE := hE.trans hb; replace hX5 := hX5.trans hb; replace hr8v := hr8v.ext hb; have hs27 := hb.size; clear hb
 obtain ⟨b23, o24, rfl, rfl, hV25⟩ := va_of hA18 (hva)
 have hfr19l := hfr19 _ rfl
 have lt28 := hV25.lt
 have hP20n : PcsS (fun k => w9.heap.size ≤ k ∧ k < w26.heap.size) w26 a15 n16 (Prod.divide ar (ps.take 0)) := PcsS.both hP20
 refine ⟨_, rfl, ?_⟩
 refine pT (.tuple #[.agg #[.int .i64 1, .int .i64 1, .slice (some ⟨b23, o24, none⟩) 24 k14, .slice a15 n16 c17], .int .i64 0]) ?_; refine pT (.agg #[.int .i64 1, .int .i64 1, .slice (some ⟨b23, o24, none⟩) 24 k14, .slice a15 n16 c17]) ?_; refine pT (.int .i64 0) ?_
 refine pS (sn_new (us := #[.int .i64 0, .int .i64 0, .slice none 0 0, .slice none 0 0]) (t := 31) (by kernel_rfl) ?_)
 intro O29 X30 hzO29 hyO29 hb hbx; have ⟨bO29_0, bO29_1, bO29_2, bO29_3⟩ := bx4 hbx; clear hbx
 replace hE := hE.trans hb; replace hX5 := hX5.trans hb; replace hr8v := hr8v.ext hb; replace hV25 := hV25.ext hb; replace hP20n := hP20n.ext hb; have hs31 := hb.size; clear hb; have lt32 := bO29_0.lt
 refine pP (sn_setK4 (O := O29) (j := 0) (v0 := .int .i64 1) (v1 := .int .i64 1) (v2 := .slice (some ⟨b23, o24, none⟩) 24 k14) (v3 := .slice a15 n16 c17) (ex_store (p := .pointer (some ⟨O29, 0, none⟩)) (v := .agg #[.int .i64 1, .int .i64 1, .slice (some ⟨b23, o24, none⟩) 24 k14, .slice a15 n16 c17]) rfl (by kernel_rfl) (by kernel_rfl) (st31 bO29_0.1 bO29_0.2 bO29_1.1 bO29_1.2 bO29_2.1 bO29_2.2 bO29_3.1 bO29_3.2)) bO29_0 bO29_1 bO29_2 bO29_3 ?_)
 intro X33 ho hv0 hv1 hv2 hv3 hk; replace hE := ho.ext hE (T (T hs2 (T hs4 (T hs10 hs27))) (Nat.le_of_eq hzO29)); replace hX5 := ho.ext hX5 (T (T hs10 hs27) (Nat.le_of_eq hzO29)); replace hr8v := ho.va (Nat.ne_of_gt (Nat.lt_of_lt_of_le lt11 (T hs27 (Nat.le_of_eq hzO29)))) hr8v; replace hV25 := ho.va (Nat.ne_of_gt (Nat.lt_of_lt_of_le lt28 (Nat.le_of_eq hzO29))) hV25; replace hP20n := hP20n.turn ho (fun h => absurd h.2 (Nat.not_lt_of_le (Nat.le_of_eq hzO29))); have hs34 : X30.heap.size ≤ X33.heap.size := Nat.le_of_eq ho.size.symm; clear ho hk bO29_0 bO29_1 bO29_2 bO29_3; have bO29_0 := hv0; clear hv0; have bO29_1 := hv1; clear hv1; have bO29_2 := hv2; clear hv2; have bO29_3 := hv3; clear hv3; refine pT (.int .i64 0) ?_; refine pl_nil ?_; refine qw_then ?_; refine cC3 5 6 7 (fun L => ?_); refine cw_seq ?_; refine cw_seq ?_; refine cw_plain ?_; refine pT (.int .i64 0) ?_; refine pT (.bool false) ?_; refine pl_nil ?_; refine qw_then ?_
 refine cw_f (by kernel_rfl) ?_
 refine cw_skip ?_
 refine qw_then ?_; refine cw_seq ?_
 have hPa35 : PcsS (fun k => k ≠ O29) X33 a15 n16 (Prod.divide ar (ps.take 0)) := PcsS.mono hP20n (fun k hk e => (fun h => absurd h.2 (Nat.not_lt_of_le (Nat.le_of_eq hzO29))) (e ▸ hk))
 have hPn36 : PcsS (fun k => k ≠ O29 ∧ k < X33.heap.size) X33 a15 n16 (Prod.divide ar (ps.take 0)) := PcsS.nowS hPa35
 refine cw_plain ?_
 refine pU (.agg #[.int .i64 1, .int .i64 1, .slice (some ⟨b23, o24, none⟩) 24 k14, .slice a15 n16 c17]) (ex_load rfl (by kernel_rfl) (ld31 (bO29_0.1) (bO29_1.1) (bO29_2.1) (bO29_3.1))) ?_
 refine pS (sn_newSH (us := #[.int .i64 1, .int .i64 1, .slice (some ⟨b23, o24, none⟩) 24 k14, .slice a15 n16 c17]) (t := 31) (k := 1) (c := 1) (by kernel_rfl) ?_)
 intro O37 X38 hO hOs hb hbx hpO37
 have hzO37 := hO; have hyO37 := hOs; clear hO hOs
 have ⟨bO37_0, bO37_1, bO37_2, bO37_3⟩ := bx4 hbx; clear hbx
 replace hE := hE.trans hb; replace hX5 := hX5.trans hb; replace hr8v := hr8v.ext hb; replace hV25 := hV25.ext hb; replace hPn36 := hPn36.ext hb; replace bO29_0 := BoxAt.ext hb bO29_0; replace bO29_1 := BoxAt.ext hb bO29_1; replace bO29_2 := BoxAt.ext hb bO29_2; replace bO29_3 := BoxAt.ext hb bO29_3; have hs39 := hb.size; clear hb; have lt40 := bO37_0.lt
 obtain ⟨F9, hF9⟩ := prod_rel (S := fun b => b ≠ O29 ∧ b < X33.heap.size) (ver := 1) hV25 ⟨(Nat.ne_of_lt (Nat.lt_of_lt_of_le lt28 (Nat.le_of_eq hzO29))), Nat.lt_of_lt_of_le lt28 (T hs31 hs34)⟩ hPn36 (by omega)
 have owV : OwnL (inR (fun b => b ≠ O29) (prodR ar)) O37 31 4 (.slice (some ⟨O37, 0, none⟩) 1 1) X38 (Prod.versL ar ps ([0])) := OwnL.monoS (own_one hpO37 (Nat.le_refl _) hF9 (fun b hb => Nat.ne_of_lt (Nat.lt_of_lt_of_le (hF9.2 b hb).2 (Nat.le_of_eq hzO37)))) (fun b h => h.1)
 refine pT (.slice (some ⟨O37, 0, none⟩) 1 1) ?_; refine pl_nil ?_; refine qw_then ?_; refine cw_seq ?_; refine cw_seq ?_; refine cw_plain ?_; refine pT (.int .i64 0) ?_; refine pl_nil ?_; refine qw_then ?_
 refine cw_block ?_
 refine cw_loop [5, 6, 8, 9] (fun ws' wr m => ∃ i : Nat, ∃ ms : List Nat, ∃ nV : Nat, ∃ gL : Nat, ∃ cV : Nat, ∃ bA : Nat, ∃ oA : Nat, ∃ kA : Nat, ∃ aP : Option Addr, ∃ nP : Nat, ∃ cP : Nat, ws' = [(5, .slice a k c), (6, .pointer (some ⟨O29, 0, none⟩)), (8, .slice (some ⟨gL, 0, none⟩) nV cV), (9, .int .i64 (((i : Nat) : Int) : Int))] ∧ m = k - i ∧ X38.heap.size ≤ wr.heap.size ∧ Ext w wr ∧ Ext w3 wr ∧ VA wr B6 0 ar ∧ BoxAt wr O29 0 (.int .i64 1) ∧ BoxAt wr O29 1 (.int .i64 (((nV : Nat) : Int) : Int)) ∧ BoxAt wr O29 2 (.slice (some ⟨bA, oA, none⟩) 24 kA) ∧ BoxAt wr O29 3 (.slice aP nP cP) ∧ VA wr bA oA ar ∧ PcsS (fun k => k ≠ O29) wr aP nP (Prod.divide ar (ps.take i)) ∧ OwnL (inR (fun b => b ≠ O29) (prodR ar)) O37 31 4 (.slice (some ⟨gL, 0, none⟩) nV cV) wr (Prod.versL ar ps ms) ∧ i ≤ k ∧ ms.length = nV ∧ (Prod.versL ar ps ms).length = nV ∧ Prod.UpTo ms i ∧ 1 ≤ nV ∧ nV ≤ i + 1 ∧ Pl aP ∧ nP ≤ cP ∧ nV ≤ cV ∧ Hid (O29 ≠ bA)) (ws0 := [(5, .slice a k c), (6, .pointer (some ⟨O29, 0, none⟩)), (8, .slice (some ⟨O37, 0, none⟩) 1 1), (9, .int .i64 0)]) (by kernel_rfl) _ ⟨0, [0], 1, O37, 1, b23, o24, k14, a15, n16, c17, rfl, rfl, Nat.le_refl _, hE, hX5, hr8v, bO29_0, bO29_1, bO29_2, bO29_3, hV25, (PcsS.mono hPn36 (fun _ h => h.1)), owV, by omega, rfl, rfl, Prod.UpTo.one, by omega, by omega, hpl22, by omega, by omega, Lib.hid (Nat.ne_of_gt (Nat.lt_of_lt_of_le lt28 (Nat.le_of_eq hzO29)))⟩ ?_
 clear hr8v hV25 hPn36 bO29_0 bO29_1 bO29_2 bO29_3 owV hE hX5
 rintro m43 L ws w42 ⟨i, ms, nV, gL, cV, bA, oA, kA, aP, nP, cP, rfl, rfl, hs41, hE, hX5, hr8v, bx0, bx1, bx2, bx3, vA9, hPs9, owV9, hi, hnV, hlV, hup, hv1, hv2, hplP, hncP, hcpV, hneA⟩
 have lt44 := vA9.lt
 by_cases hlt : i < k
 ·
  refine cw_seq ?_; refine cw_seq ?_; refine cw_plain ?_; refine pT (.int .i64 (((i : Nat) : Int) : Int)) ?_; refine pT (.slice a k c) ?_; refine pT (.int .i64 (((k : Nat) : Int) : Int)) ?_
  refine pU (.bool true) (ev_dec (show _ = Result.ok (Next.value (Value.bool (decide ((((i : Nat) : Int) : Int) < (((k : Nat) : Int) : Int))))) _ from by kernel_rfl) (by omega)) ?_
  refine pl_nil ?_; refine qw_then ?_
  refine cw_t (by kernel_rfl) ?_
  refine cw_skip ?_
  refine qw_then ?_; refine cw_seq ?_
  refine cw_block ?_
  refine cw_seq ?_
  have hPn45 : PcsS (fun k => k ≠ O29 ∧ k < w42.heap.size) w42 aP nP (Prod.divide ar (ps.take i)) := PcsS.nowS hPs9
  have owN46 := OwnL.nowS owV9
  have hbk47 := owN46.lt
  obtain ⟨b48, o49, x, ar50, k51, c52, rfl, hx53, hp54, hp55, hp56, hp57, hA58⟩ := hP.at hlt
  obtain ⟨v2, hv9⟩ : ∃ v2, Prod.nextVer ((nV : Nat) : Int) ar (Prod.divide ar (ps.take i)) x = v2 := ⟨_, rfl⟩
  have hvor := Prod.nextVer_or ((nV : Nat) : Int) ar (Prod.divide ar (ps.take i)) x
  rw [hv9] at hvor
  refine cw_join (fun ws' Y => ∃ b72 : Nat, ∃ o73 : Nat, ∃ k63 : Nat, ∃ a64 : Option Addr, ∃ n65 : Nat, ∃ c66 : Nat, ∃ O78 : Nat, ws' = [(5, .slice (some ⟨b48, o49, none⟩) k c), (6, .pointer (some ⟨O29, 0, none⟩)), (8, .slice (some ⟨gL, 0, none⟩) nV cV), (9, .int .i64 (((i : Nat) : Int) : Int)), (10, .pointer (some ⟨O78, 0, none⟩)), (11, .int .i64 0)] ∧ Ext w Y ∧ Ext w3 Y ∧ VA Y B6 0 ar ∧ BoxAt Y O29 0 (.int .i64 1) ∧ BoxAt Y O29 1 (.int .i64 (((nV : Nat) : Int) : Int)) ∧ BoxAt Y O29 2 (.slice (some ⟨bA, oA, none⟩) 24 kA) ∧ BoxAt Y O29 3 (.slice aP nP cP) ∧ VA Y bA oA ar ∧ PcsS (fun k => k ≠ O29 ∧ k < w42.heap.size) Y aP nP (Prod.divide ar (ps.take i)) ∧ OwnL (inR (fun b => b ≠ O29 ∧ b < w42.heap.size) (prodR ar)) O37 31 4 (.slice (some ⟨gL, 0, none⟩) nV cV) Y (Prod.versL ar ps ms) ∧ n65 ≤ c66 ∧ Pl a64 ∧ VA Y b72 o73 ar ∧ PcsS (fun k => k ≠ O29 ∧ w42.heap.size ≤ k) Y a64 n65 (Prod.divide ar (ps.take (i + 1))) ∧ BoxAt Y O78 0 (.int .i64 1) ∧ BoxAt Y O78 1 (.int .i64 v2) ∧ BoxAt Y O78 2 (.slice (some ⟨b72, o73, none⟩) 24 k63) ∧ BoxAt Y O78 3 (.slice a64 n65 c66) ∧ w42.heap.size ≤ Y.heap.size ∧ w42.heap.size ≤ b72 ∧ w42.heap.size ≤ O78 ∧ Hid (b72 ≠ O78)) (fun hJ => ?_) ?_
  ·
   refine cw_draw [(some 35, [6], []), (some 36, [5], []), (some 37, [9], []), (some 38, [36, 37], [1, 2]), (some 39, [38], [3]), (some 40, [35, 39], [0, 4]), (some 34, [40], [5]), (some 41, [34], [6]), (some 42, [34], [6]), (some 10, [], []), (none, [10, 41], [9, 7, 5, 0, 1, 2, 3, 4, 5, 6, 7, 9]), (some 11, [42], [8, 10, 0, 1, 2, 3, 4, 5, 6, 7, 8, 9, 10])] (fun w' => w'.cell? ⟨O29, 0, none⟩ = some (.int .i64 1) ∧ w'.cell? ⟨O29, 1, none⟩ = some (.int .i64 (((nV : Nat) : Int) : Int)) ∧ w'.cell? ⟨O29, 2, none⟩ = some (.slice (some ⟨bA, oA, none⟩) 24 kA) ∧ w'.cell? ⟨O29, 3, none⟩ = some (.slice aP nP cP) ∧ w'.cell? ⟨b48, o49 + i * 4, none⟩ = some (.int .i64 x.im) ∧ w'.cell? ⟨b48, o49 + i * 4 + 1, none⟩ = some (.int .i64 x.t) ∧ w'.cell? ⟨b48, o49 + i * 4 + 2, none⟩ = some (.bool x.cl) ∧ w'.cell? ⟨b48, o49 + i * 4 + 3, none⟩ = some (.slice ar50 k51 c52)) (by kernel_rfl) (by kernel_rfl) (by kernel_rfl) (by kernel_rfl) ((calm_then (calm_block (calm_then (calm_then (calm_block (calm_then calm_body))))))) (⟨bx0.1, bx1.1, bx2.1, bx3.1, (hX5.cell hp54), (hX5.cell hp55), (hX5.cell hp56), (hX5.cell hp57)⟩) (fun ops Q X59 hb hL hR hK => ?_)
   replace hE := hE.trans hb; replace hX5 := hX5.trans hb; replace hr8v := hr8v.ext hb; replace bx0 := BoxAt.ext hb bx0; replace bx1 := BoxAt.ext hb bx1; replace bx2 := BoxAt.ext hb bx2; replace bx3 := BoxAt.ext hb bx3; replace vA9 := vA9.ext hb; replace hPn45 := hPn45.ext hb; replace owN46 := owN46.ext hb; have hs60 := hb.size; clear hb
   refine wT 0 (.agg #[.int .i64 1, .int .i64 (((nV : Nat) : Int) : Int), .slice (some ⟨bA, oA, none⟩) 24 kA, .slice aP nP cP]) hR (fun w hS => ex_load rfl (by kernel_rfl) (ld31 (hS.1) (hS.2.1) (hS.2.2.1) (hS.2.2.2.1))) (⟨bx0.1, bx1.1, bx2.1, bx3.1, (hX5.cell hp54), (hX5.cell hp55), (hX5.cell hp56), (hX5.cell hp57)⟩) ?_
   refine wT 1 (.slice (some ⟨b48, o49, none⟩) k c) hR (fun w _ => by kernel_rfl) (⟨bx0.1, bx1.1, bx2.1, bx3.1, (hX5.cell hp54), (hX5.cell hp55), (hX5.cell hp56), (hX5.cell hp57)⟩) ?_
   refine wT 2 (.int .i64 (((i : Nat) : Int) : Int)) hR (fun w _ => by kernel_rfl) (⟨bx0.1, bx1.1, bx2.1, bx3.1, (hX5.cell hp54), (hX5.cell hp55), (hX5.cell hp56), (hX5.cell hp57)⟩) ?_
   refine wT 3 (.pointer (some ⟨b48, o49 + i * 4, none⟩)) hR (fun w _ => ex_index (p := .slice (some ⟨b48, o49, none⟩) k c) (i := .int .i64 ((i : Nat) : Int)) rfl (by kernel_rfl) (by kernel_rfl) (ix28 (k := i) (by omega))) (⟨bx0.1, bx1.1, bx2.1, bx3.1, (hX5.cell hp54), (hX5.cell hp55), (hX5.cell hp56), (hX5.cell hp57)⟩) ?_
   refine wT 4 (.agg #[.int .i64 x.im, .int .i64 x.t, .bool x.cl, .slice ar50 k51 c52]) hR (fun w hS => ex_load rfl (by kernel_rfl) (ld41 (hS.2.2.2.2.1) (hS.2.2.2.2.2.1) (hS.2.2.2.2.2.2.1) (hS.2.2.2.2.2.2.2))) (⟨bx0.1, bx1.1, bx2.1, bx3.1, (hX5.cell hp54), (hX5.cell hp55), (hX5.cell hp56), (hX5.cell hp57)⟩) ?_
   refine wd_two 5 9 hR rfl rfl (by kernel_rfl) (by kernel_rfl) (by kernel_rfl) (by kernel_rfl) ?_ ?_
   ·
    refine sn_call (f := 21) (args := #[.agg #[.int .i64 1, .int .i64 (((nV : Nat) : Int) : Int), .slice (some ⟨bA, oA, none⟩) 24 kA, .slice aP nP cP], .agg #[.int .i64 x.im, .int .i64 x.t, .bool x.cl, .slice ar50 k51 c52]]) (by kernel_rfl) (((Next_c (id := 1) (ver := ((nV : Nat) : Int)) (x := x) _ _ (by omega) (aa_q (vA9.aa)) (Ext.refl _) (hPn45.pcs) (Ext.refl _) (hT.ext hE) hplP (aa_q (hA58)) hX5).mono fun _ _ h => h.eq (Prod.next_ok (by omega) (by omega) hva hgl (by omega) hx53) hv9 (Prod.divide_step hva hgl hx53)).mono ?_)
    rintro e w75 ⟨a61, n62, k63, a64, n65, c66, rfl, hA67, hfr68, hP69, hnc70, hpl71, hb⟩
    replace hE := hE.trans hb; replace hX5 := hX5.trans hb; replace hr8v := hr8v.ext hb; replace bx0 := BoxAt.ext hb bx0; replace bx1 := BoxAt.ext hb bx1; replace bx2 := BoxAt.ext hb bx2; replace bx3 := BoxAt.ext hb bx3; replace vA9 := vA9.ext hb; replace hPn45 := hPn45.ext hb; replace owN46 := owN46.ext hb; have hs76 := hb.size; clear hb
    obtain ⟨b72, o73, rfl, rfl, hV74⟩ := va_of hA67 (hva)
    have hfr68l := hfr68 _ rfl
    have lt77 := hV74.lt
    have hP69n : PcsS (fun k => X59.heap.size ≤ k ∧ k < w75.heap.size) w75 a64 n65 (Prod.divide ar (ps.take (i + 1))) := PcsS.both hP69
    refine ⟨_, rfl, ⟨bx0.1, bx1.1, bx2.1, bx3.1, (hX5.cell hp54), (hX5.cell hp55), (hX5.cell hp56), (hX5.cell hp57)⟩, ?_⟩
    refine wT 6 (.tuple #[.agg #[.int .i64 1, .int .i64 v2, .slice (some ⟨b72, o73, none⟩) 24 k63, .slice a64 n65 c66], .int .i64 0]) hR (fun w _ => by kernel_rfl) (⟨bx0.1, bx1.1, bx2.1, bx3.1, (hX5.cell hp54), (hX5.cell hp55), (hX5.cell hp56), (hX5.cell hp57)⟩) ?_
    refine wT 7 (.agg #[.int .i64 1, .int .i64 v2, .slice (some ⟨b72, o73, none⟩) 24 k63, .slice a64 n65 c66]) hR (fun w _ => by kernel_rfl) (⟨bx0.1, bx1.1, bx2.1, bx3.1, (hX5.cell hp54), (hX5.cell hp55), (hX5.cell hp56), (hX5.cell hp57)⟩) ?_
    refine wT 8 (.int .i64 0) hR (fun w _ => by kernel_rfl) (⟨bx0.1, bx1.1, bx2.1, bx3.1, (hX5.cell hp54), (hX5.cell hp55), (hX5.cell hp56), (hX5.cell hp57)⟩) ?_
    refine wS 9 hR (sn_new (us := #[.int .i64 0, .int .i64 0, .slice none 0 0, .slice none 0 0]) (t := 31) (by kernel_rfl) ?_)
    intro O78 X79 hzO78 hyO78 hb hbx; have ⟨bO78_0, bO78_1, bO78_2, bO78_3⟩ := bx4 hbx; clear hbx
    replace hE := hE.trans hb; replace hX5 := hX5.trans hb; replace hr8v := hr8v.ext hb; replace bx0 := BoxAt.ext hb bx0; replace bx1 := BoxAt.ext hb bx1; replace bx2 := BoxAt.ext hb bx2; replace bx3 := BoxAt.ext hb bx3; replace vA9 := vA9.ext hb; replace hPn45 := hPn45.ext hb; replace owN46 := owN46.ext hb; replace hV74 := hV74.ext hb; replace hP69n := hP69n.ext hb; have hs80 := hb.size; clear hb; have lt81 := bO78_0.lt
    refine ⟨⟨bx0.1, bx1.1, bx2.1, bx3.1, (hX5.cell hp54), (hX5.cell hp55), (hX5.cell hp56), (hX5.cell hp57)⟩, ?_⟩
    refine wS 10 hR (sn_setK4 (O := O78) (j := 0) (v0 := .int .i64 1) (v1 := .int .i64 v2) (v2 := .slice (some ⟨b72, o73, none⟩) 24 k63) (v3 := .slice a64 n65 c66) (ex_store (p := .pointer (some ⟨O78, 0, none⟩)) (v := .agg #[.int .i64 1, .int .i64 v2, .slice (some ⟨b72, o73, none⟩) 24 k63, .slice a64 n65 c66]) rfl (by kernel_rfl) (by kernel_rfl) (st31 bO78_0.1 bO78_0.2 bO78_1.1 bO78_1.2 bO78_2.1 bO78_2.2 bO78_3.1 bO78_3.2)) bO78_0 bO78_1 bO78_2 bO78_3 ?_)
    intro X82 ho hv0 hv1 hv2 hv3 hk; replace hE := ho.ext hE (T (T hs2 (T hs4 (T hs10 (T hs27 (T hs31 (T hs34 (T hs39 (T hs41 (T hs60 hs76))))))))) (Nat.le_of_eq hzO78)); replace hX5 := ho.ext hX5 (T (T hs10 (T hs27 (T hs31 (T hs34 (T hs39 (T hs41 (T hs60 hs76))))))) (Nat.le_of_eq hzO78)); replace hr8v := ho.va (Nat.ne_of_gt (Nat.lt_of_lt_of_le lt11 (T (T hs27 (T hs31 (T hs34 (T hs39 (T hs41 (T hs60 hs76)))))) (Nat.le_of_eq hzO78)))) hr8v; replace bx0 := ho.box (Nat.ne_of_gt (Nat.lt_of_lt_of_le lt32 (T (T hs34 (T hs39 (T hs41 (T hs60 hs76)))) (Nat.le_of_eq hzO78)))) bx0; replace bx1 := ho.box (Nat.ne_of_gt (Nat.lt_of_lt_of_le lt32 (T (T hs34 (T hs39 (T hs41 (T hs60 hs76)))) (Nat.le_of_eq hzO78)))) bx1; replace bx2 := ho.box (Nat.ne_of_gt (Nat.lt_of_lt_of_le lt32 (T (T hs34 (T hs39 (T hs41 (T hs60 hs76)))) (Nat.le_of_eq hzO78)))) bx2; replace bx3 := ho.box (Nat.ne_of_gt (Nat.lt_of_lt_of_le lt32 (T (T hs34 (T hs39 (T hs41 (T hs60 hs76)))) (Nat.le_of_eq hzO78)))) bx3; replace vA9 := ho.va (Nat.ne_of_gt (Nat.lt_of_lt_of_le lt44 (T (T hs60 hs76) (Nat.le_of_eq hzO78)))) vA9; replace hPn45 := hPn45.turn ho (fun h => absurd h.2 (Nat.not_lt_of_le (T (T hs60 hs76) (Nat.le_of_eq hzO78)))); replace owN46 := owN46.turn ho (own_not2 hbk47 (T (T hs60 hs76) (Nat.le_of_eq hzO78))) (fun _ _ _ h b hb e => absurd (h.2 b hb).2 (Nat.not_lt_of_le (e ▸ (T (T hs60 hs76) (Nat.le_of_eq hzO78))))); replace hV74 := ho.va (Nat.ne_of_gt (Nat.lt_of_lt_of_le lt77 (Nat.le_of_eq hzO78))) hV74; replace hP69n := hP69n.turn ho (fun h => absurd h.2 (Nat.not_lt_of_le (Nat.le_of_eq hzO78))); have hs83 : X79.heap.size ≤ X82.heap.size := Nat.le_of_eq ho.size.symm; clear ho hk bO78_0 bO78_1 bO78_2 bO78_3; have bO78_0 := hv0; clear hv0; have bO78_1 := hv1; clear hv1; have bO78_2 := hv2; clear hv2; have bO78_3 := hv3; clear hv3
    refine ⟨⟨bx0.1, bx1.1, bx2.1, bx3.1, (hX5.cell hp54), (hX5.cell hp55), (hX5.cell hp56), (hX5.cell hp57)⟩, ?_⟩
    refine wT 11 (.int .i64 0) hR (fun w _ => by kernel_rfl) (⟨bx0.1, bx1.1, bx2.1, bx3.1, (hX5.cell hp54), (hX5.cell hp55), (hX5.cell hp56), (hX5.cell hp57)⟩) ?_
    refine wd_end hL hR hK (by kernel_rfl) ?_
    have hPa84 : PcsS (fun k => k ≠ O29 ∧ w42.heap.size ≤ k) X82 a64 n65 (Prod.divide ar (ps.take (i + 1))) := PcsS.mono hP69n (fun k hk => ⟨fun e => (fun h => absurd h.1 (Nat.not_le_of_lt (Nat.lt_of_lt_of_le lt32 (T hs34 (T hs39 (T hs41 hs60)))))) (e ▸ hk), T hs60 hk.1⟩)
    exact qw_leaf hJ [5, 6, 8, 9, 10, 11] (ws' := [(5, .slice (some ⟨b48, o49, none⟩) k c), (6, .pointer (some ⟨O29, 0, none⟩)), (8, .slice (some ⟨gL, 0, none⟩) nV cV), (9, .int .i64 (((i : Nat) : Int) : Int)), (10, .pointer (some ⟨O78, 0, none⟩)), (11, .int .i64 0)]) (by kernel_rfl) ⟨b72, o73, k63, a64, n65, c66, O78, rfl, hE, hX5, hr8v, bx0, bx1, bx2, bx3, vA9, hPn45, owN46, hnc70, hpl71, hV74, hPa84, bO78_0, bO78_1, bO78_2, bO78_3, (T hs60 (T hs76 (T hs80 hs83))), (T hs60 hfr68l), (T (T hs60 hs76) (Nat.le_of_eq hzO78)), Lib.hid (Nat.ne_of_lt (Nat.lt_of_lt_of_le lt77 (Nat.le_of_eq hzO78)))⟩
   ·
    refine sn_new (us := #[.int .i64 0, .int .i64 0, .slice none 0 0, .slice none 0 0]) (t := 31) (by kernel_rfl) ?_
    intro O85 X86 hzO85 hyO85 hb hbx; have ⟨bO85_0, bO85_1, bO85_2, bO85_3⟩ := bx4 hbx; clear hbx
    replace hE := hE.trans hb; replace hX5 := hX5.trans hb; replace hr8v := hr8v.ext hb; replace bx0 := BoxAt.ext hb bx0; replace bx1 := BoxAt.ext hb bx1; replace bx2 := BoxAt.ext hb bx2; replace bx3 := BoxAt.ext hb bx3; replace vA9 := vA9.ext hb; replace hPn45 := hPn45.ext hb; replace owN46 := owN46.ext hb; have hs87 := hb.size; clear hb; have lt88 := bO85_0.lt
    refine ⟨⟨bx0.1, bx1.1, bx2.1, bx3.1, (hX5.cell hp54), (hX5.cell hp55), (hX5.cell hp56), (hX5.cell hp57)⟩, ?_⟩
    refine wS 5 hR (sn_call (f := 21) (args := #[.agg #[.int .i64 1, .int .i64 (((nV : Nat) : Int) : Int), .slice (some ⟨bA, oA, none⟩) 24 kA, .slice aP nP cP], .agg #[.int .i64 x.im, .int .i64 x.t, .bool x.cl, .slice ar50 k51 c52]]) (by kernel_rfl) (((Next_c (id := 1) (ver := ((nV : Nat) : Int)) (x := x) _ _ (by omega) (aa_q (vA9.aa)) (Ext.refl _) (hPn45.pcs) (Ext.refl _) (hT.ext hE) hplP (aa_q (hA58)) hX5).mono fun _ _ h => h.eq (Prod.next_ok (by omega) (by omega) hva hgl (by omega) hx53) hv9 (Prod.divide_step hva hgl hx53)).mono ?_))
    rintro e w103 ⟨a89, n90, k91, a92, n93, c94, rfl, hA95, hfr96, hP97, hnc98, hpl99, hb⟩
    replace hE := hE.trans hb; replace hX5 := hX5.trans hb; replace hr8v := hr8v.ext hb; replace bx0 := BoxAt.ext hb bx0; replace bx1 := BoxAt.ext hb bx1; replace bx2 := BoxAt.ext hb bx2; replace bx3 := BoxAt.ext hb bx3; replace vA9 := vA9.ext hb; replace hPn45 := hPn45.ext hb; replace owN46 := owN46.ext hb; replace bO85_0 := BoxAt.ext hb bO85_0; replace bO85_1 := BoxAt.ext hb bO85_1; replace bO85_2 := BoxAt.ext hb bO85_2; replace bO85_3 := BoxAt.ext hb bO85_3; have hs104 := hb.size; clear hb
    obtain ⟨b100, o101, rfl, rfl, hV102⟩ := va_of hA95 (hva)
    have hfr96l := hfr96 _ rfl
    have lt105 := hV102.lt
    have hP97n : PcsS (fun k => X86.heap.size ≤ k ∧ k < w103.heap.size) w103 a92 n93 (Prod.divide ar (ps.take (i + 1))) := PcsS.both hP97
    refine ⟨_, rfl, ⟨bx0.1, bx1.1, bx2.1, bx3.1, (hX5.cell hp54), (hX5.cell hp55), (hX5.cell hp56), (hX5.cell hp57)⟩, ?_⟩
    refine wT 6 (.tuple #[.agg #[.int .i64 1, .int .i64 v2, .slice (some ⟨b100, o101, none⟩) 24 k91, .slice a92 n93 c94], .int .i64 0]) hR (fun w _ => by kernel_rfl) (⟨bx0.1, bx1.1, bx2.1, bx3.1, (hX5.cell hp54), (hX5.cell hp55), (hX5.cell hp56), (hX5.cell hp57)⟩) ?_
    refine wT 7 (.agg #[.int .i64 1, .int .i64 v2, .slice (some ⟨b100, o101, none⟩) 24 k91, .slice a92 n93 c94]) hR (fun w _ => by kernel_rfl) (⟨bx0.1, bx1.1, bx2.1, bx3.1, (hX5.cell hp54), (hX5.cell hp55), (hX5.cell hp56), (hX5.cell hp57)⟩) ?_
    refine wT 8 (.int .i64 0) hR (fun w _ => by kernel_rfl) (⟨bx0.1, bx1.1, bx2.1, bx3.1, (hX5.cell hp54), (hX5.cell hp55), (hX5.cell hp56), (hX5.cell hp57)⟩) ?_
    refine wS 10 hR (sn_setK4 (O := O85) (j := 0) (v0 := .int .i64 1) (v1 := .int .i64 v2) (v2 := .slice (some ⟨b100, o101, none⟩) 24 k91) (v3 := .slice a92 n93 c94) (ex_store (p := .pointer (some ⟨O85, 0, none⟩)) (v := .agg #[.int .i64 1, .int .i64 v2, .slice (some ⟨b100, o101, none⟩) 24 k91, .slice a92 n93 c94]) rfl (by kernel_rfl) (by kernel_rfl) (st31 bO85_0.1 bO85_0.2 bO85_1.1 bO85_1.2 bO85_2.1 bO85_2.2 bO85_3.1 bO85_3.2)) bO85_0 bO85_1 bO85_2 bO85_3 ?_)
    intro X106 ho hv0 hv1 hv2 hv3 hk; replace hE := ho.ext hE (T (T hs2 (T hs4 (T hs10 (T hs27 (T hs31 (T hs34 (T hs39 (T hs41 hs60)))))))) (Nat.le_of_eq hzO85)); replace hX5 := ho.ext hX5 (T (T hs10 (T hs27 (T hs31 (T hs34 (T hs39 (T hs41 hs60)))))) (Nat.le_of_eq hzO85)); replace hr8v := ho.va (Nat.ne_of_gt (Nat.lt_of_lt_of_le lt11 (T (T hs27 (T hs31 (T hs34 (T hs39 (T hs41 hs60))))) (Nat.le_of_eq hzO85)))) hr8v; replace bx0 := ho.box (Nat.ne_of_gt (Nat.lt_of_lt_of_le lt32 (T (T hs34 (T hs39 (T hs41 hs60))) (Nat.le_of_eq hzO85)))) bx0; replace bx1 := ho.box (Nat.ne_of_gt (Nat.lt_of_lt_of_le lt32 (T (T hs34 (T hs39 (T hs41 hs60))) (Nat.le_of_eq hzO85)))) bx1; replace bx2 := ho.box (Nat.ne_of_gt (Nat.lt_of_lt_of_le lt32 (T (T hs34 (T hs39 (T hs41 hs60))) (Nat.le_of_eq hzO85)))) bx2; replace bx3 := ho.box (Nat.ne_of_gt (Nat.lt_of_lt_of_le lt32 (T (T hs34 (T hs39 (T hs41 hs60))) (Nat.le_of_eq hzO85)))) bx3; replace vA9 := ho.va (Nat.ne_of_gt (Nat.lt_of_lt_of_le lt44 (T hs60 (Nat.le_of_eq hzO85)))) vA9; replace hPn45 := hPn45.turn ho (fun h => absurd h.2 (Nat.not_lt_of_le (T hs60 (Nat.le_of_eq hzO85)))); replace owN46 := owN46.turn ho (own_not2 hbk47 (T hs60 (Nat.le_of_eq hzO85))) (fun _ _ _ h b hb e => absurd (h.2 b hb).2 (Nat.not_lt_of_le (e ▸ (T hs60 (Nat.le_of_eq hzO85))))); replace hV102 := ho.va (Nat.ne_of_lt (Nat.lt_of_lt_of_le lt88 hfr96l)) hV102; replace hP97n := hP97n.turn ho (fun h => absurd h.1 (Nat.not_le_of_lt (Nat.lt_of_lt_of_le lt88 (Nat.le_refl _)))); have hs107 : w103.heap.size ≤ X106.heap.size := Nat.le_of_eq ho.size.symm; clear ho hk bO85_0 bO85_1 bO85_2 bO85_3; have bO85_0 := hv0; clear hv0; have bO85_1 := hv1; clear hv1; have bO85_2 := hv2; clear hv2; have bO85_3 := hv3; clear hv3
    refine ⟨⟨bx0.1, bx1.1, bx2.1, bx3.1, (hX5.cell hp54), (hX5.cell hp55), (hX5.cell hp56), (hX5.cell hp57)⟩, ?_⟩
    refine wT 11 (.int .i64 0) hR (fun w _ => by kernel_rfl) (⟨bx0.1, bx1.1, bx2.1, bx3.1, (hX5.cell hp54), (hX5.cell hp55), (hX5.cell hp56), (hX5.cell hp57)⟩) ?_
    refine wd_end hL hR hK (by kernel_rfl) ?_
    have hPa108 : PcsS (fun k => k ≠ O29 ∧ w42.heap.size ≤ k) X106 a92 n93 (Prod.divide ar (ps.take (i + 1))) := PcsS.mono hP97n (fun k hk => ⟨fun e => (fun h => absurd h.1 (Nat.not_le_of_lt (Nat.lt_of_lt_of_le lt32 (T hs34 (T hs39 (T hs41 (T hs60 hs87))))))) (e ▸ hk), T (T hs60 hs87) hk.1⟩)
    exact qw_leaf hJ [5, 6, 8, 9, 10, 11] (ws' := [(5, .slice (some ⟨b48, o49, none⟩) k c), (6, .pointer (some ⟨O29, 0, none⟩)), (8, .slice (some ⟨gL, 0, none⟩) nV cV), (9, .int .i64 (((i : Nat) : Int) : Int)), (10, .pointer (some ⟨O85, 0, none⟩)), (11, .int .i64 0)]) (by kernel_rfl) ⟨b100, o101, k91, a92, n93, c94, O85, rfl, hE, hX5, hr8v, bx0, bx1, bx2, bx3, vA9, hPn45, owN46, hnc98, hpl99, hV102, hPa108, bO85_0, bO85_1, bO85_2, bO85_3, (T hs60 (T hs87 (T hs104 hs107))), (T (T hs60 hs87) hfr96l), (T hs60 (Nat.le_of_eq hzO85)), Lib.hid (Nat.ne_of_gt (Nat.lt_of_lt_of_le lt88 hfr96l))⟩
  ·
   clear hr8v bx0 bx1 bx2 bx3 vA9 hPn45 owN46 hE hX5
   rintro L ws Y109 ⟨b72, o73, k63, a64, n65, c66, O78, rfl, hE, hX5, hr8v, bx0, bx1, bx2, bx3, vA9, hPn45, owN46, hnc70, hpl71, hV74, hPa84, bO78_0, bO78_1, bO78_2, bO78_3, hn110, hn111, hn112, hn113⟩
   have lt114 := hV74.lt; have lt115 := bO78_0.lt; refine qw_then ?_; refine cw_seq ?_; refine cw_seq ?_; refine cw_plain ?_; refine pT (.int .i64 0) ?_; refine pT (.bool false) ?_; refine pl_nil ?_; refine qw_then ?_
   refine cw_f (by kernel_rfl) ?_
   refine cw_skip ?_
   refine qw_then ?_; refine cw_seq ?_; refine cw_seq ?_
   rcases hvor with hvo | hvo
   ·
    refine cw_plain ?_; refine pT (.pointer (some ⟨O78, 1, none⟩)) ?_
    refine pU (.int .i64 v2) (ex_load rfl (by kernel_rfl) (ld3 (bO78_1.1))) ?_
    refine pT (.pointer (some ⟨O29, 1, none⟩)) ?_
    refine pU (.int .i64 (((nV : Nat) : Int) : Int)) (ex_load rfl (by kernel_rfl) (ld3 (bx1.1))) ?_
    refine pU (.bool true) (ev_eq (show _ = Result.ok (Next.value (Value.bool ((v2 : Int) == (((nV : Nat) : Int) : Int)))) _ from by kernel_rfl) (by omega)) ?_
    refine pl_nil ?_; refine qw_then ?_
    refine cw_t (by kernel_rfl) ?_
    refine cw_seq ?_; refine cw_seq ?_; refine cw_plain ?_
    refine pU (.agg #[.int .i64 1, .int .i64 v2, .slice (some ⟨b72, o73, none⟩) 24 k63, .slice a64 n65 c66]) (ex_load rfl (by kernel_rfl) (ld31 (bO78_0.1) (bO78_1.1) (bO78_2.1) (bO78_3.1))) ?_
    refine pU (.agg #[.int .i64 1, .int .i64 (((nV : Nat) : Int) : Int), .slice (some ⟨bA, oA, none⟩) 24 kA, .slice aP nP cP]) (ex_load rfl (by kernel_rfl) (ld31 (bx0.1) (bx1.1) (bx2.1) (bx3.1))) ?_
    refine pS (sn_call (f := 20) (args := #[.agg #[.int .i64 1, .int .i64 v2, .slice (some ⟨b72, o73, none⟩) 24 k63, .slice a64 n65 c66], .agg #[.int .i64 1, .int .i64 (((nV : Nat) : Int) : Int), .slice (some ⟨bA, oA, none⟩) 24 kA, .slice aP nP cP]]) (by kernel_rfl) ((rpSame_r (r := true) (id := 1) (ver := v2) (id2 := 1) (ver2 := ((nV : Nat) : Int)) _ _ _ _ _ (aa_q (hV74.aa)) (Ext.refl _) (hPa84.pcs) (Ext.refl _) (aa_q (vA9.aa)) (Ext.refl _) (hPn45.pcs) (Ext.refl _) (by rw [Prod.next_same hva hgl hx53 (hv9.trans hvo), hvo]; exact Prod.sameP_refl _ _ _ _)).mono ?_))
    rintro e w116 ⟨rfl, hb⟩
    replace hE := hE.trans hb; replace hX5 := hX5.trans hb; replace hr8v := hr8v.ext hb; replace bx0 := BoxAt.ext hb bx0; replace bx1 := BoxAt.ext hb bx1; replace bx2 := BoxAt.ext hb bx2; replace bx3 := BoxAt.ext hb bx3; replace vA9 := vA9.ext hb; replace hPn45 := hPn45.ext hb; replace owN46 := owN46.ext hb; replace hV74 := hV74.ext hb; replace hPa84 := hPa84.ext hb; replace bO78_0 := BoxAt.ext hb bO78_0; replace bO78_1 := BoxAt.ext hb bO78_1; replace bO78_2 := BoxAt.ext hb bO78_2; replace bO78_3 := BoxAt.ext hb bO78_3; have hs117 := hb.size; clear hb
    refine ⟨_, rfl, ?_⟩
    refine pT (.bool false) ?_; refine pl_nil ?_; refine qw_then ?_; refine cC5 5 6 8 9 53 (fun L => ?_)
    refine cw_f (by kernel_rfl) ?_
    refine cw_skip ?_
    refine qw_then ?_
    refine cw_exit ?_
    refine qw_then_exit ?_
    refine qw_block_out ?_
    refine qw_then ?_; refine cw_plain ?_; refine pT (.int .i64 (((i : Nat) : Int) : Int)) ?_
    refine pU (.int .i64 (((i + 1 : Nat) : Int) : Int)) (ev_wrap (by kernel_rfl) (by omega) (by omega)) ?_
    refine pT (.int .i64 (((i + 1 : Nat) : Int) : Int)) ?_; refine pl_nil ?_
    refine qw_round [5, 6, 8, 9] (ws' := [(5, .slice (some ⟨b48, o49, none⟩) k c), (6, .pointer (some ⟨O29, 0, none⟩)), (8, .slice (some ⟨gL, 0, none⟩) nV cV), (9, .int .i64 (((i + 1 : Nat) : Int) : Int))]) (by kernel_rfl) _ ?_ ⟨(i + 1), ms, nV, gL, cV, bA, oA, kA, aP, nP, cP, rfl, rfl, (T hs41 (T hn110 hs117)), hE, hX5, hr8v, bx0, bx1, bx2, bx3, vA9, (by rw [Prod.next_same hva hgl hx53 (hv9.trans hvo)]; exact (PcsS.mono hPn45 (fun _ h => h.1))), (OwnL.monoS owN46 (fun b h => h.1)), by omega, hnV, hlV, (hup.more (by omega)), by omega, by omega, hplP, by omega, hcpV, Lib.hid hneA.out⟩
    omega
   ·
    refine cw_plain ?_; refine pT (.pointer (some ⟨O78, 1, none⟩)) ?_
    refine pU (.int .i64 v2) (ex_load rfl (by kernel_rfl) (ld3 (bO78_1.1))) ?_
    refine pT (.pointer (some ⟨O29, 1, none⟩)) ?_
    refine pU (.int .i64 (((nV : Nat) : Int) : Int)) (ex_load rfl (by kernel_rfl) (ld3 (bx1.1))) ?_
    refine pU (.bool false) (ev_neq (show _ = Result.ok (Next.value (Value.bool ((v2 : Int) == (((nV : Nat) : Int) : Int)))) _ from by kernel_rfl) (by omega)) ?_
    refine pl_nil ?_; refine qw_then ?_
    refine cw_f (by kernel_rfl) ?_
    refine cw_skip ?_
    refine qw_then ?_; refine cw_seq ?_; refine cw_seq ?_; refine cw_plain ?_
    refine pU (.agg #[.int .i64 1, .int .i64 v2, .slice (some ⟨b72, o73, none⟩) 24 k63, .slice a64 n65 c66]) (ex_load rfl (by kernel_rfl) (ld31 (bO78_0.1) (bO78_1.1) (bO78_2.1) (bO78_3.1))) ?_
    refine pU (.agg #[.int .i64 1, .int .i64 (((nV : Nat) : Int) : Int), .slice (some ⟨bA, oA, none⟩) 24 kA, .slice aP nP cP]) (ex_load rfl (by kernel_rfl) (ld31 (bx0.1) (bx1.1) (bx2.1) (bx3.1))) ?_
    refine pS (sn_call (f := 22) (args := #[.agg #[.int .i64 1, .int .i64 v2, .slice (some ⟨b72, o73, none⟩) 24 k63, .slice a64 n65 c66], .agg #[.int .i64 1, .int .i64 (((nV : Nat) : Int) : Int), .slice (some ⟨bA, oA, none⟩) 24 kA, .slice aP nP cP]]) (by kernel_rfl) ((Over_r (r := true) (id := 1) (ver := v2) (id2 := 1) (ver2 := ((nV : Nat) : Int)) _ _ _ (by omega) (by omega) (aa_q (hV74.aa)) (Ext.refl _) (hPa84.pcs) (Ext.refl _) (aa_q (vA9.aa)) (Ext.refl _) (hPn45.pcs) (Ext.refl _) (hT.ext hE) (Prod.over_pre (by omega) (by omega) (by omega) hva hgl (by omega) (by omega) (by omega))).mono ?_))
    rintro e w118 ⟨rfl, hb⟩
    replace hE := hE.trans hb; replace hX5 := hX5.trans hb; replace hr8v := hr8v.ext hb; replace bx0 := BoxAt.ext hb bx0; replace bx1 := BoxAt.ext hb bx1; replace bx2 := BoxAt.ext hb bx2; replace bx3 := BoxAt.ext hb bx3; replace vA9 := vA9.ext hb; replace hPn45 := hPn45.ext hb; replace owN46 := owN46.ext hb; replace hV74 := hV74.ext hb; replace hPa84 := hPa84.ext hb; replace bO78_0 := BoxAt.ext hb bO78_0; replace bO78_1 := BoxAt.ext hb bO78_1; replace bO78_2 := BoxAt.ext hb bO78_2; replace bO78_3 := BoxAt.ext hb bO78_3; have hs119 := hb.size; clear hb
    refine ⟨_, rfl, ?_⟩
    refine pT (.bool false) ?_; refine pl_nil ?_; refine qw_then ?_; refine cC6 5 6 8 9 10 57 (fun L => ?_)
    refine cw_f (by kernel_rfl) ?_
    refine cw_skip ?_
    refine qw_then ?_; refine cw_seq ?_; refine cw_plain ?_; refine pT (.slice (some ⟨gL, 0, none⟩) nV cV) ?_
    refine pU (.agg #[.int .i64 1, .int .i64 v2, .slice (some ⟨b72, o73, none⟩) 24 k63, .slice a64 n65 c66]) (ex_load rfl (by kernel_rfl) (ld31 (bO78_0.1) (bO78_1.1) (bO78_2.1) (bO78_3.1))) ?_
    refine pS (sn_newS (us := #[.int .i64 1, .int .i64 v2, .slice (some ⟨b72, o73, none⟩) 24 k63, .slice a64 n65 c66]) (t := 31) (k := 1) (c := 1) (by kernel_rfl) ?_)
    intro O120 X121 hzO120 hyO120 hb hbx; have ⟨bO120_0, bO120_1, bO120_2, bO120_3⟩ := bx4 hbx; clear hbx
    replace hE := hE.trans hb; replace hX5 := hX5.trans hb; replace hr8v := hr8v.ext hb; replace bx0 := BoxAt.ext hb bx0; replace bx1 := BoxAt.ext hb bx1; replace bx2 := BoxAt.ext hb bx2; replace bx3 := BoxAt.ext hb bx3; replace vA9 := vA9.ext hb; replace hPn45 := hPn45.ext hb; replace owN46 := owN46.ext hb; replace hV74 := hV74.ext hb; replace hPa84 := hPa84.ext hb; replace bO78_0 := BoxAt.ext hb bO78_0; replace bO78_1 := BoxAt.ext hb bO78_1; replace bO78_2 := BoxAt.ext hb bO78_2; replace bO78_3 := BoxAt.ext hb bO78_3; have hs122 := hb.size; clear hb; have lt123 := bO120_0.lt
    obtain ⟨F9, hF9⟩ := prod_rel (S := fun k => k ≠ O29 ∧ w42.heap.size ≤ k) (ver := v2) hV74 ⟨(Nat.ne_of_gt (Nat.lt_of_lt_of_le lt32 (T (T hs34 (T hs39 hs41)) hn111))), hn111⟩ hPa84 (by omega)
    have owB124 := OwnL.monoS (T := fun b => b ≠ O29) owN46 (fun b h => h.1)
    have hbs135 := owB124.base
    obtain ⟨g125, cap126, w127, hrun128, own129, hgr130, hgb131⟩ := own_app1k (P := Tryd.prog) (ty := 55) prodT owB124 (Nat.le_of_lt (Nat.lt_of_lt_of_le lt40 (T hs41 (T hn110 (T hs119 hs122))))) (k := nV) hlV (O := O120) (c := 1) (x := ((v2 : Int), Prod.divide ar (ps.take (i + 1)))) (d := [.int .i64 1, .int .i64 v2, .slice (some ⟨b72, o73, none⟩) 24 k63, .slice a64 n65 c66]) (F := F9) rfl (cells4 (bO120_0.1) (bO120_1.1) (bO120_2.1) (bO120_3.1)) (by simp [Value.oneCell']) ⟨hF9.1, fun b hb => (hF9.2 b hb).1⟩ (fun b hb e => absurd (hbk47 b e) (Nat.not_lt_of_le (hF9.2 b hb).2)) (by omega) (by omega)
    refine pS (sn_eff (v := .slice (some ⟨g125, 0, none⟩) (nV + 1) cap126) (w' := w127) (ex_append rfl (by kernel_rfl) (by kernel_rfl) hrun128) ?_)
    replace hr8v := VA.grownR hr8v hgb131 (own_not hbs135 (Nat.lt_of_lt_of_le lt11 (T (T hs27 (T hs31 hs34)) (Nat.le_of_eq hzO37)))); replace bx0 := BoxAt.grownR bx0 hgb131 (own_not hbs135 (Nat.lt_of_lt_of_le lt32 (T hs34 (Nat.le_of_eq hzO37)))); replace bx1 := BoxAt.grownR bx1 hgb131 (own_not hbs135 (Nat.lt_of_lt_of_le lt32 (T hs34 (Nat.le_of_eq hzO37)))); replace bx2 := BoxAt.grownR bx2 hgb131 (own_not hbs135 (Nat.lt_of_lt_of_le lt32 (T hs34 (Nat.le_of_eq hzO37)))); replace bx3 := BoxAt.grownR bx3 hgb131 (own_not hbs135 (Nat.lt_of_lt_of_le lt32 (T hs34 (Nat.le_of_eq hzO37)))); replace hV74 := VA.grownR hV74 hgb131 (own_not2 hbk47 hn111); replace hPa84 := PcsS.grown hPa84 hgb131 (fun k hk e => absurd (hbk47 k e) (Nat.not_lt_of_le hk.2)); replace bO78_0 := BoxAt.grownR bO78_0 hgb131 (own_not2 hbk47 hn112); replace bO78_1 := BoxAt.grownR bO78_1 hgb131 (own_not2 hbk47 hn112); replace bO78_2 := BoxAt.grownR bO78_2 hgb131 (own_not2 hbk47 hn112); replace bO78_3 := BoxAt.grownR bO78_3 hgb131 (own_not2 hbk47 hn112); replace bO120_0 := BoxAt.grownR bO120_0 hgb131 (own_not2 hbk47 (T (T hn110 hs119) (Nat.le_of_eq hzO120))); replace bO120_1 := BoxAt.grownR bO120_1 hgb131 (own_not2 hbk47 (T (T hn110 hs119) (Nat.le_of_eq hzO120))); replace bO120_2 := BoxAt.grownR bO120_2 hgb131 (own_not2 hbk47 (T (T hn110 hs119) (Nat.le_of_eq hzO120))); replace bO120_3 := BoxAt.grownR bO120_3 hgb131 (own_not2 hbk47 (T (T hn110 hs119) (Nat.le_of_eq hzO120))); replace hE := hgr130.ext _ hE (T (T hs2 (T hs4 (T hs10 (T hs27 (T hs31 hs34))))) (Nat.le_of_eq hzO37)); replace hX5 := hgr130.ext _ hX5 (T (T hs10 (T hs27 (T hs31 hs34))) (Nat.le_of_eq hzO37)); have hs132 := hgr130.size
    have hl133 := own129.base g125 rfl; have hh134 := own129.lt g125 rfl
    rw [show (Prod.versL ar ps ms ++ [((v2 : Int), Prod.divide ar (ps.take (i + 1)))]) = Prod.versL ar ps ((ms ++ [i + 1])) from by rw [Prod.versL_snoc, hnV, hvo]] at own129
    refine pT (.slice (some ⟨g125, 0, none⟩) (nV + 1) cap126) ?_; refine pl_nil ?_; refine qw_then ?_; refine cw_plain ?_
    refine pU (.agg #[.int .i64 1, .int .i64 v2, .slice (some ⟨b72, o73, none⟩) 24 k63, .slice a64 n65 c66]) (ex_load rfl (by kernel_rfl) (ld31 (bO78_0.1) (bO78_1.1) (bO78_2.1) (bO78_3.1))) ?_
    refine pP (sn_setK4 (O := O29) (j := 0) (v0 := .int .i64 1) (v1 := .int .i64 v2) (v2 := .slice (some ⟨b72, o73, none⟩) 24 k63) (v3 := .slice a64 n65 c66) (ex_store (p := .pointer (some ⟨O29, 0, none⟩)) (v := .agg #[.int .i64 1, .int .i64 v2, .slice (some ⟨b72, o73, none⟩) 24 k63, .slice a64 n65 c66]) rfl (by kernel_rfl) (by kernel_rfl) (st31 bx0.1 bx0.2 bx1.1 bx1.2 bx2.1 bx2.2 bx3.1 bx3.2)) bx0 bx1 bx2 bx3 ?_)
    intro X137 ho hv0 hv1 hv2 hv3 hk; replace hE := ho.ext hE (T (T hs2 (T hs4 (T hs10 hs27))) (Nat.le_of_eq hzO29)); replace hX5 := ho.ext hX5 (T (T hs10 hs27) (Nat.le_of_eq hzO29)); replace hr8v := ho.va (Nat.ne_of_gt (Nat.lt_of_lt_of_le lt11 (T hs27 (Nat.le_of_eq hzO29)))) hr8v; replace hV74 := ho.va (Nat.ne_of_lt (Nat.lt_of_lt_of_le lt32 (T (T hs34 (T hs39 hs41)) hn111))) hV74; replace hPa84 := hPa84.turn ho (fun h => h.1 rfl)
    have q9 := fun (j : Nat) (v : Value) (h : BoxAt _ O78 j v) => ho.box (Nat.ne_of_lt (Nat.lt_of_lt_of_le lt32 (T (T hs34 (T hs39 hs41)) hn112))) h
    replace bO78_0 := q9 _ _ bO78_0; replace bO78_1 := q9 _ _ bO78_1; replace bO78_2 := q9 _ _ bO78_2; replace bO78_3 := q9 _ _ bO78_3; clear q9
    have q9 := fun (j : Nat) (v : Value) (h : BoxAt _ O120 j v) => ho.box (Nat.ne_of_lt (Nat.lt_of_lt_of_le lt32 (T (T hs34 (T hs39 (T hs41 (T hn110 hs119)))) (Nat.le_of_eq hzO120)))) h
    replace bO120_0 := q9 _ _ bO120_0; replace bO120_1 := q9 _ _ bO120_1; replace bO120_2 := q9 _ _ bO120_2; replace bO120_3 := q9 _ _ bO120_3; clear q9; replace own129 := own129.turn ho (own_not (own129.base) (Nat.lt_of_lt_of_le lt32 (T hs34 (Nat.le_of_eq hzO37)))) (fun _ _ _ h b hb => h.2 b hb); have hs138 : w127.heap.size ≤ X137.heap.size := Nat.le_of_eq ho.size.symm; clear ho hk bx0 bx1 bx2 bx3; have bx0 := hv0; clear hv0; have bx1 := hv1; clear hv1; have bx2 := hv2; clear hv2; have bx3 := hv3; clear hv3; refine pl_nil ?_
    refine qw_block ?_
    refine qw_then ?_; refine cw_plain ?_; refine pT (.int .i64 (((i : Nat) : Int) : Int)) ?_
    refine pU (.int .i64 (((i + 1 : Nat) : Int) : Int)) (ev_wrap (by kernel_rfl) (by omega) (by omega)) ?_
    refine pT (.int .i64 (((i + 1 : Nat) : Int) : Int)) ?_; refine pl_nil ?_
    refine qw_round [5, 6, 8, 9] (ws' := [(5, .slice (some ⟨b48, o49, none⟩) k c), (6, .pointer (some ⟨O29, 0, none⟩)), (8, .slice (some ⟨g125, 0, none⟩) (nV + 1) cap126), (9, .int .i64 (((i + 1 : Nat) : Int) : Int))]) (by kernel_rfl) _ ?_ ⟨(i + 1), (ms ++ [i + 1]), (nV + 1), g125, cap126, b72, o73, k63, a64, n65, c66, rfl, rfl, (T hs41 (T hn110 (T hs119 (T hs122 (T hs132 hs138))))), hE, hX5, hr8v, bx0, (by rw [show (((nV + 1 : Nat)) : Int) = v2 by omega]; exact bx1), bx2, bx3, hV74, (PcsS.mono hPa84 (fun _ h => h.1)), own129, by omega, (by rw [List.length_append, hnV]; rfl), (by rw [Prod.versL_len, List.length_append, hnV]; rfl), hup.snoc, by omega, by omega, hpl71, by omega, (OwnL.cap own129 (by rw [Prod.versL_len, List.length_append, hnV]; rfl)), Lib.hid (Nat.ne_of_lt (Nat.lt_of_lt_of_le lt32 (T (T hs34 (T hs39 hs41)) hn111)))⟩
    omega
 ·
  have hin : i = k := by omega
  refine cw_seq ?_; refine cw_seq ?_; refine cw_plain ?_; refine pT (.int .i64 (((i : Nat) : Int) : Int)) ?_; refine pT (.slice a k c) ?_; refine pT (.int .i64 (((k : Nat) : Int) : Int)) ?_
  refine pU (.bool false) (ev_ndec (show _ = Result.ok (Next.value (Value.bool (decide ((((i : Nat) : Int) : Int) < (((k : Nat) : Int) : Int))))) _ from by kernel_rfl) (by omega)) ?_
  refine pl_nil ?_; refine qw_then ?_
  refine cw_f (by kernel_rfl) ?_
  refine cw_exit ?_
  refine qw_then_exit ?_
  refine qw_then_exit ?_
  refine qw_block_out ?_
  refine qw_then ?_; refine cw_seq ?_; refine cw_seq ?_; refine cw_plain ?_; refine pT (.int .i64 0) ?_; refine pl_nil ?_; refine qw_then ?_
  refine cw_block ?_
  have hVs := owV9
  have hX139 : Ext w42 w42 := Ext.refl _
  have hgl9140 := hVs.lt gL rfl
  refine cw_loop [8, 12] (fun ws' wr m => ∃ u : Nat, ws' = [(8, .slice (some ⟨gL, 0, none⟩) nV cV), (12, .int .i64 (((u : Nat) : Int) : Int))] ∧ m = nV - u ∧ w42.heap.size ≤ wr.heap.size ∧ Ext w wr ∧ Ext w3 wr ∧ Ext w42 wr ∧ VA wr B6 0 ar ∧ BoxAt wr O29 0 (.int .i64 1) ∧ BoxAt wr O29 1 (.int .i64 (((nV : Nat) : Int) : Int)) ∧ BoxAt wr O29 2 (.slice (some ⟨bA, oA, none⟩) 24 kA) ∧ BoxAt wr O29 3 (.slice aP nP cP) ∧ VA wr bA oA ar ∧ PcsS (fun k => k ≠ O29) wr aP nP (Prod.divide ar (ps.take i)) ∧ u ≤ nV) (ws0 := [(8, .slice (some ⟨gL, 0, none⟩) nV cV), (12, .int .i64 0)]) (by kernel_rfl) _ ⟨0, rfl, rfl, Nat.le_refl _, hE, hX5, hX139, hr8v, bx0, bx1, bx2, bx3, vA9, hPs9, Nat.zero_le _⟩ ?_
  clear hr8v bx0 bx1 bx2 bx3 vA9 hPs9 hE hX5 hX139
  rintro m144 L ws w143 ⟨u, rfl, rfl, hs142, hE, hX5, hX139, hr8v, bx0, bx1, bx2, bx3, vA9, hPs9, hu⟩
  by_cases hlt : u < nV
  ·
   have hlu := hlt
   refine cw_seq ?_; refine cw_seq ?_; refine cw_plain ?_; refine pT (.int .i64 (((u : Nat) : Int) : Int)) ?_; refine pT (.slice (some ⟨gL, 0, none⟩) nV cV) ?_; refine pT (.int .i64 (((nV : Nat) : Int) : Int)) ?_
   refine pU (.bool true) (ev_dec (show _ = Result.ok (Next.value (Value.bool (decide ((((u : Nat) : Int) : Int) < (((nV : Nat) : Int) : Int))))) _ from by kernel_rfl) (by omega)) ?_
   refine pl_nil ?_; refine qw_then ?_
   refine cw_t (by kernel_rfl) ?_
   refine cw_skip ?_
   refine qw_then ?_; refine cw_seq ?_
   refine cw_block ?_
   refine cw_seq ?_; refine cw_plain ?_; refine pT (.int .i64 0) ?_; refine pl_nil ?_; refine qw_then ?_
   refine cw_block ?_
   refine cw_loop [8, 12, 13] (fun ws' wr m => ∃ t : Nat, ws' = [(8, .slice (some ⟨gL, 0, none⟩) nV cV), (12, .int .i64 (((u : Nat) : Int) : Int)), (13, .int .i64 (((t : Nat) : Int) : Int))] ∧ m = nV - t ∧ w143.heap.size ≤ wr.heap.size ∧ Ext w wr ∧ Ext w3 wr ∧ Ext w42 wr ∧ VA wr B6 0 ar ∧ BoxAt wr O29 0 (.int .i64 1) ∧ BoxAt wr O29 1 (.int .i64 (((nV : Nat) : Int) : Int)) ∧ BoxAt wr O29 2 (.slice (some ⟨bA, oA, none⟩) 24 kA) ∧ BoxAt wr O29 3 (.slice aP nP cP) ∧ VA wr bA oA ar ∧ PcsS (fun k => k ≠ O29) wr aP nP (Prod.divide ar (ps.take i)) ∧ t ≤ nV) (ws0 := [(8, .slice (some ⟨gL, 0, none⟩) nV cV), (12, .int .i64 (((u : Nat) : Int) : Int)), (13, .int .i64 0)]) (by kernel_rfl) _ ⟨0, rfl, rfl, Nat.le_refl _, hE, hX5, hX139, hr8v, bx0, bx1, bx2, bx3, vA9, hPs9, Nat.zero_le _⟩ ?_
   clear hr8v bx0 bx1 bx2 bx3 vA9 hPs9 hE hX5 hX139
   rintro m147 L ws w146 ⟨t, rfl, rfl, hs145, hE, hX5, hX139, hr8v, bx0, bx1, bx2, bx3, vA9, hPs9, ht⟩
   by_cases hlt : t < nV
   ·
    obtain ⟨mu, hmu⟩ : ∃ m, ms[u]? = some m := ⟨_, List.getElem?_eq_getElem (by omega)⟩
    obtain ⟨bu, ou, ku, adu, nu, cu, e0u, e1u, e2u, e3u, vau, hpu, hnu⟩ := prod_at hVs hlV (Prod.versL_at hmu)
    have lbu := vau.lt
    obtain ⟨mt, hmt⟩ : ∃ m, ms[t]? = some m := ⟨_, List.getElem?_eq_getElem (by omega)⟩
    obtain ⟨bt, ot, kt, adt, nt, ct, e0t, e1t, e2t, e3t, vat, hpt, hnt⟩ := prod_at hVs hlV (Prod.versL_at hmt)
    have lbt := vat.lt
    refine cw_seq ?_; refine cw_seq ?_; refine cw_plain ?_; refine pT (.int .i64 (((t : Nat) : Int) : Int)) ?_; refine pT (.slice (some ⟨gL, 0, none⟩) nV cV) ?_; refine pT (.int .i64 (((nV : Nat) : Int) : Int)) ?_
    refine pU (.bool true) (ev_dec (show _ = Result.ok (Next.value (Value.bool (decide ((((t : Nat) : Int) : Int) < (((nV : Nat) : Int) : Int))))) _ from by kernel_rfl) (by omega)) ?_
    refine pl_nil ?_; refine qw_then ?_
    refine cw_t (by kernel_rfl) ?_
    refine cw_skip ?_
    refine qw_then ?_; refine cw_seq ?_
    refine cw_block ?_
    refine cw_seq ?_
    by_cases q9 : t < u
    ·
     refine cw_draw [(some 75, [8], []), (some 76, [12], []), (some 77, [75, 76], [0, 1]), (some 78, [77], [2]), (some 79, [8], []), (some 80, [13], []), (some 81, [79, 80], [4, 5]), (some 82, [81], [6]), (some 83, [78, 82], [3, 7]), (some 84, [12], []), (some 85, [13], []), (some 86, [84, 85], [9, 10]), (some 87, [83, 86], [8, 11])] (fun w' => w'.cell? ⟨gL, u * 4, none⟩ = some (.int .i64 1) ∧ w'.cell? ⟨gL, u * 4 + 1, none⟩ = some (.int .i64 (((u : Nat) : Int) + 1 : Int)) ∧ w'.cell? ⟨gL, u * 4 + 2, none⟩ = some (.slice (some ⟨bu, ou, none⟩) 24 ku) ∧ w'.cell? ⟨gL, u * 4 + 3, none⟩ = some (.slice adu nu cu) ∧ w'.cell? ⟨gL, t * 4, none⟩ = some (.int .i64 1) ∧ w'.cell? ⟨gL, t * 4 + 1, none⟩ = some (.int .i64 (((t : Nat) : Int) + 1 : Int)) ∧ w'.cell? ⟨gL, t * 4 + 2, none⟩ = some (.slice (some ⟨bt, ot, none⟩) 24 kt) ∧ w'.cell? ⟨gL, t * 4 + 3, none⟩ = some (.slice adt nt ct)) (by kernel_rfl) (by kernel_rfl) (by kernel_rfl) (by kernel_rfl) ((calm_then (calm_block (calm_then (calm_then (calm_block (calm_block (calm_then (calm_then (calm_block (calm_then calm_body))))))))))) (⟨(hX139.cell e0u), (hX139.cell e1u), (hX139.cell e2u), (hX139.cell e3u), (hX139.cell e0t), (hX139.cell e1t), (hX139.cell e2t), (hX139.cell e3t)⟩) (fun ops Q X148 hb hL hR hK => ?_)
     replace hE := hE.trans hb; replace hX5 := hX5.trans hb; replace hX139 := hX139.trans hb; replace hr8v := hr8v.ext hb; replace bx0 := BoxAt.ext hb bx0; replace bx1 := BoxAt.ext hb bx1; replace bx2 := BoxAt.ext hb bx2; replace bx3 := BoxAt.ext hb bx3; replace vA9 := vA9.ext hb; replace hPs9 := hPs9.ext hb; have hs149 := hb.size; clear hb
     refine wT 0 (.slice (some ⟨gL, 0, none⟩) nV cV) hR (fun w _ => by kernel_rfl) (⟨(hX139.cell e0u), (hX139.cell e1u), (hX139.cell e2u), (hX139.cell e3u), (hX139.cell e0t), (hX139.cell e1t), (hX139.cell e2t), (hX139.cell e3t)⟩) ?_
     refine wT 1 (.int .i64 (((u : Nat) : Int) : Int)) hR (fun w _ => by kernel_rfl) (⟨(hX139.cell e0u), (hX139.cell e1u), (hX139.cell e2u), (hX139.cell e3u), (hX139.cell e0t), (hX139.cell e1t), (hX139.cell e2t), (hX139.cell e3t)⟩) ?_
     refine wT 2 (.pointer (some ⟨gL, u * 4, none⟩)) hR (fun w _ => ex_index (p := .slice (some ⟨gL, 0, none⟩) nV cV) (i := .int .i64 ((u : Nat) : Int)) rfl (by kernel_rfl) (by kernel_rfl) (ix55z (k := u) (by omega))) (⟨(hX139.cell e0u), (hX139.cell e1u), (hX139.cell e2u), (hX139.cell e3u), (hX139.cell e0t), (hX139.cell e1t), (hX139.cell e2t), (hX139.cell e3t)⟩) ?_
     refine wT 3 (.agg #[.int .i64 1, .int .i64 (((u : Nat) : Int) + 1 : Int), .slice (some ⟨bu, ou, none⟩) 24 ku, .slice adu nu cu]) hR (fun w hS => ex_load rfl (by kernel_rfl) (ld31 (hS.1) (hS.2.1) (hS.2.2.1) (hS.2.2.2.1))) (⟨(hX139.cell e0u), (hX139.cell e1u), (hX139.cell e2u), (hX139.cell e3u), (hX139.cell e0t), (hX139.cell e1t), (hX139.cell e2t), (hX139.cell e3t)⟩) ?_
     refine wT 4 (.slice (some ⟨gL, 0, none⟩) nV cV) hR (fun w _ => by kernel_rfl) (⟨(hX139.cell e0u), (hX139.cell e1u), (hX139.cell e2u), (hX139.cell e3u), (hX139.cell e0t), (hX139.cell e1t), (hX139.cell e2t), (hX139.cell e3t)⟩) ?_
     refine wT 5 (.int .i64 (((t : Nat) : Int) : Int)) hR (fun w _ => by kernel_rfl) (⟨(hX139.cell e0u), (hX139.cell e1u), (hX139.cell e2u), (hX139.cell e3u), (hX139.cell e0t), (hX139.cell e1t), (hX139.cell e2t), (hX139.cell e3t)⟩) ?_
     refine wT 6 (.pointer (some ⟨gL, t * 4, none⟩)) hR (fun w _ => ex_index (p := .slice (some ⟨gL, 0, none⟩) nV cV) (i := .int .i64 ((t : Nat) : Int)) rfl (by kernel_rfl) (by kernel_rfl) (ix55z (k := t) (by omega))) (⟨(hX139.cell e0u), (hX139.cell e1u), (hX139.cell e2u), (hX139.cell e3u), (hX139.cell e0t), (hX139.cell e1t), (hX139.cell e2t), (hX139.cell e3t)⟩) ?_
     refine wT 7 (.agg #[.int .i64 1, .int .i64 (((t : Nat) : Int) + 1 : Int), .slice (some ⟨bt, ot, none⟩) 24 kt, .slice adt nt ct]) hR (fun w hS => ex_load rfl (by kernel_rfl) (ld31 (hS.2.2.2.2.1) (hS.2.2.2.2.2.1) (hS.2.2.2.2.2.2.1) (hS.2.2.2.2.2.2.2))) (⟨(hX139.cell e0u), (hX139.cell e1u), (hX139.cell e2u), (hX139.cell e3u), (hX139.cell e0t), (hX139.cell e1t), (hX139.cell e2t), (hX139.cell e3t)⟩) ?_
     refine wT 9 (.int .i64 (((u : Nat) : Int) : Int)) hR (fun w _ => by kernel_rfl) (⟨(hX139.cell e0u), (hX139.cell e1u), (hX139.cell e2u), (hX139.cell e3u), (hX139.cell e0t), (hX139.cell e1t), (hX139.cell e2t), (hX139.cell e3t)⟩) ?_
     refine wT 10 (.int .i64 (((t : Nat) : Int) : Int)) hR (fun w _ => by kernel_rfl) (⟨(hX139.cell e0u), (hX139.cell e1u), (hX139.cell e2u), (hX139.cell e3u), (hX139.cell e0t), (hX139.cell e1t), (hX139.cell e2t), (hX139.cell e3t)⟩) ?_
     refine wT 11 (.bool true) hR (fun w _ => ev_dec (show _ = Result.ok (Next.value (Value.bool (decide ((((u : Nat) : Int) : Int) > (((t : Nat) : Int) : Int))))) _ from by kernel_rfl) (by omega)) (⟨(hX139.cell e0u), (hX139.cell e1u), (hX139.cell e2u), (hX139.cell e3u), (hX139.cell e0t), (hX139.cell e1t), (hX139.cell e2t), (hX139.cell e3t)⟩) ?_
     refine wS 8 hR (sn_call (f := 22) (args := #[.agg #[.int .i64 1, .int .i64 (((u : Nat) : Int) + 1 : Int), .slice (some ⟨bu, ou, none⟩) 24 ku, .slice adu nu cu], .agg #[.int .i64 1, .int .i64 (((t : Nat) : Int) + 1 : Int), .slice (some ⟨bt, ot, none⟩) 24 kt, .slice adt nt ct]]) (by kernel_rfl) ((Over_r (r := true) (id := 1) (ver := ((u : Nat) : Int) + 1) (id2 := 1) (ver2 := ((t : Nat) : Int) + 1) _ _ _ (by omega) (by omega) (aa_q (vau.aa)) hX139 (hpu) hX139 (aa_q (vat.aa)) hX139 (hpt) hX139 (hT.ext hE) (by rw [Prod.vers_over hva hgl (by omega) (by omega) hup hmu hmt]; exact decide_eq_true q9)).mono ?_))
     rintro e w150 ⟨rfl, hb⟩
     replace hE := hE.trans hb; replace hX5 := hX5.trans hb; replace hX139 := hX139.trans hb; replace hr8v := hr8v.ext hb; replace bx0 := BoxAt.ext hb bx0; replace bx1 := BoxAt.ext hb bx1; replace bx2 := BoxAt.ext hb bx2; replace bx3 := BoxAt.ext hb bx3; replace vA9 := vA9.ext hb; replace hPs9 := hPs9.ext hb; have hs151 := hb.size; clear hb
     refine ⟨_, rfl, ⟨(hX139.cell e0u), (hX139.cell e1u), (hX139.cell e2u), (hX139.cell e3u), (hX139.cell e0t), (hX139.cell e1t), (hX139.cell e2t), (hX139.cell e3t)⟩, ?_⟩
     refine wT 12 (.bool false) hR (fun w _ => by kernel_rfl) (⟨(hX139.cell e0u), (hX139.cell e1u), (hX139.cell e2u), (hX139.cell e3u), (hX139.cell e0t), (hX139.cell e1t), (hX139.cell e2t), (hX139.cell e3t)⟩) ?_
     refine wd_end hL hR hK (by kernel_rfl) ?_
     refine qw_then ?_; refine cC4 8 12 13 87 (fun L => ?_)
     refine cw_f (by kernel_rfl) ?_
     refine cw_skip ?_
     refine qw_block ?_
     refine qw_then ?_; refine cw_plain ?_; refine pT (.int .i64 (((t : Nat) : Int) : Int)) ?_
     refine pU (.int .i64 (((t + 1 : Nat) : Int) : Int)) (ev_wrap (by kernel_rfl) (by omega) (by omega)) ?_
     refine pT (.int .i64 (((t + 1 : Nat) : Int) : Int)) ?_; refine pl_nil ?_
     refine qw_round [8, 12, 13] (ws' := [(8, .slice (some ⟨gL, 0, none⟩) nV cV), (12, .int .i64 (((u : Nat) : Int) : Int)), (13, .int .i64 (((t + 1 : Nat) : Int) : Int))]) (by kernel_rfl) _ ?_ ⟨(t + 1), rfl, rfl, (T hs145 (T hs149 hs151)), hE, hX5, hX139, hr8v, bx0, bx1, bx2, bx3, vA9, hPs9, by omega⟩
     omega
    ·
     refine cw_draw [(some 75, [8], []), (some 76, [12], []), (some 77, [75, 76], [0, 1]), (some 78, [77], [2]), (some 79, [8], []), (some 80, [13], []), (some 81, [79, 80], [4, 5]), (some 82, [81], [6]), (some 83, [78, 82], [3, 7]), (some 84, [12], []), (some 85, [13], []), (some 86, [84, 85], [9, 10]), (some 87, [83, 86], [8, 11])] (fun w' => w'.cell? ⟨gL, u * 4, none⟩ = some (.int .i64 1) ∧ w'.cell? ⟨gL, u * 4 + 1, none⟩ = some (.int .i64 (((u : Nat) : Int) + 1 : Int)) ∧ w'.cell? ⟨gL, u * 4 + 2, none⟩ = some (.slice (some ⟨bu, ou, none⟩) 24 ku) ∧ w'.cell? ⟨gL, u * 4 + 3, none⟩ = some (.slice adu nu cu) ∧ w'.cell? ⟨gL, t * 4, none⟩ = some (.int .i64 1) ∧ w'.cell? ⟨gL, t * 4 + 1, none⟩ = some (.int .i64 (((t : Nat) : Int) + 1 : Int)) ∧ w'.cell? ⟨gL, t * 4 + 2, none⟩ = some (.slice (some ⟨bt, ot, none⟩) 24 kt) ∧ w'.cell? ⟨gL, t * 4 + 3, none⟩ = some (.slice adt nt ct)) (by kernel_rfl) (by kernel_rfl) (by kernel_rfl) (by kernel_rfl) ((calm_then (calm_block (calm_then (calm_then (calm_block (calm_block (calm_then (calm_then (calm_block (calm_then calm_body))))))))))) (⟨(hX139.cell e0u), (hX139.cell e1u), (hX139.cell e2u), (hX139.cell e3u), (hX139.cell e0t), (hX139.cell e1t), (hX139.cell e2t), (hX139.cell e3t)⟩) (fun ops Q X152 hb hL hR hK => ?_)
     replace hE := hE.trans hb; replace hX5 := hX5.trans hb; replace hX139 := hX139.trans hb; replace hr8v := hr8v.ext hb; replace bx0 := BoxAt.ext hb bx0; replace bx1 := BoxAt.ext hb bx1; replace bx2 := BoxAt.ext hb bx2; replace bx3 := BoxAt.ext hb bx3; replace vA9 := vA9.ext hb; replace hPs9 := hPs9.ext hb; have hs153 := hb.size; clear hb
     refine wT 0 (.slice (some ⟨gL, 0, none⟩) nV cV) hR (fun w _ => by kernel_rfl) (⟨(hX139.cell e0u), (hX139.cell e1u), (hX139.cell e2u), (hX139.cell e3u), (hX139.cell e0t), (hX139.cell e1t), (hX139.cell e2t), (hX139.cell e3t)⟩) ?_
     refine wT 1 (.int .i64 (((u : Nat) : Int) : Int)) hR (fun w _ => by kernel_rfl) (⟨(hX139.cell e0u), (hX139.cell e1u), (hX139.cell e2u), (hX139.cell e3u), (hX139.cell e0t), (hX139.cell e1t), (hX139.cell e2t), (hX139.cell e3t)⟩) ?_
     refine wT 2 (.pointer (some ⟨gL, u * 4, none⟩)) hR (fun w _ => ex_index (p := .slice (some ⟨gL, 0, none⟩) nV cV) (i := .int .i64 ((u : Nat) : Int)) rfl (by kernel_rfl) (by kernel_rfl) (ix55z (k := u) (by omega))) (⟨(hX139.cell e0u), (hX139.cell e1u), (hX139.cell e2u), (hX139.cell e3u), (hX139.cell e0t), (hX139.cell e1t), (hX139.cell e2t), (hX139.cell e3t)⟩) ?_
     refine wT 3 (.agg #[.int .i64 1, .int .i64 (((u : Nat) : Int) + 1 : Int), .slice (some ⟨bu, ou, none⟩) 24 ku, .slice adu nu cu]) hR (fun w hS => ex_load rfl (by kernel_rfl) (ld31 (hS.1) (hS.2.1) (hS.2.2.1) (hS.2.2.2.1))) (⟨(hX139.cell e0u), (hX139.cell e1u), (hX139.cell e2u), (hX139.cell e3u), (hX139.cell e0t), (hX139.cell e1t), (hX139.cell e2t), (hX139.cell e3t)⟩) ?_
     refine wT 4 (.slice (some ⟨gL, 0, none⟩) nV cV) hR (fun w _ => by kernel_rfl) (⟨(hX139.cell e0u), (hX139.cell e1u), (hX139.cell e2u), (hX139.cell e3u), (hX139.cell e0t), (hX139.cell e1t), (hX139.cell e2t), (hX139.cell e3t)⟩) ?_
     refine wT 5 (.int .i64 (((t : Nat) : Int) : Int)) hR (fun w _ => by kernel_rfl) (⟨(hX139.cell e0u), (hX139.cell e1u), (hX139.cell e2u), (hX139.cell e3u), (hX139.cell e0t), (hX139.cell e1t), (hX139.cell e2t), (hX139.cell e3t)⟩) ?_
     refine wT 6 (.pointer (some ⟨gL, t * 4, none⟩)) hR (fun w _ => ex_index (p := .slice (some ⟨gL, 0, none⟩) nV cV) (i := .int .i64 ((t : Nat) : Int)) rfl (by kernel_rfl) (by kernel_rfl) (ix55z (k := t) (by omega))) (⟨(hX139.cell e0u), (hX139.cell e1u), (hX139.cell e2u), (hX139.cell e3u), (hX139.cell e0t), (hX139.cell e1t), (hX139.cell e2t), (hX139.cell e3t)⟩) ?_
     refine wT 7 (.agg #[.int .i64 1, .int .i64 (((t : Nat) : Int) + 1 : Int), .slice (some ⟨bt, ot, none⟩) 24 kt, .slice adt nt ct]) hR (fun w hS => ex_load rfl (by kernel_rfl) (ld31 (hS.2.2.2.2.1) (hS.2.2.2.2.2.1) (hS.2.2.2.2.2.2.1) (hS.2.2.2.2.2.2.2))) (⟨(hX139.cell e0u), (hX139.cell e1u), (hX139.cell e2u), (hX139.cell e3u), (hX139.cell e0t), (hX139.cell e1t), (hX139.cell e2t), (hX139.cell e3t)⟩) ?_
     refine wT 9 (.int .i64 (((u : Nat) : Int) : Int)) hR (fun w _ => by kernel_rfl) (⟨(hX139.cell e0u), (hX139.cell e1u), (hX139.cell e2u), (hX139.cell e3u), (hX139.cell e0t), (hX139.cell e1t), (hX139.cell e2t), (hX139.cell e3t)⟩) ?_
     refine wT 10 (.int .i64 (((t : Nat) : Int) : Int)) hR (fun w _ => by kernel_rfl) (⟨(hX139.cell e0u), (hX139.cell e1u), (hX139.cell e2u), (hX139.cell e3u), (hX139.cell e0t), (hX139.cell e1t), (hX139.cell e2t), (hX139.cell e3t)⟩) ?_
     refine wT 11 (.bool false) hR (fun w _ => ev_ndec (show _ = Result.ok (Next.value (Value.bool (decide ((((u : Nat) : Int) : Int) > (((t : Nat) : Int) : Int))))) _ from by kernel_rfl) (by omega)) (⟨(hX139.cell e0u), (hX139.cell e1u), (hX139.cell e2u), (hX139.cell e3u), (hX139.cell e0t), (hX139.cell e1t), (hX139.cell e2t), (hX139.cell e3t)⟩) ?_
     refine wS 8 hR (sn_call (f := 22) (args := #[.agg #[.int .i64 1, .int .i64 (((u : Nat) : Int) + 1 : Int), .slice (some ⟨bu, ou, none⟩) 24 ku, .slice adu nu cu], .agg #[.int .i64 1, .int .i64 (((t : Nat) : Int) + 1 : Int), .slice (some ⟨bt, ot, none⟩) 24 kt, .slice adt nt ct]]) (by kernel_rfl) ((Over_r (r := false) (id := 1) (ver := ((u : Nat) : Int) + 1) (id2 := 1) (ver2 := ((t : Nat) : Int) + 1) _ _ _ (by omega) (by omega) (aa_q (vau.aa)) hX139 (hpu) hX139 (aa_q (vat.aa)) hX139 (hpt) hX139 (hT.ext hE) (by rw [Prod.vers_over hva hgl (by omega) (by omega) hup hmu hmt]; exact decide_eq_false q9)).mono ?_))
     rintro e w154 ⟨rfl, hb⟩
     replace hE := hE.trans hb; replace hX5 := hX5.trans hb; replace hX139 := hX139.trans hb; replace hr8v := hr8v.ext hb; replace bx0 := BoxAt.ext hb bx0; replace bx1 := BoxAt.ext hb bx1; replace bx2 := BoxAt.ext hb bx2; replace bx3 := BoxAt.ext hb bx3; replace vA9 := vA9.ext hb; replace hPs9 := hPs9.ext hb; have hs155 := hb.size; clear hb
     refine ⟨_, rfl, ⟨(hX139.cell e0u), (hX139.cell e1u), (hX139.cell e2u), (hX139.cell e3u), (hX139.cell e0t), (hX139.cell e1t), (hX139.cell e2t), (hX139.cell e3t)⟩, ?_⟩
     refine wT 12 (.bool false) hR (fun w _ => by kernel_rfl) (⟨(hX139.cell e0u), (hX139.cell e1u), (hX139.cell e2u), (hX139.cell e3u), (hX139.cell e0t), (hX139.cell e1t), (hX139.cell e2t), (hX139.cell e3t)⟩) ?_
     refine wd_end hL hR hK (by kernel_rfl) ?_
     refine qw_then ?_; refine cC4 8 12 13 87 (fun L => ?_)
     refine cw_f (by kernel_rfl) ?_
     refine cw_skip ?_
     refine qw_block ?_
     refine qw_then ?_; refine cw_plain ?_; refine pT (.int .i64 (((t : Nat) : Int) : Int)) ?_
     refine pU (.int .i64 (((t + 1 : Nat) : Int) : Int)) (ev_wrap (by kernel_rfl) (by omega) (by omega)) ?_
     refine pT (.int .i64 (((t + 1 : Nat) : Int) : Int)) ?_; refine pl_nil ?_
     refine qw_round [8, 12, 13] (ws' := [(8, .slice (some ⟨gL, 0, none⟩) nV cV), (12, .int .i64 (((u : Nat) : Int) : Int)), (13, .int .i64 (((t + 1 : Nat) : Int) : Int))]) (by kernel_rfl) _ ?_ ⟨(t + 1), rfl, rfl, (T hs145 (T hs153 hs155)), hE, hX5, hX139, hr8v, bx0, bx1, bx2, bx3, vA9, hPs9, by omega⟩
     omega
   ·
    refine cw_seq ?_; refine cw_seq ?_; refine cw_plain ?_; refine pT (.int .i64 (((t : Nat) : Int) : Int)) ?_; refine pT (.slice (some ⟨gL, 0, none⟩) nV cV) ?_; refine pT (.int .i64 (((nV : Nat) : Int) : Int)) ?_
    refine pU (.bool false) (ev_ndec (show _ = Result.ok (Next.value (Value.bool (decide ((((t : Nat) : Int) : Int) < (((nV : Nat) : Int) : Int))))) _ from by kernel_rfl) (by omega)) ?_
    refine pl_nil ?_; refine qw_then ?_
    refine cw_f (by kernel_rfl) ?_
    refine cw_exit ?_
    refine qw_then_exit ?_
    refine qw_then_exit ?_
    refine qw_block_out ?_
    refine qw_block ?_
    refine qw_then ?_; refine cw_plain ?_; refine pT (.int .i64 (((u : Nat) : Int) : Int)) ?_
    refine pU (.int .i64 (((u + 1 : Nat) : Int) : Int)) (ev_wrap (by kernel_rfl) (by omega) (by omega)) ?_
    refine pT (.int .i64 (((u + 1 : Nat) : Int) : Int)) ?_; refine pl_nil ?_
    refine qw_round [8, 12] (ws' := [(8, .slice (some ⟨gL, 0, none⟩) nV cV), (12, .int .i64 (((u + 1 : Nat) : Int) : Int))]) (by kernel_rfl) _ ?_ ⟨(u + 1), rfl, rfl, (T hs142 hs145), hE, hX5, hX139, hr8v, bx0, bx1, bx2, bx3, vA9, hPs9, by omega⟩
    omega
  ·
   refine cw_seq ?_; refine cw_seq ?_; refine cw_plain ?_; refine pT (.int .i64 (((u : Nat) : Int) : Int)) ?_; refine pT (.slice (some ⟨gL, 0, none⟩) nV cV) ?_; refine pT (.int .i64 (((nV : Nat) : Int) : Int)) ?_
   refine pU (.bool false) (ev_ndec (show _ = Result.ok (Next.value (Value.bool (decide ((((u : Nat) : Int) : Int) < (((nV : Nat) : Int) : Int))))) _ from by kernel_rfl) (by omega)) ?_
   refine pl_nil ?_; refine qw_then ?_
   refine cw_f (by kernel_rfl) ?_
   refine cw_exit ?_
   refine qw_then_exit ?_
   refine qw_then_exit ?_
   refine qw_block_out ?_
   refine qw_then ?_; refine cw_seq ?_; refine cw_plain ?_; refine pT (.bool true) ?_; refine pl_nil ?_; refine qw_then ?_
   refine cw_ret ?_
   refine qw_ret [.bool true] rfl ⟨(by kernel_rfl), trivial⟩ ?_
   exact ⟨rfl, hE⟩

end Go.Proofs.YtajdohcgjgknmaaDoor

/- The statement ProductVersions: for every input the law returns true, and every argument reads as it read before; the two tables of package math/bits that the row lists are tied to the program's text. -/
namespace Go.Proofs.YtajdohcgjgknmaaDoor
open Go.ChangeShapes Go.WideShapes Go.ChangeAt Go.RowKit

set_option maxRecDepth 100000 in
theorem ProductVersions_lifted (os : Os) (started : os.Started) (H : Type) (enc : TypeId × Value → H) :
  ReturnsInHanded {} Tryd.checked os 6 .any (fun w args => (Rows.productVersionsSpec.pre enc Tryd.prog Tryd.f6 [] false w args ∧ laidMetH Tryd.prog laidTabs w) ∧ sizedMet enc Tryd.prog Tryd.f6 (OpenSpec.ofChange Rows.productVersionsSpec) false w args)
   (Rows.productVersionsSpec.post enc Tryd.prog Tryd.f6 false true false false) := by
 refine returnsInHanded_of_change_and (C := Tryd.checked) (X := fun w _ => laidMetH Tryd.prog laidTabs w) (fun _ _ _ hh h => h.of_heap hh) own started (by kernel_rfl) Tryd.func6
  (ChangeSpec.witness_shaped (enc := enc) (C := Tryd.checked) (os := os) (X := fun w _ => laidMetH Tryd.prog laidTabs w) false (World.doorLaid Tryd.prog 19 os) #[.slice none 0 0, .slice none 0 0] 8 rfl (World.shaped_of_RefB (by kernel_rfl) (by kernel_rfl)) (by kernel_rfl) (by kernel_rfl) (by kernel_rfl) (door_met os _)) ?_
 intro W base args ds gs before hval0 hW _ hsz hL _
 have hval : ∀ (j : Nat) t v, Tryd.f6.params[j]? = some t → args[j]? = some v → Value.okWide Tryd.prog W .any base t v := hval0
 have hW' := hW
 obtain ⟨p, q, hA0, hV, rfl, hfz, hnd⟩ := hW
 have hA : DataW.TrodAll enc Tryd.prog W 0 (fun _ => true) true Tryd.f6.params.toList args.toList ds p := hA0
 rw [Tryd.params6] at hA hval
 obtain ⟨v0, vs0, d0, ds0, p0, q0, hargs, rfl, rfl, h0, r0⟩ := trodAll_cons hA
 obtain ⟨v1, vs1, d1, ds1, p1, q1, rfl, rfl, rfl, h1, r1⟩ := trodAll_cons r0
 obtain ⟨rfl, rfl, rfl⟩ := trodAll_nil r1
 obtain rfl : args = #[v0, v1] := by cases args; simp_all
 obtain ⟨rfl, rfl⟩ := trodVars_none hV
 have k0 := h0
 have lt0 : ∀ x ∈ p0, x.block < W.heap.size := by obtain ⟨m, hm⟩ := k0; exact DataW.trod_lt m _ _ _ hm
 have op0 := open_quads (hval 0 _ v0 rfl rfl) h0
 have k1 := h1
 have lt1 : ∀ x ∈ p1, x.block < W.heap.size := by obtain ⟨m, hm⟩ := k1; exact DataW.trod_lt m _ _ _ hm
 have op1 := open_quads (hval 1 _ v1 rfl rfl) h1
 clear hA0 hval0
 refine (ProductVersions_walk W v0 op0 v1 op1 (tab_of_laid hL)).mono fun e W' ⟨he, hE⟩ => ?_
 subst he
 have bel : Below W.heap.size W W' := hE
 exact ⟨_, rfl, _, _, _, [], _, [], hW', trodAll_mk1 (shut_bool Tryd.underlying4 _), (trodAll_cons_mk (Below.trod laidOut (by kernel_rfl) (of_decide_eq_true (by kernel_rfl)) k0 bel lt0) (trodAll_cons_mk (Below.trod laidOut (by kernel_rfl) (of_decide_eq_true (by kernel_rfl)) k1 bel lt1) trodAll_mk0)), rfl, bel.frame _, fun h => by cases h⟩

theorem ProductVersions_over : Rows.ProductVersionsSaid :=
 OpenClaim.holds_of_wide 6 Tryd.f6 rfl rfl rfl rfl rfl rfl rfl ⟨rfl, rfl, rfl, rfl, rfl⟩ rfl rfl rfl rfl rfl (by kernel_rfl) Tryd.func6 (by kernel_rfl)
  (of_decide_eq_true (by kernel_rfl)) (by unfold Func.isWrapper; first | (rw [if_pos (by decide +kernel)]; kernel_rfl) | (rw [if_neg (by decide +kernel)]; exact ⟨rfl, rfl⟩))
  (fun os started H enc _ => ProductVersions_lifted os started H enc)

/-- The tied card. -/
theorem ProductVersions_holds : Rows.ProductVersionsCardSaid :=
 Claim7.holds_tied_plain_at .later [] [.data, .data] true (true, "8b5a7a53c537ff8737778701348fb3568628a2c5eeac7583eb34b5657efa7458") false
  ProductVersions_over (fun _ h => by cases h) (by kernel_rfl) (fun _ h => by cases h) productVersions_row_tie rfl ⟨rfl, rfl⟩ (by kernel_rfl) rfl
  (fun f fn hf hfn => by
   obtain rfl : f = 6 := Option.some.inj ((show Tryd.prog.funcNamed "nadir/nadirlaw31.ProductVersions" = some 6 by kernel_rfl).symm.trans hf) |>.symm
   obtain rfl : fn = Tryd.f6 := (Option.some.inj (Tryd.func6.symm.trans hfn)).symm
   exact ⟨by kernel_rfl, fun j t ht => by
    rw [Tryd.params6] at ht
    have hm : t ∈ [22, 22] := by simpa using Array.mem_of_getElem? ht
    have hall : ([22, 22].all fun u => !Tryd.prog.wantsStandIn u) = true := by kernel_rfl
    exact (show Tryd.prog.wantsStandIn t = false by simpa using List.all_eq_true.1 hall t hm)⟩)
  (by kernel_rfl)
#print axioms ProductVersions_holds
end Go.Proofs.YtajdohcgjgknmaaDoor
