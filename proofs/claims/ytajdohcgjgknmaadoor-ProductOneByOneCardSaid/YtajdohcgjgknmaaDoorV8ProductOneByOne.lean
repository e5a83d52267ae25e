/- The statement ProductOneByOne: for every input that the row lists, the law returns true, and every argument reads as it read before. -/
import Derived.Test.YtajdohcgjgknmaaDoorV7ProductOneByOne
import Derived.Deep.Slices
/- The opener: rows of four ints in memory. -/
namespace Go.Proofs.YtajdohcgjgknmaaDoor
open Go.ChangeShapes Go.WideShapes Go.ChangeAt Go.RowKit Go.Deep

section
variable {H : Type} {enc : TypeId × Value → H} {W : World}
/-- An array of ints (each one cell): what it reads. -/
theorem ints_of_array {spare : Nat → Bool} {held : Bool} {t : TypeId} {k fuel : Nat} {cs : List Value} {x : DataW H × List MemPlace} (ht : Tryd.prog.underlying t = some (.array k 3)) (h : DataW.trod enc Tryd.prog W 0 spare held fuel t cs = some x) (hc : cs.length = k) :
  ∃ q : Nat → Int, ∀ j, j < k → cs[j]? = some (.int .i64 (q j)) ∧ IsI (q j) := by
 obtain ⟨xs, m, rfl, hx, hlen, hxl, hg⟩ := DataW.trod_array ht h
 have hone : Tryd.prog.cellsOf 3 = 1 := by kernel_rfl
 have each : ∀ j, j < k → ∃ n : Int, cs[j]? = some (.int .i64 n) ∧ IsI n := fun j hj => by
  have h1 := hg j hj
  rw [hone, Nat.mul_one] at h1
  have hx : xs[j]? = some (xs[j]'(by omega)) := List.getElem?_eq_getElem (by omega)
  rw [hx] at h1
  obtain ⟨n, hn, _, hw⟩ := DataW.trod_int Tryd.underlying3 h1
  have hcj : cs[j]? = some (.int .i64 n) := by
   have e : ((cs.drop j).take 1)[0]? = some (.int .i64 n) := by rw [hn]; rfl
   rw [List.getElem?_take_of_lt (by omega), List.getElem?_drop, Nat.add_zero] at e
   exact e
  exact ⟨n, hcj, isI_of_wf hw⟩
 obtain ⟨q, hq⟩ := choose_lt each
 exact ⟨q, hq⟩

end


def Quads (w : World) (v : Value) : Prop := ∃ (a : Option Addr) (n c : Nat) (q : Nat → Nat → Int), v = .slice a n c ∧ n ≤ c ∧ c ≤ 9223372036854775807 ∧ (a = none → c = 0) ∧ QAt w a n q

section
variable {H : Type} {enc : TypeId × Value → H} {W : World}
set_option maxRecDepth 100000 in
theorem open_quads {b0 : Nat} {v : Value} {d : DataW H} {p : List MemPlace} (hval : Value.okWide Tryd.prog W .any b0 22 v) (h : DataW.Trod enc Tryd.prog W 0 (fun _ => true) true 22 v d p) : Quads W v := by
  obtain ⟨a, n, c, rfl⟩ := okWide_slice Tryd.underlying22 hval
  obtain ⟨fuel, hf⟩ := h
  rcases open_slice Tryd.underlying22 hf with ⟨hcs, _⟩ | ⟨a', len, cap, m, k, D, Pl, hcs, hb, hl, hm, hmm, _, hx⟩
  · simp [Value.cells] at hcs
    obtain ⟨rfl, rfl, rfl⟩ := hcs
    exact ⟨none, 0, 0, fun _ _ => 0, rfl, by omega, by omega, fun _ => rfl, .inl rfl⟩
  · simp [Value.cells] at hcs
    obtain ⟨rfl, rfl, rfl⟩ := hcs
    unfold maxLen at hm
    rcases Nat.eq_zero_or_pos n with h0 | h0
    · exact ⟨_, _, _, fun _ _ => 0, rfl, by omega, by omega, (fun e => by cases e), .inl h0⟩
    · have h4 : Tryd.prog.cellsOf 60 = 4 := by kernel_rfl
      rw [h4] at hx
      simp only [if_true] at hmm
      subst hmm
      have each : ∀ i, i < n → ∃ q : Nat → Int, ∀ j, j < 4 → W.cell? (a'.add (i * 4 + j)) = some (.int .i64 (q j)) ∧ IsI (q j) := fun i hi => by
        obtain ⟨cs', hc1, hc2⟩ := hx i (by omega)
        obtain ⟨_, hcl, hat⟩ := World.cells?_some hc1
        obtain ⟨q, hq⟩ := ints_of_array Tryd.underlying60 hc2 hcl
        refine ⟨q, fun j hj => ⟨?_, (hq j hj).2⟩⟩
        rw [← Go.Deep.add_add, hat j hj]
        exact (hq j hj).1
      obtain ⟨q, hq⟩ := choose_lt each
      obtain ⟨b, off, spot⟩ := a'
      have hspot : spot = none := by have := World.cell?_spot (hq 0 h0 0 (by omega)).1; simpa [Addr.add] using this
      subst hspot
      refine ⟨_, _, _, q, rfl, by omega, by omega, (fun e => by cases e), .inr ⟨b, off, rfl, fun i hi j hj => ?_⟩⟩
      have := hq i hi j hj
      rw [add_plain, ← Nat.add_assoc] at this
      exact this
end

end Go.Proofs.YtajdohcgjgknmaaDoor

/- What the laws of chapter 31 share: lists of pieces that are cut and joined. -/
namespace Go.Proofs.YtajdohcgjgknmaaDoor
open Go.RowKit
theorem PcsS.nowS {S : Nat → Prop} {w : World} {a : Option Addr} {n : Nat} {l : List Prod.Pc} (h : PcsS S w a n l) : PcsS (fun k => S k ∧ k < w.heap.size) w a n l := by
  obtain ⟨rs, h1, h2, h3, h4⟩ := h
  refine ⟨rs, h1, h2, fun q ad e => ⟨h3 q ad e, ?_⟩, fun x hx q ad e => ⟨h4 x hx q ad e, ?_⟩⟩
  · obtain ⟨g1, g2, g3⟩ := h1
    rcases g3 with g3 | ⟨b, o, e', hx⟩
    · omega
    · rw [e] at e'; cases e'
      exact World.block_lt_of_cell? _ _ (hx 0 _ (List.getElem?_eq_getElem (by omega))).1
  · obtain ⟨i, hi⟩ := List.getElem?_of_mem hx
    obtain ⟨p, hp, e1, e2, e3, e4⟩ := h2.at hi
    exact aa_lt e4 q ad e
theorem RawsAt.take {w : World} {a : Option Addr} {n : Nat} {rs : List RawPc} (h : RawsAt w a n rs) {k : Nat} (hk : k ≤ n) : RawsAt w a k (rs.take k) := by
  obtain ⟨h1, h2, h3⟩ := h
  refine ⟨by rw [List.length_take]; omega, by omega, ?_⟩
  rcases h3 with h3 | ⟨b, o, ha, hx⟩
  · exact .inl (by omega)
  · refine .inr ⟨b, o, ha, fun i x hi => hx i x ?_⟩
    rw [List.getElem?_take] at hi
    split at hi
    · exact hi
    · cases hi
theorem RawsAt.drop {w : World} {a : Option Addr} {n : Nat} {rs : List RawPc} (h : RawsAt w a n rs) {k c : Nat} (hk : k ≤ n) (hc : n ≤ c) : RawsAt w (if c = k then a else a.map (fun x => x.add (k * 4))) (n - k) (rs.drop k) := by
  obtain ⟨h1, h2, h3⟩ := h
  refine ⟨by rw [List.length_drop, h1], by omega, ?_⟩
  by_cases h0 : n = k
  · exact .inl (by omega)
  · rcases h3 with h3 | ⟨b, o, rfl, hx⟩
    · exact .inl (by omega)
    · rw [if_neg (by omega)]
      refine .inr ⟨b, o + k * 4, by rw [Option.map_some, Addr.add_mid], fun i x hi => ?_⟩
      rw [List.getElem?_drop] at hi
      have := hx (k + i) x hi
      rwa [show o + (k + i) * 4 = o + k * 4 + i * 4 by rw [Nat.add_mul]; omega] at this
theorem Reads.take {w : World} {rs : List RawPc} {l : List Prod.Pc} (h : Reads w rs l) (k : Nat) : Reads w (rs.take k) (l.take k) := by
  have e := h.len
  refine Reads.of_at (by rw [List.length_take, List.length_take, e]) fun i x p hx hp => ?_
  rw [List.getElem?_take] at hx hp
  split at hx
  · rename_i hi
    rw [if_pos hi] at hp
    obtain ⟨q, hq, hr⟩ := h.at hx
    rw [hp] at hq; cases hq; exact hr
  · cases hx
theorem Reads.drop {w : World} {rs : List RawPc} {l : List Prod.Pc} (h : Reads w rs l) (k : Nat) : Reads w (rs.drop k) (l.drop k) := by
 have e := h.len
 refine Reads.of_at (by rw [List.length_drop, List.length_drop, e]) fun i x p hx hp => ?_
 rw [List.getElem?_drop] at hx hp
 obtain ⟨q, hq, hr⟩ := h.at hx
 rw [hp] at hq; cases hq; exact hr
/-- A slice from k on. -/
theorem PcsAt.drop {w : World} {a : Option Addr} {n : Nat} {l : List Prod.Pc} (h : PcsAt w a n l) {k c : Nat} (hk : k ≤ n) (hc : n ≤ c) : PcsAt w (if c = k then a else a.map (fun x => x.add (k * 4))) (n - k) (l.drop k) := by
 obtain ⟨rs, h1, h2⟩ := h; exact ⟨_, h1.drop hk hc, h2.drop k⟩
end Go.Proofs.YtajdohcgjgknmaaDoor

/- The mathematics of dividing: going on from what is divided, who gives a cell, what is missing. -/
namespace Go.Proofs.YtajdohcgjgknmaaDoor
namespace Prod
open Globe
/-- Cells within cells. -/
def Sub (a b : List Int) : Prop := ∀ u v, u < 48 → v < 24 → hasL a u v = true → hasL b u v = true
theorem meet_sub {r' r z : List Int} (h' : validL r' = true) (_h : validL r = true) (hs : Sub r' r) : meetL r' (meetL r z) = meetL r' z :=
 ext_has (meet_valid h') (meet_valid h') fun u v hu hv => by
  rw [has_meet hv, has_meet hv, has_meet hv]
  cases q : hasL r' u v
  · rfl
  · rw [hs u v hu hv q]; simp
theorem less_sub {r' r z : List Int} (h' : validL r' = true) (_h : validL r = true) (hs : Sub r' r) : lessL r' (meetL r z) = lessL r' z :=
 ext_has (less_valid h') (less_valid h') fun u v hu hv => by
  rw [has_less hv, has_less hv, has_meet hv]
  cases q : hasL r' u v
  · rfl
  · rw [hs u v hu hv q]; simp
theorem less_none {r' r z : List Int} (h' : validL r' = true) (h : validL r = true) (hs : Sub r' r) (hn : noC (meetL r z) = true) : lessL r' z = r' :=
 ext_has (less_valid h') h' fun u v hu hv => by
  have h2 := (noC_iff (meet_valid h)).1 hn u v hu hv
  rw [has_meet hv] at h2
  rw [has_less hv]
  cases q : hasL r' u v
  · rfl
  · rw [hs u v hu hv q] at h2; simp at h2; rw [h2]; rfl
theorem meet_none {r' r z : List Int} (h' : validL r' = true) (h : validL r = true) (hs : Sub r' r) (hn : noC (meetL r z) = true) : noC (meetL r' z) = true :=
 (noC_iff (meet_valid h')).2 fun u v hu hv => by
  have h2 := (noC_iff (meet_valid h)).1 hn u v hu hv
  rw [has_meet hv] at h2 ⊢
  cases q : hasL r' u v
  · rfl
  · rw [hs u v hu hv q] at h2; simpa using h2
theorem sub_less {r' r z : List Int} (hs : Sub r' r) : Sub (lessL r' z) (lessL r z) := fun u v hu hv h => by
 rw [has_less hv, Bool.and_eq_true] at h ⊢
 exact ⟨hs u v hu hv h.1, h.2⟩
theorem sub_less' {r' r z : List Int} (h' : validL r' = true) (h : validL r = true) (hs : Sub r' r) (hn : noC (meetL r z) = true) : Sub r' (lessL r z) := fun u v hu hv h9 => by
 have := sub_less (z := z) hs u v hu hv (by rw [less_none h' h hs hn]; exact h9)
 exact this
theorem sub_refl (r : List Int) : Sub r r := fun _ _ _ _ h => h
theorem own_own {r' r : List Int} {x : Pc} (h' : validL r' = true) (h : validL r = true) (hs : Sub r' r) : own r' (own r x) = own r' x := by
 unfold own; show Pc.mk _ _ _ _ = Pc.mk _ _ _ _; rw [show meetL r' (meetL r x.rw) = meetL r' x.rw from meet_sub h' h hs]
/-- Dividing what is left among what was divided. -/
theorem divF_divF : ∀ {s : List Pc} {r' r : List Int}, validL r' = true → validL r = true → Sub r' r → divF r' (divF r s) = divF r' s
  | [], _, _, _, _, _ => rfl
  | z :: s, r', r, h', h, hs => by
    rw [divF.eq_2 r, divF.eq_2 r']
    cases q : noC (meetL r z.rw)
    · rw [if_neg (by simp)]
      show divF r' (own r z :: divF (lessL r z.rw) s) = _
      rw [divF, show meetL r' (own r z).rw = meetL r' z.rw from meet_sub h' h hs, own_own h' h hs, show lessL r' (own r z).rw = lessL r' z.rw from less_sub h' h hs, divF_divF (less_valid h') (less_valid h) (sub_less hs)]
    · rw [if_pos rfl, List.nil_append, divF_divF h' (less_valid h) (sub_less' h' h hs q), meet_none h' h hs q, if_pos rfl, List.nil_append, less_none h' h hs q]
theorem ins_all {x : Pc} : ∀ {l : List Pc}, (∀ d ∈ l, better x d = true) → ins x l = x :: l
 | [], _ => rfl
 | d :: l, h => by unfold ins; rw [if_pos (h d (by simp))]
theorem divF_better {x : Pc} {s : List Pc} {r : List Int} (h : ∀ p ∈ s, better x p = true) : ∀ d ∈ divF r s, better x d = true := fun d hd => by
 obtain ⟨p, hp, e1, e2, e3, _⟩ := mem_divF hd
 have := h p hp
 unfold better at this ⊢
 rw [e1, e2, e3]; exact this
/-- Dividing after one piece more has come to what was divided. -/
theorem divF_ins : ∀ {s : List Pc} {r : List Int} {x : Pc}, Sorted s → validL r = true → divF r (ins x (divF r s)) = divF r (ins x s)
  | [], _, _, _, _ => rfl
  | y :: s, r, x, hs, h => by
    obtain ⟨h1, h2⟩ := List.pairwise_cons.1 hs
    cases hb : better x y
    · have e : ins x (y :: s) = y :: ins x s := by rw [ins, if_neg (by rw [hb]; simp)]
      rw [e, divF.eq_2 r y (ins x s), divF.eq_2 r y s]
      cases q : noC (meetL r y.rw)
      · rw [if_neg (by simp)]
        show divF r (ins x (own r y :: divF (lessL r y.rw) s)) = _
        have e2 : ins x (own r y :: divF (lessL r y.rw) s) = own r y :: ins x (divF (lessL r y.rw) s) := by rw [ins, if_neg (by rw [show better x (own r y) = false from hb]; simp)]
        rw [e2, divF, show meetL r (own r y).rw = meetL r y.rw from meet_sub h h (sub_refl r), own_own h h (sub_refl r), show lessL r (own r y).rw = lessL r y.rw from less_sub h h (sub_refl r), q, if_neg (by simp), divF_ins h2 (less_valid h)]
      · rw [if_pos rfl, List.nil_append, List.nil_append]
        have e3 : lessL r y.rw = r := less_none h h (sub_refl r) q
        rw [e3]
        exact divF_ins h2 h
    · have hall : ∀ p ∈ y :: s, better x p = true := fun p hp => by
        rcases List.mem_cons.1 hp with rfl | hp
        · exact hb
        · exact better_trans hb (h1 p hp)
      rw [ins_all (divF_better hall), ins_all hall, divF.eq_2 r x (divF r (y :: s)), divF.eq_2 r x (y :: s)]
      have hsub : Sub (lessL r x.rw) r := fun u v hu hv hh => by
        rw [has_less hv, Bool.and_eq_true] at hh; exact hh.1
      rw [divF_divF (less_valid h) h hsub]
theorem divF_sorted : ∀ {s : List Pc} {r : List Int}, Sorted s → Sorted (divF r s)
 | [], _, _ => List.Pairwise.nil
 | y :: s, r, hs => by
  obtain ⟨h1, h2⟩ := List.pairwise_cons.1 hs
  rw [divF]
  split
  · exact divF_sorted h2
  · exact List.pairwise_cons.2 ⟨divF_better (x := own r y) fun p hp => h1 p hp, divF_sorted h2⟩
theorem divF_dist : ∀ {s : List Pc} {r : List Int}, Dist s → Dist (divF r s)
  | [], _, _ => List.Pairwise.nil
  | y :: s, r, hs => by
    obtain ⟨h1, h2⟩ := Dist.cons.1 hs
    rw [divF]
    split
    · exact divF_dist h2
    · refine Dist.cons.2 ⟨fun d hd => ?_, divF_dist h2⟩
      obtain ⟨p, hp, e, _⟩ := mem_divF hd
      rw [e]; exact h1 p hp
theorem divide_dist {ar : List Int} {l : List Pc} (hd : Dist l) : Dist (divide ar l) := (Dist.perm (List.reverse_perm _)).2 (divF_dist ((Dist.perm (sortD_perm l)).2 hd))
theorem sort_divide {ar : List Int} {l : List Pc} (hd : Dist l) : sortD (divide ar l) = divF ar (sortD l) :=
 ((sortD_congr (divide_dist hd) (List.reverse_perm _)).trans (sortD_id (divF_dist ((Dist.perm (sortD_perm l)).2 hd)) (divF_sorted (sortD_sorted hd))))
theorem sort_snoc {l : List Pc} {x : Pc} (hd : Dist (l ++ [x])) : sortD (l ++ [x]) = ins x (sortD l) := sortD_congr hd (b := x :: l) List.perm_append_comm
theorem dist_init {l : List Pc} {x : Pc} (h : Dist (l ++ [x])) : Dist l := (List.pairwise_append.1 h).1
theorem dist_next {ar : List Int} {l : List Pc} {x : Pc} (h : Dist (l ++ [x])) : Dist (divide ar l ++ [x]) :=
 List.pairwise_append.2 ⟨divide_dist (dist_init h), List.pairwise_singleton _ _, fun p hp q hq => by
  rw [List.mem_singleton.1 hq]
  obtain ⟨z, hz, e, _⟩ := mem_divF (List.mem_reverse.1 hp)
  rw [e]; exact (List.pairwise_append.1 h).2.2 z ((sortD_perm l).mem_iff.1 hz) x (by simp)⟩
/-- What is built, with one piece more. -/
theorem divide_next {ar : List Int} {l : List Pc} {x : Pc} (ha : validL ar = true) (h : Dist (l ++ [x])) : divide ar (divide ar l ++ [x]) = divide ar (l ++ [x]) := by
 show (divF ar (sortD _)).reverse = (divF ar (sortD _)).reverse
 rw [sort_snoc (dist_next h), sort_snoc h, sort_divide (dist_init h), divF_ins (sortD_sorted (dist_init h)) ha]
/-! Who gives a cell. -/
/-! What is missing. -/
/-! Going on, one piece after the other. -/
theorem take_snoc {T : List Pc} {j : Nat} {x : Pc} (h : T[j]? = some x) : T.take (j + 1) = T.take j ++ [x] := by rw [List.take_add_one, h]; rfl
theorem good_take {T : List Pc} (h : goodL T = true) (j : Nat) : goodL (T.take j) = true := goodL_of (fun p hp => goodL_ok h p (List.mem_of_mem_take hp)) ((goodL_dist h).sublist (List.take_sublist j T))
theorem divide_step {ar : List Int} {T : List Pc} {j : Nat} {x : Pc} (ha : validL ar = true) (hg : goodL T = true) (hx : T[j]? = some x) : divide ar (divide ar (T.take j) ++ [x]) = divide ar (T.take (j + 1)) := by
 rw [take_snoc hx]
 exact divide_next ha (by rw [← take_snoc hx]; exact goodL_dist (good_take hg _))
theorem nextVer_or (ver : Int) (ar : List Int) (ps : List Pc) (x : Pc) : nextVer ver ar ps x = ver ∨ nextVer ver ar ps x = ver + 1 := by
 unfold nextVer
 split
 · exact .inr rfl
 · exact .inl rfl
theorem next_ok {id ver : Int} {ar : List Int} {T : List Pc} {j : Nat} {x : Pc} (hid : 0 ≤ id ∧ id ≤ 63) (hver : 1 ≤ ver ∧ ver ≤ 99) (ha : validL ar = true) (hg : goodL T = true) (hn : T.length ≤ 24) (hx : T[j]? = some x) : nextOk id ver ar (divide ar (T.take j)) x = true := by
 have hl : ∀ j, (T.take j).length ≤ 24 := fun j => by rw [List.length_take]; omega
 have hno : hasIm (divide ar (T.take j)) x.im = false := hasIm_of fun q hq => by
  have h9 : Dist (divide ar (T.take j) ++ [x]) := dist_next (by rw [← take_snoc hx]; exact goodL_dist (good_take hg _))
  exact (List.pairwise_append.1 h9).2.2 q hq x (by simp)
 unfold nextOk
 rw [goodL_ok hg x (List.mem_of_getElem? hx), divide_valid hid (by omega) ha (goodL_ok (good_take hg j)) (goodL_dist (good_take hg j)) (hl j), hno, divide_step ha hg hx, divide_valid hid (by rcases nextVer_or ver ar (divide ar (T.take j)) x with h | h <;> omega) ha (goodL_ok (good_take hg _)) (goodL_dist (good_take hg _)) (hl _)]
 rfl
theorem turn_at {r : List Pc} {m i n : Nat} (hn : r.length = n) (hm : m ≤ n) (hi : i < n) : (r.drop m ++ r.take m)[i]? = r[(i + m) % n]? := by
  subst hn
  rcases Nat.lt_or_ge i (r.length - m) with h | h
  · rw [List.getElem?_append_left (by rw [List.length_drop]; exact h), List.getElem?_drop, Nat.mod_eq_of_lt (by omega), Nat.add_comm]
  · rw [List.getElem?_append_right (by rw [List.length_drop]; exact h), List.length_drop, List.getElem?_take_of_lt (by omega), Nat.mod_eq_sub_mod (by omega), Nat.mod_eq_of_lt (by omega)]
    congr 1; omega
/-- The order in which ProductOneByOne goes on. -/
def oneT (l : List Pc) (k m : Nat) : List Pc := l.take k ++ ((l.drop k).drop m ++ (l.drop k).take m)
theorem oneT_perm (l : List Pc) (k m : Nat) : l.Perm (oneT l k m) := by
 have h := (turn_perm (l.drop k) m).append_left (l.take k)
 rwa [List.take_append_drop] at h
theorem oneT_at {l : List Pc} {k m i n : Nat} (hk : k ≤ l.length) (hn : (l.drop k).length = n) (hm : m ≤ n) (hi : i < n) : (oneT l k m)[k + i]? = (l.drop k)[(i + m) % n]? := by
 unfold oneT
 have e : (l.take k).length = k := by rw [List.length_take]; omega
 rw [List.getElem?_append_right (by rw [e]; omega), e, Nat.add_sub_cancel_left, turn_at hn hm hi]
theorem oneT_first {l : List Pc} {k m : Nat} (hk : k ≤ l.length) : (oneT l k m).take (k + 0) = l.take k := by
 unfold oneT
 have e : (l.take k).length = k := by rw [List.length_take]; omega
 rw [Nat.add_zero, List.take_left' e]
end Prod
end Go.Proofs.YtajdohcgjgknmaaDoor

/- The walk of the law ProductOneByOne. -/
namespace Go.Proofs.YtajdohcgjgknmaaDoor
open Go.RowKit Go.Shelf

set_option maxRecDepth 1000000 in
set_option maxHeartbeats 4000000 in
theorem ProductOneByOne_walk (w : World) (v0 : Value) (o0 : Quads w v0) (v1 : Value) (o1 : Quads w v1) (i2 : Int) (hi2 : IsI i2) (i3 : Int) (hi3 : IsI i3) (hT : Tab w) :
  Calls Tryd.prog 5 #[v0, v1, .int .i64 i2, .int .i64 i3] w fun e w' => e = .returned (.bool true) ∧ Ext w w' := by
 obtain ⟨a0, n0, c0, q0, rfl, hnc0, hcm0, hz0, Q0⟩ := o0
 obtain ⟨a1, n1, c1, q1, rfl, hnc1, hcm1, hz1, Q1⟩ := o1
 refine calls_cw 102 [(3, .int .i64 i3), (2, .int .i64 i2), (1, .slice a1 n1 c1), (0, .slice a0 n0 c0)] Tryd.func5 rfl Tryd.ntmps5 (by kernel_rfl) (by kernel_rfl) (fun L => ?_)
 have hE : Ext w w := Ext.refl w
 refine cw_seq ?_; refine cw_plain ?_; refine pT (.bool false) ?_; refine pl_nil ?_; refine qw_then ?_; refine cw_seq ?_; refine cw_seq ?_; refine cw_plain ?_
 refine pS (sn_call (f := 8) (args := #[]) (by kernel_rfl) ((sane_c _ (hT.ext (Ext.refl _))).mono ?_))
 rintro e w1 ⟨rfl, hb⟩
 replace hE := hE.trans hb; have hs2 := hb.size; clear hb
 refine ⟨_, rfl, ?_⟩
 refine pT (.bool false) ?_; refine pl_nil ?_; refine qw_then ?_
 refine cw_f (by kernel_rfl) ?_
 refine cw_skip ?_
 refine qw_then ?_; refine cw_seq ?_; refine cw_plain ?_; refine pT (.slice a0 n0 c0) ?_
 refine pS (sn_call (f := 9) (args := #[.slice a0 n0 c0]) (by kernel_rfl) ((Area_c _ _ Q0 hE (by omega)).mono ?_))
 rintro e w6 ⟨B3, ar, rfl, hn4, hva, hr5, hb⟩
 replace hE := hE.trans hb; have hs7 := hb.size; clear hb
 have hr5v := hr5.va hva
 have lt8 := hr5v.lt
 refine ⟨_, rfl, ?_⟩
 refine pS (sn_new (us := #[.slice none 0 0]) (t := 26) (by kernel_rfl) ?_)
 intro O9 X10 hzO9 hyO9 hb hbx; have bO9_0 := bx1 hbx; clear hbx
 replace hE := hE.trans hb; replace hr5v := hr5v.ext hb; have hs11 := hb.size; clear hb; have lt12 := bO9_0.lt
 refine pP (sn_set (O := O9) (j := 0) (v := .slice (some ⟨B3, 0, none⟩) 24 24) (ex_store (p := .pointer (some ⟨O9, 0, none⟩)) (v := .agg #[.slice (some ⟨B3, 0, none⟩) 24 24]) rfl (by kernel_rfl) (by kernel_rfl) (st26 bO9_0.1 bO9_0.2)) bO9_0 ?_)
 intro X13 ho hv0 hk; replace hE := ho.ext hE (T (T hs2 hs7) (Nat.le_of_eq hzO9)); replace hr5v := ho.va (Nat.ne_of_gt (Nat.lt_of_lt_of_le lt8 (Nat.le_of_eq hzO9))) hr5v; have hs14 : X10.heap.size ≤ X13.heap.size := Nat.le_of_eq ho.size.symm; clear ho hk bO9_0; have bO9_0 := hv0; clear hv0; refine pl_nil ?_; refine qw_then ?_; refine cw_seq ?_; refine cw_plain ?_; refine pT (.slice a1 n1 c1) ?_
 refine pS (sn_call (f := 10) (args := #[.slice a1 n1 c1]) (by kernel_rfl) ((Pieces_c _ Q1 hE (by omega) (by omega)).mono ?_))
 rintro e w15 ⟨a, k, c, ps, rfl, ho, hl, hkc, hg, hb⟩
 replace hE := hE.trans hb; replace hr5v := hr5v.ext hb; replace bO9_0 := BoxAt.ext hb bO9_0; have hs16 := hb.size; clear hb
 have hP := ho.weaken.pcs hl (by have := hg.1; omega)
 have hk8 : k ≤ 8 := by have := hg.1; omega
 have hgl := hg.good
 obtain ⟨rs, hRw, hrd⟩ := id hP
 clear ho; have hX17 : Ext w15 w15 := Ext.refl _
 refine ⟨_, rfl, ?_⟩
 refine pT (.slice a k c) ?_; refine pl_nil ?_; refine qw_then ?_; refine cw_seq ?_; refine cw_plain ?_; refine pT (.int .i64 i2) ?_; refine pT (.slice a k c) ?_; refine pT (.int .i64 (((k : Nat) : Int) : Int)) ?_
 refine pU (.int .i64 (((k + 1 : Nat) : Int) : Int)) (ev_wrap (by kernel_rfl) (by omega) (by omega)) ?_
 refine pS (sn_call (f := 19) (args := #[.int .i64 i2, .int .i64 (((k + 1 : Nat) : Int) : Int)]) (by kernel_rfl) ((pick31N_c _ (k + 1) _ hi2 (by omega) (by omega)).mono ?_))
 rintro e w' ⟨kk, rfl, hkl, hkp, rfl⟩
 refine ⟨_, rfl, ?_⟩
 refine pT (.int .i64 (((kk : Nat) : Int) : Int)) ?_; refine pl_nil ?_; refine qw_then ?_; refine cC4 3 9 10 11 (fun L => ?_); refine cw_seq ?_
 refine cw_join (fun ws' Y => ∃ b32 : Nat, ∃ o33 : Nat, ∃ k23 : Nat, ∃ a24 : Option Addr, ∃ n25 : Nat, ∃ c26 : Nat, ∃ O38 : Nat, ws' = [(3, .int .i64 i3), (9, .pointer (some ⟨O9, 0, none⟩)), (10, .slice a k c), (11, .int .i64 (((kk : Nat) : Int) : Int)), (12, .pointer (some ⟨O38, 0, none⟩)), (13, .int .i64 0)] ∧ Ext w Y ∧ Ext w15 Y ∧ VA Y B3 0 ar ∧ BoxAt Y O9 0 (.slice (some ⟨B3, 0, none⟩) 24 24) ∧ n25 ≤ c26 ∧ Pl a24 ∧ VA Y b32 o33 ar ∧ PcsS (fun k => k ≠ O38) Y a24 n25 (Prod.divide ar (ps.take kk)) ∧ BoxAt Y O38 0 (.int .i64 1) ∧ BoxAt Y O38 1 (.int .i64 1) ∧ BoxAt Y O38 2 (.slice (some ⟨b32, o33, none⟩) 24 k23) ∧ BoxAt Y O38 3 (.slice a24 n25 c26) ∧ w15.heap.size ≤ Y.heap.size ∧ w15.heap.size ≤ b32 ∧ w15.heap.size ≤ O38 ∧ Hid (b32 ≠ O38)) (fun hJ => ?_) ?_
 ·
  refine cw_draw [(some 33, [9], []), (some 34, [10], []), (some 35, [11], []), (some 36, [34, 35], [1, 2]), (some 37, [33, 36], [0, 3]), (some 32, [37], [4]), (some 38, [32], [5]), (some 39, [32], [5]), (some 12, [], []), (none, [12, 38], [8, 6, 4, 0, 1, 2, 3, 4, 5, 6, 8]), (some 13, [39], [7, 9, 0, 1, 2, 3, 4, 5, 6, 7, 8, 9])] (fun w' => w'.cell? ⟨O9, 0, none⟩ = some (.slice (some ⟨B3, 0, none⟩) 24 24)) (by kernel_rfl) (by kernel_rfl) (by kernel_rfl) (by kernel_rfl) ((calm_then calm_body)) (bO9_0.1) (fun ops Q X18 hb hL hR hK => ?_)
  replace hE := hE.trans hb; replace hX17 := hX17.trans hb; replace hr5v := hr5v.ext hb; replace bO9_0 := BoxAt.ext hb bO9_0; have hs19 := hb.size; clear hb
  refine wT 0 (.agg #[.slice (some ⟨B3, 0, none⟩) 24 24]) hR (fun w hS => ex_load rfl (by kernel_rfl) (ld26 (hS))) (bO9_0.1) ?_
  refine wT 1 (.slice a k c) hR (fun w _ => by kernel_rfl) (bO9_0.1) ?_
  refine wT 2 (.int .i64 (((kk : Nat) : Int) : Int)) hR (fun w _ => by kernel_rfl) (bO9_0.1) ?_
  refine wT 3 (.slice a kk c) hR (fun w _ => ex_slice (p := .slice a k c) rfl (by kernel_rfl) (by kernel_rfl) (by kernel_rfl) (by kernel_rfl) (sl28_010a (m := kk) (by omega) (by omega))) (bO9_0.1) ?_
  refine wd_two 4 8 hR rfl rfl (by kernel_rfl) (by kernel_rfl) (by kernel_rfl) (by kernel_rfl) ?_ ?_
  ·
   have hPT20 : PcsAt X18 a kk (ps.take kk) := (hP.take (by omega)).ext hX17
   refine sn_call (f := 11) (args := #[.int .i64 1, .agg #[.slice (some ⟨B3, 0, none⟩) 24 24], .slice a kk c]) (by kernel_rfl) (((Build_c (id := 1) (l := ps.take kk) _ _ (by omega) (aa_q (hr5v.aa)) (Ext.refl _) hPT20 (Ext.refl _) (hT.ext hE)).mono fun _ _ h => h.eq (Prod.build_ok (by omega) hva (Prod.good_take hgl kk) (by rw [List.length_take, hl]; omega)) rfl rfl).mono ?_)
   rintro e w35 ⟨a21, n22, k23, a24, n25, c26, rfl, hA27, hfr28, hP29, hnc30, hpl31, hb⟩
   replace hE := hE.trans hb; replace hX17 := hX17.trans hb; replace hr5v := hr5v.ext hb; replace bO9_0 := BoxAt.ext hb bO9_0; have hs36 := hb.size; clear hb
   obtain ⟨b32, o33, rfl, rfl, hV34⟩ := va_of hA27 (hva)
   have hfr28l := hfr28 _ rfl
   have lt37 := hV34.lt
   have hP29n : PcsS (fun k => X18.heap.size ≤ k ∧ k < w35.heap.size) w35 a24 n25 (Prod.divide ar (ps.take kk)) := PcsS.both hP29
   refine ⟨_, rfl, bO9_0.1, ?_⟩
   refine wT 5 (.tuple #[.agg #[.int .i64 1, .int .i64 1, .slice (some ⟨b32, o33, none⟩) 24 k23, .slice a24 n25 c26], .int .i64 0]) hR (fun w _ => by kernel_rfl) (bO9_0.1) ?_
   refine wT 6 (.agg #[.int .i64 1, .int .i64 1, .slice (some ⟨b32, o33, none⟩) 24 k23, .slice a24 n25 c26]) hR (fun w _ => by kernel_rfl) (bO9_0.1) ?_
   refine wT 7 (.int .i64 0) hR (fun w _ => by kernel_rfl) (bO9_0.1) ?_
   refine wS 8 hR (sn_new (us := #[.int .i64 0, .int .i64 0, .slice none 0 0, .slice none 0 0]) (t := 31) (by kernel_rfl) ?_)
   intro O38 X39 hzO38 hyO38 hb hbx; have ⟨bO38_0, bO38_1, bO38_2, bO38_3⟩ := bx4 hbx; clear hbx
   replace hE := hE.trans hb; replace hX17 := hX17.trans hb; replace hr5v := hr5v.ext hb; replace bO9_0 := BoxAt.ext hb bO9_0; replace hV34 := hV34.ext hb; replace hP29n := hP29n.ext hb; have hs40 := hb.size; clear hb; have lt41 := bO38_0.lt
   refine ⟨bO9_0.1, ?_⟩
   refine wS 9 hR (sn_setK4 (O := O38) (j := 0) (v0 := .int .i64 1) (v1 := .int .i64 1) (v2 := .slice (some ⟨b32, o33, none⟩) 24 k23) (v3 := .slice a24 n25 c26) (ex_store (p := .pointer (some ⟨O38, 0, none⟩)) (v := .agg #[.int .i64 1, .int .i64 1, .slice (some ⟨b32, o33, none⟩) 24 k23, .slice a24 n25 c26]) rfl (by kernel_rfl) (by kernel_rfl) (st31 bO38_0.1 bO38_0.2 bO38_1.1 bO38_1.2 bO38_2.1 bO38_2.2 bO38_3.1 bO38_3.2)) bO38_0 bO38_1 bO38_2 bO38_3 ?_)
   intro X42 ho hv0 hv1 hv2 hv3 hk; replace hE := ho.ext hE (T (T hs2 (T hs7 (T hs11 (T hs14 (T hs16 (T hs19 hs36)))))) (Nat.le_of_eq hzO38)); replace hX17 := ho.ext hX17 (T (T hs19 hs36) (Nat.le_of_eq hzO38)); replace hr5v := ho.va (Nat.ne_of_gt (Nat.lt_of_lt_of_le lt8 (T (T hs11 (T hs14 (T hs16 (T hs19 hs36)))) (Nat.le_of_eq hzO38)))) hr5v; replace bO9_0 := ho.box (Nat.ne_of_gt (Nat.lt_of_lt_of_le lt12 (T (T hs14 (T hs16 (T hs19 hs36))) (Nat.le_of_eq hzO38)))) bO9_0; replace hV34 := ho.va (Nat.ne_of_gt (Nat.lt_of_lt_of_le lt37 (Nat.le_of_eq hzO38))) hV34; replace hP29n := hP29n.turn ho (fun h => absurd h.2 (Nat.not_lt_of_le (Nat.le_of_eq hzO38))); have hs43 : X39.heap.size ≤ X42.heap.size := Nat.le_of_eq ho.size.symm; clear ho hk bO38_0 bO38_1 bO38_2 bO38_3; have bO38_0 := hv0; clear hv0; have bO38_1 := hv1; clear hv1; have bO38_2 := hv2; clear hv2; have bO38_3 := hv3; clear hv3
   refine ⟨bO9_0.1, ?_⟩
   refine wT 10 (.int .i64 0) hR (fun w _ => by kernel_rfl) (bO9_0.1) ?_
   refine wd_end hL hR hK (by kernel_rfl) ?_
   have hPa44 : PcsS (fun k => k ≠ O38) X42 a24 n25 (Prod.divide ar (ps.take kk)) := PcsS.mono hP29n (fun k hk e => (fun h => absurd h.2 (Nat.not_lt_of_le (Nat.le_of_eq hzO38))) (e ▸ hk))
   exact qw_leaf hJ [3, 9, 10, 11, 12, 13] (ws' := [(3, .int .i64 i3), (9, .pointer (some ⟨O9, 0, none⟩)), (10, .slice a k c), (11, .int .i64 (((kk : Nat) : Int) : Int)), (12, .pointer (some ⟨O38, 0, none⟩)), (13, .int .i64 0)]) (by kernel_rfl) ⟨b32, o33, k23, a24, n25, c26, O38, rfl, hE, hX17, hr5v, bO9_0, hnc30, hpl31, hV34, hPa44, bO38_0, bO38_1, bO38_2, bO38_3, (T hs19 (T hs36 (T hs40 hs43))), (T hs19 hfr28l), (T (T hs19 hs36) (Nat.le_of_eq hzO38)), Lib.hid (Nat.ne_of_lt (Nat.lt_of_lt_of_le lt37 (Nat.le_of_eq hzO38)))⟩
  ·
   refine sn_new (us := #[.int .i64 0, .int .i64 0, .slice none 0 0, .slice none 0 0]) (t := 31) (by kernel_rfl) ?_
   intro O45 X46 hzO45 hyO45 hb hbx; have ⟨bO45_0, bO45_1, bO45_2, bO45_3⟩ := bx4 hbx; clear hbx
   replace hE := hE.trans hb; replace hX17 := hX17.trans hb; replace hr5v := hr5v.ext hb; replace bO9_0 := BoxAt.ext hb bO9_0; have hs47 := hb.size; clear hb; have lt48 := bO45_0.lt
   refine ⟨bO9_0.1, ?_⟩
   have hPT49 : PcsAt X46 a kk (ps.take kk) := (hP.take (by omega)).ext hX17
   refine wS 4 hR (sn_call (f := 11) (args := #[.int .i64 1, .agg #[.slice (some ⟨B3, 0, none⟩) 24 24], .slice a kk c]) (by kernel_rfl) (((Build_c (id := 1) (l := ps.take kk) _ _ (by omega) (aa_q (hr5v.aa)) (Ext.refl _) hPT49 (Ext.refl _) (hT.ext hE)).mono fun _ _ h => h.eq (Prod.build_ok (by omega) hva (Prod.good_take hgl kk) (by rw [List.length_take, hl]; omega)) rfl rfl).mono ?_))
   rintro e w64 ⟨a50, n51, k52, a53, n54, c55, rfl, hA56, hfr57, hP58, hnc59, hpl60, hb⟩
   replace hE := hE.trans hb; replace hX17 := hX17.trans hb; replace hr5v := hr5v.ext hb; replace bO9_0 := BoxAt.ext hb bO9_0; replace bO45_0 := BoxAt.ext hb bO45_0; replace bO45_1 := BoxAt.ext hb bO45_1; replace bO45_2 := BoxAt.ext hb bO45_2; replace bO45_3 := BoxAt.ext hb bO45_3; have hs65 := hb.size; clear hb
   obtain ⟨b61, o62, rfl, rfl, hV63⟩ := va_of hA56 (hva)
   have hfr57l := hfr57 _ rfl
   have lt66 := hV63.lt
   have hP58n : PcsS (fun k => X46.heap.size ≤ k ∧ k < w64.heap.size) w64 a53 n54 (Prod.divide ar (ps.take kk)) := PcsS.both hP58
   refine ⟨_, rfl, bO9_0.1, ?_⟩
   refine wT 5 (.tuple #[.agg #[.int .i64 1, .int .i64 1, .slice (some ⟨b61, o62, none⟩) 24 k52, .slice a53 n54 c55], .int .i64 0]) hR (fun w _ => by kernel_rfl) (bO9_0.1) ?_
   refine wT 6 (.agg #[.int .i64 1, .int .i64 1, .slice (some ⟨b61, o62, none⟩) 24 k52, .slice a53 n54 c55]) hR (fun w _ => by kernel_rfl) (bO9_0.1) ?_
   refine wT 7 (.int .i64 0) hR (fun w _ => by kernel_rfl) (bO9_0.1) ?_
   refine wS 9 hR (sn_setK4 (O := O45) (j := 0) (v0 := .int .i64 1) (v1 := .int .i64 1) (v2 := .slice (some ⟨b61, o62, none⟩) 24 k52) (v3 := .slice a53 n54 c55) (ex_store (p := .pointer (some ⟨O45, 0, none⟩)) (v := .agg #[.int .i64 1, .int .i64 1, .slice (some ⟨b61, o62, none⟩) 24 k52, .slice a53 n54 c55]) rfl (by kernel_rfl) (by kernel_rfl) (st31 bO45_0.1 bO45_0.2 bO45_1.1 bO45_1.2 bO45_2.1 bO45_2.2 bO45_3.1 bO45_3.2)) bO45_0 bO45_1 bO45_2 bO45_3 ?_)
   intro X67 ho hv0 hv1 hv2 hv3 hk; replace hE := ho.ext hE (T (T hs2 (T hs7 (T hs11 (T hs14 (T hs16 hs19))))) (Nat.le_of_eq hzO45)); replace hX17 := ho.ext hX17 (T hs19 (Nat.le_of_eq hzO45)); replace hr5v := ho.va (Nat.ne_of_gt (Nat.lt_of_lt_of_le lt8 (T (T hs11 (T hs14 (T hs16 hs19))) (Nat.le_of_eq hzO45)))) hr5v; replace bO9_0 := ho.box (Nat.ne_of_gt (Nat.lt_of_lt_of_le lt12 (T (T hs14 (T hs16 hs19)) (Nat.le_of_eq hzO45)))) bO9_0; replace hV63 := ho.va (Nat.ne_of_lt (Nat.lt_of_lt_of_le lt48 hfr57l)) hV63; replace hP58n := hP58n.turn ho (fun h => absurd h.1 (Nat.not_le_of_lt (Nat.lt_of_lt_of_le lt48 (Nat.le_refl _)))); have hs68 : w64.heap.size ≤ X67.heap.size := Nat.le_of_eq ho.size.symm; clear ho hk bO45_0 bO45_1 bO45_2 bO45_3; have bO45_0 := hv0; clear hv0; have bO45_1 := hv1; clear hv1; have bO45_2 := hv2; clear hv2; have bO45_3 := hv3; clear hv3
   refine ⟨bO9_0.1, ?_⟩
   refine wT 10 (.int .i64 0) hR (fun w _ => by kernel_rfl) (bO9_0.1) ?_
   refine wd_end hL hR hK (by kernel_rfl) ?_
   have hPa69 : PcsS (fun k => k ≠ O45) X67 a53 n54 (Prod.divide ar (ps.take kk)) := PcsS.mono hP58n (fun k hk e => (fun h => absurd h.1 (Nat.not_le_of_lt (Nat.lt_of_lt_of_le lt48 (Nat.le_refl _)))) (e ▸ hk))
   exact qw_leaf hJ [3, 9, 10, 11, 12, 13] (ws' := [(3, .int .i64 i3), (9, .pointer (some ⟨O9, 0, none⟩)), (10, .slice a k c), (11, .int .i64 (((kk : Nat) : Int) : Int)), (12, .pointer (some ⟨O45, 0, none⟩)), (13, .int .i64 0)]) (by kernel_rfl) ⟨b61, o62, k52, a53, n54, c55, O45, rfl, hE, hX17, hr5v, bO9_0, hnc59, hpl60, hV63, hPa69, bO45_0, bO45_1, bO45_2, bO45_3, (T hs19 (T hs47 (T hs65 hs68))), (T (T hs19 hs47) hfr57l), (T hs19 (Nat.le_of_eq hzO45)), Lib.hid (Nat.ne_of_gt (Nat.lt_of_lt_of_le lt48 hfr57l))⟩
 ·
  clear hr5v bO9_0 hE hX17
  rintro L ws Y70 ⟨b32, o33, k23, a24, n25, c26, O38, rfl, hE, hX17, hr5v, bO9_0, hnc30, hpl31, hV34, hPa44, bO38_0, bO38_1, bO38_2, bO38_3, hn71, hn72, hn73, hn74⟩
  have lt75 := hV34.lt; have lt76 := bO38_0.lt; refine qw_then ?_; refine cw_seq ?_
  have hPn77 : PcsS (fun k => k ≠ O38 ∧ k < Y70.heap.size) Y70 a24 n25 (Prod.divide ar (ps.take kk)) := PcsS.nowS hPa44
  refine cw_plain ?_
  refine pU (.agg #[.slice (some ⟨B3, 0, none⟩) 24 24]) (ex_load rfl (by kernel_rfl) (ld26 (bO9_0.1))) ?_
  refine pT (.slice a k c) ?_
  refine pS (sn_call (f := 11) (args := #[.int .i64 1, .agg #[.slice (some ⟨B3, 0, none⟩) 24 24], .slice a k c]) (by kernel_rfl) (((Build_c (id := 1) (l := ps) _ _ (by omega) (aa_q (hr5v.aa)) (Ext.refl _) hP hX17 (hT.ext hE)).mono fun _ _ h => h.eq (Prod.build_ok (by omega) hva (hgl) (by rw [hl]; omega)) rfl rfl).mono ?_))
  rintro e w92 ⟨a78, n79, k80, a81, n82, c83, rfl, hA84, hfr85, hP86, hnc87, hpl88, hb⟩
  replace hE := hE.trans hb; replace hX17 := hX17.trans hb; replace hr5v := hr5v.ext hb; replace bO9_0 := BoxAt.ext hb bO9_0; replace hV34 := hV34.ext hb; replace hPn77 := hPn77.ext hb; replace bO38_0 := BoxAt.ext hb bO38_0; replace bO38_1 := BoxAt.ext hb bO38_1; replace bO38_2 := BoxAt.ext hb bO38_2; replace bO38_3 := BoxAt.ext hb bO38_3; have hs93 := hb.size; clear hb
  obtain ⟨b89, o90, rfl, rfl, hV91⟩ := va_of hA84 (hva)
  have hfr85l := hfr85 _ rfl
  have lt94 := hV91.lt
  have hP86n : PcsS (fun k => Y70.heap.size ≤ k ∧ k < w92.heap.size) w92 a81 n82 (Prod.divide ar ps) := PcsS.both hP86
  refine ⟨_, rfl, ?_⟩
  refine pT (.tuple #[.agg #[.int .i64 1, .int .i64 1, .slice (some ⟨b89, o90, none⟩) 24 k80, .slice a81 n82 c83], .int .i64 0]) ?_; refine pT (.agg #[.int .i64 1, .int .i64 1, .slice (some ⟨b89, o90, none⟩) 24 k80, .slice a81 n82 c83]) ?_; refine pT (.int .i64 0) ?_
  refine pS (sn_new (us := #[.int .i64 0, .int .i64 0, .slice none 0 0, .slice none 0 0]) (t := 31) (by kernel_rfl) ?_)
  intro O95 X96 hzO95 hyO95 hb hbx; have ⟨bO95_0, bO95_1, bO95_2, bO95_3⟩ := bx4 hbx; clear hbx
  replace hE := hE.trans hb; replace hX17 := hX17.trans hb; replace hr5v := hr5v.ext hb; replace bO9_0 := BoxAt.ext hb bO9_0; replace hV34 := hV34.ext hb; replace hPn77 := hPn77.ext hb; replace bO38_0 := BoxAt.ext hb bO38_0; replace bO38_1 := BoxAt.ext hb bO38_1; replace bO38_2 := BoxAt.ext hb bO38_2; replace bO38_3 := BoxAt.ext hb bO38_3; replace hV91 := hV91.ext hb; replace hP86n := hP86n.ext hb; have hs97 := hb.size; clear hb; have lt98 := bO95_0.lt
  refine pP (sn_setK4 (O := O95) (j := 0) (v0 := .int .i64 1) (v1 := .int .i64 1) (v2 := .slice (some ⟨b89, o90, none⟩) 24 k80) (v3 := .slice a81 n82 c83) (ex_store (p := .pointer (some ⟨O95, 0, none⟩)) (v := .agg #[.int .i64 1, .int .i64 1, .slice (some ⟨b89, o90, none⟩) 24 k80, .slice a81 n82 c83]) rfl (by kernel_rfl) (by kernel_rfl) (st31 bO95_0.1 bO95_0.2 bO95_1.1 bO95_1.2 bO95_2.1 bO95_2.2 bO95_3.1 bO95_3.2)) bO95_0 bO95_1 bO95_2 bO95_3 ?_)
  intro X99 ho hv0 hv1 hv2 hv3 hk; replace hE := ho.ext hE (T (T hs2 (T hs7 (T hs11 (T hs14 (T hs16 (T hn71 hs93)))))) (Nat.le_of_eq hzO95)); replace hX17 := ho.ext hX17 (T (T hn71 hs93) (Nat.le_of_eq hzO95)); replace hr5v := ho.va (Nat.ne_of_gt (Nat.lt_of_lt_of_le lt8 (T (T hs11 (T hs14 (T hs16 (T hn71 hs93)))) (Nat.le_of_eq hzO95)))) hr5v; replace bO9_0 := ho.box (Nat.ne_of_gt (Nat.lt_of_lt_of_le lt12 (T (T hs14 (T hs16 (T hn71 hs93))) (Nat.le_of_eq hzO95)))) bO9_0; replace hV34 := ho.va (Nat.ne_of_gt (Nat.lt_of_lt_of_le lt75 (T hs93 (Nat.le_of_eq hzO95)))) hV34; replace hPn77 := hPn77.turn ho (fun h => absurd h.2 (Nat.not_lt_of_le (T hs93 (Nat.le_of_eq hzO95))))
  have q9 := fun (j : Nat) (v : Value) (h : BoxAt _ O38 j v) => ho.box (Nat.ne_of_gt (Nat.lt_of_lt_of_le lt76 (T hs93 (Nat.le_of_eq hzO95)))) h
  replace bO38_0 := q9 _ _ bO38_0; replace bO38_1 := q9 _ _ bO38_1; replace bO38_2 := q9 _ _ bO38_2; replace bO38_3 := q9 _ _ bO38_3; clear q9; replace hV91 := ho.va (Nat.ne_of_gt (Nat.lt_of_lt_of_le lt94 (Nat.le_of_eq hzO95))) hV91; replace hP86n := hP86n.turn ho (fun h => absurd h.2 (Nat.not_lt_of_le (Nat.le_of_eq hzO95))); have hs100 : X96.heap.size ≤ X99.heap.size := Nat.le_of_eq ho.size.symm; clear ho hk bO95_0 bO95_1 bO95_2 bO95_3; have bO95_0 := hv0; clear hv0; have bO95_1 := hv1; clear hv1; have bO95_2 := hv2; clear hv2; have bO95_3 := hv3; clear hv3; refine pT (.int .i64 0) ?_; refine pl_nil ?_; refine qw_then ?_; refine cw_seq ?_; refine cw_seq ?_; refine cw_plain ?_; refine pT (.int .i64 0) ?_; refine pT (.bool false) ?_; refine pT (.bool false) ?_; refine pT (.int .i64 0) ?_; refine pT (.bool false) ?_; refine pT (.bool false) ?_; refine pl_nil ?_; refine qw_then ?_; refine cC6 3 10 11 12 14 51 (fun L => ?_)
  refine cw_f (by kernel_rfl) ?_
  refine cw_skip ?_
  refine qw_then ?_; refine cw_seq ?_; refine cw_plain ?_; refine pT (.slice a k c) ?_; refine pT (.int .i64 (((kk : Nat) : Int) : Int)) ?_
  obtain ⟨ar9, har9⟩ : ∃ ar9, ar9 = if c = kk then a else a.map (fun x => x.add (kk * 4)) := ⟨_, rfl⟩
  obtain ⟨m9, hm9⟩ : ∃ m9, m9 = k - kk := ⟨_, rfl⟩
  have hPr : PcsAt w15 ar9 m9 (ps.drop kk) := by rw [har9, hm9]; exact hP.drop (by omega) (by omega)
  refine pU (.slice ar9 m9 (c - kk)) (ev_val (ex_slice (p := .slice a k c) rfl (by kernel_rfl) (by kernel_rfl) (by kernel_rfl) (by kernel_rfl) (sl28_100b (k := kk) (by omega) (by omega))) (by rw [har9, hm9])) ?_
  refine pT (.slice ar9 m9 (c - kk)) ?_; refine pl_nil ?_; refine qw_then ?_; refine cw_seq ?_; refine cw_plain ?_; refine pT (.int .i64 i3) ?_; refine pT (.slice ar9 m9 (c - kk)) ?_; refine pT (.int .i64 (((m9 : Nat) : Int) : Int)) ?_
  refine pU (.int .i64 (((m9 + 1 : Nat) : Int) : Int)) (ev_wrap (by kernel_rfl) (by omega) (by omega)) ?_
  refine pS (sn_call (f := 19) (args := #[.int .i64 i3, .int .i64 (((m9 + 1 : Nat) : Int) : Int)]) (by kernel_rfl) ((pick31N_c _ (m9 + 1) _ hi3 (by omega) (by omega)).mono ?_))
  rintro e w' ⟨mm, rfl, hml, hmp, rfl⟩
  refine ⟨_, rfl, ?_⟩
  refine pT (.int .i64 (((mm : Nat) : Int) : Int)) ?_; refine pl_nil ?_; refine qw_then ?_; refine cC4 12 14 16 17 (fun L => ?_); refine cw_seq ?_; refine cw_seq ?_
  have hPa101 : PcsS (fun k => k ≠ O38) X99 a81 n82 (Prod.divide ar ps) := PcsS.mono hP86n (fun k hk e => (fun h => absurd h.1 (Nat.not_le_of_lt (Nat.lt_of_lt_of_le lt76 (Nat.le_refl _)))) (e ▸ hk))
  have hgT := Prod.good_perm (Prod.oneT_perm ps kk mm) hgl
  have hlT : (Prod.oneT ps kk mm).length = k := by rw [← (Prod.oneT_perm ps kk mm).length_eq]; exact hl
  have hld : (ps.drop kk).length = m9 := by rw [List.length_drop, hl, hm9]
  have hver : (1 : Int) ≤ 1 := Int.le_refl 1
  refine cw_plain ?_; refine pT (.int .i64 0) ?_; refine pl_nil ?_; refine qw_then ?_
  refine cw_block ?_
  refine cw_loop [12, 14, 16, 17, 18] (fun ws' wr m => ∃ i : Nat, ∃ ver : Int, ∃ bA : Nat, ∃ oA : Nat, ∃ kA : Nat, ∃ aP : Option Addr, ∃ nP : Nat, ∃ cP : Nat, ws' = [(12, .pointer (some ⟨O38, 0, none⟩)), (14, .pointer (some ⟨O95, 0, none⟩)), (16, .slice ar9 m9 (c - kk)), (17, .int .i64 (((mm : Nat) : Int) : Int)), (18, .int .i64 (((i : Nat) : Int) : Int))] ∧ m = m9 - i ∧ X99.heap.size ≤ wr.heap.size ∧ Ext w wr ∧ Ext w15 wr ∧ VA wr B3 0 ar ∧ BoxAt wr O9 0 (.slice (some ⟨B3, 0, none⟩) 24 24) ∧ VA wr b89 o90 ar ∧ BoxAt wr O95 0 (.int .i64 1) ∧ BoxAt wr O95 1 (.int .i64 1) ∧ BoxAt wr O95 2 (.slice (some ⟨b89, o90, none⟩) 24 k80) ∧ BoxAt wr O95 3 (.slice a81 n82 c83) ∧ BoxAt wr O38 0 (.int .i64 1) ∧ BoxAt wr O38 1 (.int .i64 ver) ∧ BoxAt wr O38 2 (.slice (some ⟨bA, oA, none⟩) 24 kA) ∧ BoxAt wr O38 3 (.slice aP nP cP) ∧ VA wr bA oA ar ∧ PcsS (fun k => k ≠ O38) wr aP nP (Prod.divide ar ((Prod.oneT ps kk mm).take (kk + i))) ∧ PcsS (fun k => k ≠ O38) wr a81 n82 (Prod.divide ar ps) ∧ i ≤ m9 ∧ 1 ≤ ver ∧ ver ≤ 1 + (i : Int) ∧ Pl aP ∧ nP ≤ cP ∧ Hid (O38 ≠ bA)) (ws0 := [(12, .pointer (some ⟨O38, 0, none⟩)), (14, .pointer (some ⟨O95, 0, none⟩)), (16, .slice ar9 m9 (c - kk)), (17, .int .i64 (((mm : Nat) : Int) : Int)), (18, .int .i64 0)]) (by kernel_rfl) _ ⟨0, 1, b32, o33, k23, a24, n25, c26, rfl, rfl, Nat.le_refl _, hE, hX17, hr5v, bO9_0, hV91, bO95_0, bO95_1, bO95_2, bO95_3, bO38_0, bO38_1, bO38_2, bO38_3, hV34, (by rw [Prod.oneT_first (by omega)]; exact (PcsS.mono hPn77 (fun _ h => h.1))), (PcsS.mono hPa101 (fun _ h => h)), by omega, by omega, by omega, hpl31, by omega, Lib.hid (Ne.symm hn74.out)⟩ ?_
  clear hr5v bO9_0 hV34 hPn77 bO38_0 bO38_1 bO38_2 bO38_3 hV91 hPa101 bO95_0 bO95_1 bO95_2 bO95_3 hE hX17
  rintro m104 L ws w103 ⟨i, ver, bA, oA, kA, aP, nP, cP, rfl, rfl, hs102, hE, hX17, hr5v, bO9_0, hV91, bO95_0, bO95_1, bO95_2, bO95_3, bx0, bx1, bx2, bx3, vA9, hPs9, hPa9, hi, hv1, hv2, hplP, hncP, hneA⟩
  have lt105 := vA9.lt
  by_cases hlt : i < m9
  ·
   refine cw_seq ?_; refine cw_seq ?_; refine cw_plain ?_; refine pT (.int .i64 (((i : Nat) : Int) : Int)) ?_; refine pT (.slice ar9 m9 (c - kk)) ?_; refine pT (.int .i64 (((m9 : Nat) : Int) : Int)) ?_
   refine pU (.bool true) (ev_dec (show _ = Result.ok (Next.value (Value.bool (decide ((((i : Nat) : Int) : Int) < (((m9 : Nat) : Int) : Int))))) _ from by kernel_rfl) (by omega)) ?_
   refine pl_nil ?_; refine qw_then ?_
   refine cw_t (by kernel_rfl) ?_
   refine cw_skip ?_
   refine qw_then ?_; refine cw_seq ?_
   refine cw_block ?_
   refine cw_seq ?_
   have hPn106 : PcsS (fun k => k ≠ O38 ∧ k < w103.heap.size) w103 aP nP (Prod.divide ar ((Prod.oneT ps kk mm).take (kk + i))) := PcsS.nowS hPs9
   have hPn107 : PcsS (fun k => k ≠ O38 ∧ k < w103.heap.size) w103 a81 n82 (Prod.divide ar ps) := PcsS.nowS hPa9
   obtain ⟨b108, o109, x, ar110, k111, c112, rfl, hx113, hp114, hp115, hp116, hp117, hA118⟩ := hPr.at (Nat.mod_lt _ (by omega))
   have hxT : (Prod.oneT ps kk mm)[kk + i]? = some x := by rw [Prod.oneT_at (by omega) hld (by omega) hlt]; exact hx113
   obtain ⟨v2, hv9⟩ : ∃ v2, Prod.nextVer ver ar (Prod.divide ar ((Prod.oneT ps kk mm).take (kk + i))) x = v2 := ⟨_, rfl⟩
   have hvor := Prod.nextVer_or ver ar (Prod.divide ar ((Prod.oneT ps kk mm).take (kk + i))) x
   rw [hv9] at hvor
   have hmod : (i + mm) % m9 < m9 := Nat.mod_lt _ (by omega)
   refine cw_join (fun ws' Y => ∃ b132 : Nat, ∃ o133 : Nat, ∃ k123 : Nat, ∃ a124 : Option Addr, ∃ n125 : Nat, ∃ c126 : Nat, ∃ O138 : Nat, ws' = [(12, .pointer (some ⟨O38, 0, none⟩)), (14, .pointer (some ⟨O95, 0, none⟩)), (16, .slice (some ⟨b108, o109, none⟩) m9 (c - kk)), (17, .int .i64 (((mm : Nat) : Int) : Int)), (18, .int .i64 (((i : Nat) : Int) : Int)), (19, .pointer (some ⟨O138, 0, none⟩)), (20, .int .i64 0)] ∧ Ext w Y ∧ Ext w15 Y ∧ VA Y B3 0 ar ∧ BoxAt Y O9 0 (.slice (some ⟨B3, 0, none⟩) 24 24) ∧ VA Y b89 o90 ar ∧ BoxAt Y O95 0 (.int .i64 1) ∧ BoxAt Y O95 1 (.int .i64 1) ∧ BoxAt Y O95 2 (.slice (some ⟨b89, o90, none⟩) 24 k80) ∧ BoxAt Y O95 3 (.slice a81 n82 c83) ∧ BoxAt Y O38 0 (.int .i64 1) ∧ BoxAt Y O38 1 (.int .i64 ver) ∧ BoxAt Y O38 2 (.slice (some ⟨bA, oA, none⟩) 24 kA) ∧ BoxAt Y O38 3 (.slice aP nP cP) ∧ VA Y bA oA ar ∧ PcsS (fun k => k ≠ O38 ∧ k < w103.heap.size) Y aP nP (Prod.divide ar ((Prod.oneT ps kk mm).take (kk + i))) ∧ PcsS (fun k => k ≠ O38 ∧ k < w103.heap.size) Y a81 n82 (Prod.divide ar ps) ∧ n125 ≤ c126 ∧ Pl a124 ∧ VA Y b132 o133 ar ∧ PcsS (fun k => k ≠ O38) Y a124 n125 (Prod.divide ar ((Prod.oneT ps kk mm).take (kk + i + 1))) ∧ BoxAt Y O138 0 (.int .i64 1) ∧ BoxAt Y O138 1 (.int .i64 v2) ∧ BoxAt Y O138 2 (.slice (some ⟨b132, o133, none⟩) 24 k123) ∧ BoxAt Y O138 3 (.slice a124 n125 c126) ∧ w103.heap.size ≤ Y.heap.size ∧ w103.heap.size ≤ b132 ∧ w103.heap.size ≤ O138 ∧ Hid (b132 ≠ O138)) (fun hJ => ?_) ?_
   ·
    refine cw_draw [(some 67, [12], []), (some 68, [16], []), (some 69, [18], []), (some 70, [17], []), (some 71, [69, 70], [2, 3]), (some 72, [16], []), (some 73, [72], [5]), (some 74, [71, 73], [4, 6]), (some 75, [68, 74], [1, 7]), (some 76, [75], [8]), (some 77, [67, 76], [0, 9]), (some 66, [77], [10]), (some 78, [66], [11]), (some 79, [66], [11]), (some 19, [], []), (none, [19, 78], [14, 12, 10, 0, 1, 2, 3, 4, 5, 6, 7, 8, 9, 10, 11, 12, 14]), (some 20, [79], [13, 15, 0, 1, 2, 3, 4, 5, 6, 7, 8, 9, 10, 11, 12, 13, 14, 15])] (fun w' => w'.cell? ⟨O38, 0, none⟩ = some (.int .i64 1) ∧ w'.cell? ⟨O38, 1, none⟩ = some (.int .i64 ver) ∧ w'.cell? ⟨O38, 2, none⟩ = some (.slice (some ⟨bA, oA, none⟩) 24 kA) ∧ w'.cell? ⟨O38, 3, none⟩ = some (.slice aP nP cP) ∧ w'.cell? ⟨b108, o109 + ((i + mm) % m9) * 4, none⟩ = some (.int .i64 x.im) ∧ w'.cell? ⟨b108, o109 + ((i + mm) % m9) * 4 + 1, none⟩ = some (.int .i64 x.t) ∧ w'.cell? ⟨b108, o109 + ((i + mm) % m9) * 4 + 2, none⟩ = some (.bool x.cl) ∧ w'.cell? ⟨b108, o109 + ((i + mm) % m9) * 4 + 3, none⟩ = some (.slice ar110 k111 c112)) (by kernel_rfl) (by kernel_rfl) (by kernel_rfl) (by kernel_rfl) ((calm_then (calm_block (calm_then (calm_then (calm_block (calm_then calm_body))))))) (⟨bx0.1, bx1.1, bx2.1, bx3.1, (hX17.cell hp114), (hX17.cell hp115), (hX17.cell hp116), (hX17.cell hp117)⟩) (fun ops Q X119 hb hL hR hK => ?_)
    replace hE := hE.trans hb; replace hX17 := hX17.trans hb; replace hr5v := hr5v.ext hb; replace bO9_0 := BoxAt.ext hb bO9_0; replace hV91 := hV91.ext hb; replace bO95_0 := BoxAt.ext hb bO95_0; replace bO95_1 := BoxAt.ext hb bO95_1; replace bO95_2 := BoxAt.ext hb bO95_2; replace bO95_3 := BoxAt.ext hb bO95_3; replace bx0 := BoxAt.ext hb bx0; replace bx1 := BoxAt.ext hb bx1; replace bx2 := BoxAt.ext hb bx2; replace bx3 := BoxAt.ext hb bx3; replace vA9 := vA9.ext hb; replace hPn106 := hPn106.ext hb; replace hPn107 := hPn107.ext hb; have hs120 := hb.size; clear hb
    refine wT 0 (.agg #[.int .i64 1, .int .i64 ver, .slice (some ⟨bA, oA, none⟩) 24 kA, .slice aP nP cP]) hR (fun w hS => ex_load rfl (by kernel_rfl) (ld31 (hS.1) (hS.2.1) (hS.2.2.1) (hS.2.2.2.1))) (⟨bx0.1, bx1.1, bx2.1, bx3.1, (hX17.cell hp114), (hX17.cell hp115), (hX17.cell hp116), (hX17.cell hp117)⟩) ?_
    refine wT 1 (.slice (some ⟨b108, o109, none⟩) m9 (c - kk)) hR (fun w _ => by kernel_rfl) (⟨bx0.1, bx1.1, bx2.1, bx3.1, (hX17.cell hp114), (hX17.cell hp115), (hX17.cell hp116), (hX17.cell hp117)⟩) ?_
    refine wT 2 (.int .i64 (((i : Nat) : Int) : Int)) hR (fun w _ => by kernel_rfl) (⟨bx0.1, bx1.1, bx2.1, bx3.1, (hX17.cell hp114), (hX17.cell hp115), (hX17.cell hp116), (hX17.cell hp117)⟩) ?_
    refine wT 3 (.int .i64 (((mm : Nat) : Int) : Int)) hR (fun w _ => by kernel_rfl) (⟨bx0.1, bx1.1, bx2.1, bx3.1, (hX17.cell hp114), (hX17.cell hp115), (hX17.cell hp116), (hX17.cell hp117)⟩) ?_
    refine wT 4 (.int .i64 (((i + mm : Nat) : Int) : Int)) hR (fun w _ => ev_wrap (by kernel_rfl) (by omega) (by omega)) (⟨bx0.1, bx1.1, bx2.1, bx3.1, (hX17.cell hp114), (hX17.cell hp115), (hX17.cell hp116), (hX17.cell hp117)⟩) ?_
    refine wT 5 (.slice (some ⟨b108, o109, none⟩) m9 (c - kk)) hR (fun w _ => by kernel_rfl) (⟨bx0.1, bx1.1, bx2.1, bx3.1, (hX17.cell hp114), (hX17.cell hp115), (hX17.cell hp116), (hX17.cell hp117)⟩) ?_
    refine wT 6 (.int .i64 (((m9 : Nat) : Int) : Int)) hR (fun w _ => by kernel_rfl) (⟨bx0.1, bx1.1, bx2.1, bx3.1, (hX17.cell hp114), (hX17.cell hp115), (hX17.cell hp116), (hX17.cell hp117)⟩) ?_
    refine wT 7 (.int .i64 ((((i + mm) % m9 : Nat) : Int) : Int)) hR (fun w _ => ex_bin (a := ((i + mm : Nat) : Int)) (b := ((m9 : Nat) : Int)) rfl (by kernel_rfl) (by kernel_rfl) (bin_rem (by omega))) (⟨bx0.1, bx1.1, bx2.1, bx3.1, (hX17.cell hp114), (hX17.cell hp115), (hX17.cell hp116), (hX17.cell hp117)⟩) ?_
    refine wT 8 (.pointer (some ⟨b108, o109 + ((i + mm) % m9) * 4, none⟩)) hR (fun w _ => ex_index (p := .slice (some ⟨b108, o109, none⟩) m9 (c - kk)) (i := .int .i64 (((i + mm) % m9 : Nat) : Int)) rfl (by kernel_rfl) (by kernel_rfl) (ix28 (k := (i + mm) % m9) (by omega))) (⟨bx0.1, bx1.1, bx2.1, bx3.1, (hX17.cell hp114), (hX17.cell hp115), (hX17.cell hp116), (hX17.cell hp117)⟩) ?_
    refine wT 9 (.agg #[.int .i64 x.im, .int .i64 x.t, .bool x.cl, .slice ar110 k111 c112]) hR (fun w hS => ex_load rfl (by kernel_rfl) (ld41 (hS.2.2.2.2.1) (hS.2.2.2.2.2.1) (hS.2.2.2.2.2.2.1) (hS.2.2.2.2.2.2.2))) (⟨bx0.1, bx1.1, bx2.1, bx3.1, (hX17.cell hp114), (hX17.cell hp115), (hX17.cell hp116), (hX17.cell hp117)⟩) ?_
    refine wd_two 10 14 hR rfl rfl (by kernel_rfl) (by kernel_rfl) (by kernel_rfl) (by kernel_rfl) ?_ ?_
    ·
     refine sn_call (f := 21) (args := #[.agg #[.int .i64 1, .int .i64 ver, .slice (some ⟨bA, oA, none⟩) 24 kA, .slice aP nP cP], .agg #[.int .i64 x.im, .int .i64 x.t, .bool x.cl, .slice ar110 k111 c112]]) (by kernel_rfl) (((Next_c (id := 1) (ver := ver) (x := x) _ _ (by omega) (aa_q (vA9.aa)) (Ext.refl _) (hPn106.pcs) (Ext.refl _) (hT.ext hE) hplP (aa_q (hA118)) hX17).mono fun _ _ h => h.eq (Prod.next_ok (by omega) (by omega) hva hgT (by omega) hxT) hv9 (Prod.divide_step hva hgT hxT)).mono ?_)
     rintro e w135 ⟨a121, n122, k123, a124, n125, c126, rfl, hA127, hfr128, hP129, hnc130, hpl131, hb⟩
     replace hE := hE.trans hb; replace hX17 := hX17.trans hb; replace hr5v := hr5v.ext hb; replace bO9_0 := BoxAt.ext hb bO9_0; replace hV91 := hV91.ext hb; replace bO95_0 := BoxAt.ext hb bO95_0; replace bO95_1 := BoxAt.ext hb bO95_1; replace bO95_2 := BoxAt.ext hb bO95_2; replace bO95_3 := BoxAt.ext hb bO95_3; replace bx0 := BoxAt.ext hb bx0; replace bx1 := BoxAt.ext hb bx1; replace bx2 := BoxAt.ext hb bx2; replace bx3 := BoxAt.ext hb bx3; replace vA9 := vA9.ext hb; replace hPn106 := hPn106.ext hb; replace hPn107 := hPn107.ext hb; have hs136 := hb.size; clear hb
     obtain ⟨b132, o133, rfl, rfl, hV134⟩ := va_of hA127 (hva)
     have hfr128l := hfr128 _ rfl
     have lt137 := hV134.lt
     have hP129n : PcsS (fun k => X119.heap.size ≤ k ∧ k < w135.heap.size) w135 a124 n125 (Prod.divide ar ((Prod.oneT ps kk mm).take (kk + i + 1))) := PcsS.both hP129
     refine ⟨_, rfl, ⟨bx0.1, bx1.1, bx2.1, bx3.1, (hX17.cell hp114), (hX17.cell hp115), (hX17.cell hp116), (hX17.cell hp117)⟩, ?_⟩
     refine wT 11 (.tuple #[.agg #[.int .i64 1, .int .i64 v2, .slice (some ⟨b132, o133, none⟩) 24 k123, .slice a124 n125 c126], .int .i64 0]) hR (fun w _ => by kernel_rfl) (⟨bx0.1, bx1.1, bx2.1, bx3.1, (hX17.cell hp114), (hX17.cell hp115), (hX17.cell hp116), (hX17.cell hp117)⟩) ?_
     refine wT 12 (.agg #[.int .i64 1, .int .i64 v2, .slice (some ⟨b132, o133, none⟩) 24 k123, .slice a124 n125 c126]) hR (fun w _ => by kernel_rfl) (⟨bx0.1, bx1.1, bx2.1, bx3.1, (hX17.cell hp114), (hX17.cell hp115), (hX17.cell hp116), (hX17.cell hp117)⟩) ?_
     refine wT 13 (.int .i64 0) hR (fun w _ => by kernel_rfl) (⟨bx0.1, bx1.1, bx2.1, bx3.1, (hX17.cell hp114), (hX17.cell hp115), (hX17.cell hp116), (hX17.cell hp117)⟩) ?_
     refine wS 14 hR (sn_new (us := #[.int .i64 0, .int .i64 0, .slice none 0 0, .slice none 0 0]) (t := 31) (by kernel_rfl) ?_)
     intro O138 X139 hzO138 hyO138 hb hbx; have ⟨bO138_0, bO138_1, bO138_2, bO138_3⟩ := bx4 hbx; clear hbx
     replace hE := hE.trans hb; replace hX17 := hX17.trans hb; replace hr5v := hr5v.ext hb; replace bO9_0 := BoxAt.ext hb bO9_0; replace hV91 := hV91.ext hb; replace bO95_0 := BoxAt.ext hb bO95_0; replace bO95_1 := BoxAt.ext hb bO95_1; replace bO95_2 := BoxAt.ext hb bO95_2; replace bO95_3 := BoxAt.ext hb bO95_3; replace bx0 := BoxAt.ext hb bx0; replace bx1 := BoxAt.ext hb bx1; replace bx2 := BoxAt.ext hb bx2; replace bx3 := BoxAt.ext hb bx3; replace vA9 := vA9.ext hb; replace hPn106 := hPn106.ext hb; replace hPn107 := hPn107.ext hb; replace hV134 := hV134.ext hb; replace hP129n := hP129n.ext hb; have hs140 := hb.size; clear hb; have lt141 := bO138_0.lt
     refine ⟨⟨bx0.1, bx1.1, bx2.1, bx3.1, (hX17.cell hp114), (hX17.cell hp115), (hX17.cell hp116), (hX17.cell hp117)⟩, ?_⟩
     refine wS 15 hR (sn_setK4 (O := O138) (j := 0) (v0 := .int .i64 1) (v1 := .int .i64 v2) (v2 := .slice (some ⟨b132, o133, none⟩) 24 k123) (v3 := .slice a124 n125 c126) (ex_store (p := .pointer (some ⟨O138, 0, none⟩)) (v := .agg #[.int .i64 1, .int .i64 v2, .slice (some ⟨b132, o133, none⟩) 24 k123, .slice a124 n125 c126]) rfl (by kernel_rfl) (by kernel_rfl) (st31 bO138_0.1 bO138_0.2 bO138_1.1 bO138_1.2 bO138_2.1 bO138_2.2 bO138_3.1 bO138_3.2)) bO138_0 bO138_1 bO138_2 bO138_3 ?_)
     intro X142 ho hv0 hv1 hv2 hv3 hk; replace hE := ho.ext hE (T (T hs2 (T hs7 (T hs11 (T hs14 (T hs16 (T hn71 (T hs93 (T hs97 (T hs100 (T hs102 (T hs120 hs136))))))))))) (Nat.le_of_eq hzO138)); replace hX17 := ho.ext hX17 (T (T hn71 (T hs93 (T hs97 (T hs100 (T hs102 (T hs120 hs136)))))) (Nat.le_of_eq hzO138)); replace hr5v := ho.va (Nat.ne_of_gt (Nat.lt_of_lt_of_le lt8 (T (T hs11 (T hs14 (T hs16 (T hn71 (T hs93 (T hs97 (T hs100 (T hs102 (T hs120 hs136))))))))) (Nat.le_of_eq hzO138)))) hr5v; replace bO9_0 := ho.box (Nat.ne_of_gt (Nat.lt_of_lt_of_le lt12 (T (T hs14 (T hs16 (T hn71 (T hs93 (T hs97 (T hs100 (T hs102 (T hs120 hs136)))))))) (Nat.le_of_eq hzO138)))) bO9_0; replace hV91 := ho.va (Nat.ne_of_gt (Nat.lt_of_lt_of_le lt94 (T (T hs97 (T hs100 (T hs102 (T hs120 hs136)))) (Nat.le_of_eq hzO138)))) hV91
     have q9 := fun (j : Nat) (v : Value) (h : BoxAt _ O95 j v) => ho.box (Nat.ne_of_gt (Nat.lt_of_lt_of_le lt98 (T (T hs100 (T hs102 (T hs120 hs136))) (Nat.le_of_eq hzO138)))) h
     replace bO95_0 := q9 _ _ bO95_0; replace bO95_1 := q9 _ _ bO95_1; replace bO95_2 := q9 _ _ bO95_2; replace bO95_3 := q9 _ _ bO95_3; clear q9; replace bx0 := ho.box (Nat.ne_of_gt (Nat.lt_of_lt_of_le lt76 (T (T hs93 (T hs97 (T hs100 (T hs102 (T hs120 hs136))))) (Nat.le_of_eq hzO138)))) bx0; replace bx1 := ho.box (Nat.ne_of_gt (Nat.lt_of_lt_of_le lt76 (T (T hs93 (T hs97 (T hs100 (T hs102 (T hs120 hs136))))) (Nat.le_of_eq hzO138)))) bx1; replace bx2 := ho.box (Nat.ne_of_gt (Nat.lt_of_lt_of_le lt76 (T (T hs93 (T hs97 (T hs100 (T hs102 (T hs120 hs136))))) (Nat.le_of_eq hzO138)))) bx2; replace bx3 := ho.box (Nat.ne_of_gt (Nat.lt_of_lt_of_le lt76 (T (T hs93 (T hs97 (T hs100 (T hs102 (T hs120 hs136))))) (Nat.le_of_eq hzO138)))) bx3; replace vA9 := ho.va (Nat.ne_of_gt (Nat.lt_of_lt_of_le lt105 (T (T hs120 hs136) (Nat.le_of_eq hzO138)))) vA9; replace hPn106 := hPn106.turn ho (fun h => absurd h.2 (Nat.not_lt_of_le (T (T hs120 hs136) (Nat.le_of_eq hzO138)))); replace hPn107 := hPn107.turn ho (fun h => absurd h.2 (Nat.not_lt_of_le (T (T hs120 hs136) (Nat.le_of_eq hzO138)))); replace hV134 := ho.va (Nat.ne_of_gt (Nat.lt_of_lt_of_le lt137 (Nat.le_of_eq hzO138))) hV134; replace hP129n := hP129n.turn ho (fun h => absurd h.2 (Nat.not_lt_of_le (Nat.le_of_eq hzO138))); have hs143 : X139.heap.size ≤ X142.heap.size := Nat.le_of_eq ho.size.symm; clear ho hk bO138_0 bO138_1 bO138_2 bO138_3; have bO138_0 := hv0; clear hv0; have bO138_1 := hv1; clear hv1; have bO138_2 := hv2; clear hv2; have bO138_3 := hv3; clear hv3
     refine ⟨⟨bx0.1, bx1.1, bx2.1, bx3.1, (hX17.cell hp114), (hX17.cell hp115), (hX17.cell hp116), (hX17.cell hp117)⟩, ?_⟩
     refine wT 16 (.int .i64 0) hR (fun w _ => by kernel_rfl) (⟨bx0.1, bx1.1, bx2.1, bx3.1, (hX17.cell hp114), (hX17.cell hp115), (hX17.cell hp116), (hX17.cell hp117)⟩) ?_
     refine wd_end hL hR hK (by kernel_rfl) ?_
     have hPa144 : PcsS (fun k => k ≠ O38) X142 a124 n125 (Prod.divide ar ((Prod.oneT ps kk mm).take (kk + i + 1))) := PcsS.mono hP129n (fun k hk e => (fun h => absurd h.1 (Nat.not_le_of_lt (Nat.lt_of_lt_of_le lt76 (T hs93 (T hs97 (T hs100 (T hs102 hs120))))))) (e ▸ hk))
     exact qw_leaf hJ [12, 14, 16, 17, 18, 19, 20] (ws' := [(12, .pointer (some ⟨O38, 0, none⟩)), (14, .pointer (some ⟨O95, 0, none⟩)), (16, .slice (some ⟨b108, o109, none⟩) m9 (c - kk)), (17, .int .i64 (((mm : Nat) : Int) : Int)), (18, .int .i64 (((i : Nat) : Int) : Int)), (19, .pointer (some ⟨O138, 0, none⟩)), (20, .int .i64 0)]) (by kernel_rfl) ⟨b132, o133, k123, a124, n125, c126, O138, rfl, hE, hX17, hr5v, bO9_0, hV91, bO95_0, bO95_1, bO95_2, bO95_3, bx0, bx1, bx2, bx3, vA9, hPn106, hPn107, hnc130, hpl131, hV134, hPa144, bO138_0, bO138_1, bO138_2, bO138_3, (T hs120 (T hs136 (T hs140 hs143))), (T hs120 hfr128l), (T (T hs120 hs136) (Nat.le_of_eq hzO138)), Lib.hid (Nat.ne_of_lt (Nat.lt_of_lt_of_le lt137 (Nat.le_of_eq hzO138)))⟩
    ·
     refine sn_new (us := #[.int .i64 0, .int .i64 0, .slice none 0 0, .slice none 0 0]) (t := 31) (by kernel_rfl) ?_
     intro O145 X146 hzO145 hyO145 hb hbx; have ⟨bO145_0, bO145_1, bO145_2, bO145_3⟩ := bx4 hbx; clear hbx
     replace hE := hE.trans hb; replace hX17 := hX17.trans hb; replace hr5v := hr5v.ext hb; replace bO9_0 := BoxAt.ext hb bO9_0; replace hV91 := hV91.ext hb; replace bO95_0 := BoxAt.ext hb bO95_0; replace bO95_1 := BoxAt.ext hb bO95_1; replace bO95_2 := BoxAt.ext hb bO95_2; replace bO95_3 := BoxAt.ext hb bO95_3; replace bx0 := BoxAt.ext hb bx0; replace bx1 := BoxAt.ext hb bx1; replace bx2 := BoxAt.ext hb bx2; replace bx3 := BoxAt.ext hb bx3; replace vA9 := vA9.ext hb; replace hPn106 := hPn106.ext hb; replace hPn107 := hPn107.ext hb; have hs147 := hb.size; clear hb; have lt148 := bO145_0.lt
     refine ⟨⟨bx0.1, bx1.1, bx2.1, bx3.1, (hX17.cell hp114), (hX17.cell hp115), (hX17.cell hp116), (hX17.cell hp117)⟩, ?_⟩
     refine wS 10 hR (sn_call (f := 21) (args := #[.agg #[.int .i64 1, .int .i64 ver, .slice (some ⟨bA, oA, none⟩) 24 kA, .slice aP nP cP], .agg #[.int .i64 x.im, .int .i64 x.t, .bool x.cl, .slice ar110 k111 c112]]) (by kernel_rfl) (((Next_c (id := 1) (ver := ver) (x := x) _ _ (by omega) (aa_q (vA9.aa)) (Ext.refl _) (hPn106.pcs) (Ext.refl _) (hT.ext hE) hplP (aa_q (hA118)) hX17).mono fun _ _ h => h.eq (Prod.next_ok (by omega) (by omega) hva hgT (by omega) hxT) hv9 (Prod.divide_step hva hgT hxT)).mono ?_))
     rintro e w163 ⟨a149, n150, k151, a152, n153, c154, rfl, hA155, hfr156, hP157, hnc158, hpl159, hb⟩
     replace hE := hE.trans hb; replace hX17 := hX17.trans hb; replace hr5v := hr5v.ext hb; replace bO9_0 := BoxAt.ext hb bO9_0; replace hV91 := hV91.ext hb; replace bO95_0 := BoxAt.ext hb bO95_0; replace bO95_1 := BoxAt.ext hb bO95_1; replace bO95_2 := BoxAt.ext hb bO95_2; replace bO95_3 := BoxAt.ext hb bO95_3; replace bx0 := BoxAt.ext hb bx0; replace bx1 := BoxAt.ext hb bx1; replace bx2 := BoxAt.ext hb bx2; replace bx3 := BoxAt.ext hb bx3; replace vA9 := vA9.ext hb; replace hPn106 := hPn106.ext hb; replace hPn107 := hPn107.ext hb; replace bO145_0 := BoxAt.ext hb bO145_0; replace bO145_1 := BoxAt.ext hb bO145_1; replace bO145_2 := BoxAt.ext hb bO145_2; replace bO145_3 := BoxAt.ext hb bO145_3; have hs164 := hb.size; clear hb
     obtain ⟨b160, o161, rfl, rfl, hV162⟩ := va_of hA155 (hva)
     have hfr156l := hfr156 _ rfl
     have lt165 := hV162.lt
     have hP157n : PcsS (fun k => X146.heap.size ≤ k ∧ k < w163.heap.size) w163 a152 n153 (Prod.divide ar ((Prod.oneT ps kk mm).take (kk + i + 1))) := PcsS.both hP157
     refine ⟨_, rfl, ⟨bx0.1, bx1.1, bx2.1, bx3.1, (hX17.cell hp114), (hX17.cell hp115), (hX17.cell hp116), (hX17.cell hp117)⟩, ?_⟩
     refine wT 11 (.tuple #[.agg #[.int .i64 1, .int .i64 v2, .slice (some ⟨b160, o161, none⟩) 24 k151, .slice a152 n153 c154], .int .i64 0]) hR (fun w _ => by kernel_rfl) (⟨bx0.1, bx1.1, bx2.1, bx3.1, (hX17.cell hp114), (hX17.cell hp115), (hX17.cell hp116), (hX17.cell hp117)⟩) ?_
     refine wT 12 (.agg #[.int .i64 1, .int .i64 v2, .slice (some ⟨b160, o161, none⟩) 24 k151, .slice a152 n153 c154]) hR (fun w _ => by kernel_rfl) (⟨bx0.1, bx1.1, bx2.1, bx3.1, (hX17.cell hp114), (hX17.cell hp115), (hX17.cell hp116), (hX17.cell hp117)⟩) ?_
     refine wT 13 (.int .i64 0) hR (fun w _ => by kernel_rfl) (⟨bx0.1, bx1.1, bx2.1, bx3.1, (hX17.cell hp114), (hX17.cell hp115), (hX17.cell hp116), (hX17.cell hp117)⟩) ?_
     refine wS 15 hR (sn_setK4 (O := O145) (j := 0) (v0 := .int .i64 1) (v1 := .int .i64 v2) (v2 := .slice (some ⟨b160, o161, none⟩) 24 k151) (v3 := .slice a152 n153 c154) (ex_store (p := .pointer (some ⟨O145, 0, none⟩)) (v := .agg #[.int .i64 1, .int .i64 v2, .slice (some ⟨b160, o161, none⟩) 24 k151, .slice a152 n153 c154]) rfl (by kernel_rfl) (by kernel_rfl) (st31 bO145_0.1 bO145_0.2 bO145_1.1 bO145_1.2 bO145_2.1 bO145_2.2 bO145_3.1 bO145_3.2)) bO145_0 bO145_1 bO145_2 bO145_3 ?_)
     intro X166 ho hv0 hv1 hv2 hv3 hk; replace hE := ho.ext hE (T (T hs2 (T hs7 (T hs11 (T hs14 (T hs16 (T hn71 (T hs93 (T hs97 (T hs100 (T hs102 hs120)))))))))) (Nat.le_of_eq hzO145)); replace hX17 := ho.ext hX17 (T (T hn71 (T hs93 (T hs97 (T hs100 (T hs102 hs120))))) (Nat.le_of_eq hzO145)); replace hr5v := ho.va (Nat.ne_of_gt (Nat.lt_of_lt_of_le lt8 (T (T hs11 (T hs14 (T hs16 (T hn71 (T hs93 (T hs97 (T hs100 (T hs102 hs120)))))))) (Nat.le_of_eq hzO145)))) hr5v; replace bO9_0 := ho.box (Nat.ne_of_gt (Nat.lt_of_lt_of_le lt12 (T (T hs14 (T hs16 (T hn71 (T hs93 (T hs97 (T hs100 (T hs102 hs120))))))) (Nat.le_of_eq hzO145)))) bO9_0; replace hV91 := ho.va (Nat.ne_of_gt (Nat.lt_of_lt_of_le lt94 (T (T hs97 (T hs100 (T hs102 hs120))) (Nat.le_of_eq hzO145)))) hV91
     have q9 := fun (j : Nat) (v : Value) (h : BoxAt _ O95 j v) => ho.box (Nat.ne_of_gt (Nat.lt_of_lt_of_le lt98 (T (T hs100 (T hs102 hs120)) (Nat.le_of_eq hzO145)))) h
     replace bO95_0 := q9 _ _ bO95_0; replace bO95_1 := q9 _ _ bO95_1; replace bO95_2 := q9 _ _ bO95_2; replace bO95_3 := q9 _ _ bO95_3; clear q9; replace bx0 := ho.box (Nat.ne_of_gt (Nat.lt_of_lt_of_le lt76 (T (T hs93 (T hs97 (T hs100 (T hs102 hs120)))) (Nat.le_of_eq hzO145)))) bx0; replace bx1 := ho.box (Nat.ne_of_gt (Nat.lt_of_lt_of_le lt76 (T (T hs93 (T hs97 (T hs100 (T hs102 hs120)))) (Nat.le_of_eq hzO145)))) bx1; replace bx2 := ho.box (Nat.ne_of_gt (Nat.lt_of_lt_of_le lt76 (T (T hs93 (T hs97 (T hs100 (T hs102 hs120)))) (Nat.le_of_eq hzO145)))) bx2; replace bx3 := ho.box (Nat.ne_of_gt (Nat.lt_of_lt_of_le lt76 (T (T hs93 (T hs97 (T hs100 (T hs102 hs120)))) (Nat.le_of_eq hzO145)))) bx3; replace vA9 := ho.va (Nat.ne_of_gt (Nat.lt_of_lt_of_le lt105 (T hs120 (Nat.le_of_eq hzO145)))) vA9; replace hPn106 := hPn106.turn ho (fun h => absurd h.2 (Nat.not_lt_of_le (T hs120 (Nat.le_of_eq hzO145)))); replace hPn107 := hPn107.turn ho (fun h => absurd h.2 (Nat.not_lt_of_le (T hs120 (Nat.le_of_eq hzO145)))); replace hV162 := ho.va (Nat.ne_of_lt (Nat.lt_of_lt_of_le lt148 hfr156l)) hV162; replace hP157n := hP157n.turn ho (fun h => absurd h.1 (Nat.not_le_of_lt (Nat.lt_of_lt_of_le lt148 (Nat.le_refl _)))); have hs167 : w163.heap.size ≤ X166.heap.size := Nat.le_of_eq ho.size.symm; clear ho hk bO145_0 bO145_1 bO145_2 bO145_3; have bO145_0 := hv0; clear hv0; have bO145_1 := hv1; clear hv1; have bO145_2 := hv2; clear hv2; have bO145_3 := hv3; clear hv3
     refine ⟨⟨bx0.1, bx1.1, bx2.1, bx3.1, (hX17.cell hp114), (hX17.cell hp115), (hX17.cell hp116), (hX17.cell hp117)⟩, ?_⟩
     refine wT 16 (.int .i64 0) hR (fun w _ => by kernel_rfl) (⟨bx0.1, bx1.1, bx2.1, bx3.1, (hX17.cell hp114), (hX17.cell hp115), (hX17.cell hp116), (hX17.cell hp117)⟩) ?_
     refine wd_end hL hR hK (by kernel_rfl) ?_
     have hPa168 : PcsS (fun k => k ≠ O38) X166 a152 n153 (Prod.divide ar ((Prod.oneT ps kk mm).take (kk + i + 1))) := PcsS.mono hP157n (fun k hk e => (fun h => absurd h.1 (Nat.not_le_of_lt (Nat.lt_of_lt_of_le lt76 (T hs93 (T hs97 (T hs100 (T hs102 (T hs120 hs147)))))))) (e ▸ hk))
     exact qw_leaf hJ [12, 14, 16, 17, 18, 19, 20] (ws' := [(12, .pointer (some ⟨O38, 0, none⟩)), (14, .pointer (some ⟨O95, 0, none⟩)), (16, .slice (some ⟨b108, o109, none⟩) m9 (c - kk)), (17, .int .i64 (((mm : Nat) : Int) : Int)), (18, .int .i64 (((i : Nat) : Int) : Int)), (19, .pointer (some ⟨O145, 0, none⟩)), (20, .int .i64 0)]) (by kernel_rfl) ⟨b160, o161, k151, a152, n153, c154, O145, rfl, hE, hX17, hr5v, bO9_0, hV91, bO95_0, bO95_1, bO95_2, bO95_3, bx0, bx1, bx2, bx3, vA9, hPn106, hPn107, hnc158, hpl159, hV162, hPa168, bO145_0, bO145_1, bO145_2, bO145_3, (T hs120 (T hs147 (T hs164 hs167))), (T (T hs120 hs147) hfr156l), (T hs120 (Nat.le_of_eq hzO145)), Lib.hid (Nat.ne_of_gt (Nat.lt_of_lt_of_le lt148 hfr156l))⟩
   ·
    clear hr5v bO9_0 hV91 bO95_0 bO95_1 bO95_2 bO95_3 bx0 bx1 bx2 bx3 vA9 hPn106 hPn107 hE hX17
    rintro L ws Y169 ⟨b132, o133, k123, a124, n125, c126, O138, rfl, hE, hX17, hr5v, bO9_0, hV91, bO95_0, bO95_1, bO95_2, bO95_3, bx0, bx1, bx2, bx3, vA9, hPn106, hPn107, hnc130, hpl131, hV134, hPa144, bO138_0, bO138_1, bO138_2, bO138_3, hn170, hn171, hn172, hn173⟩
    have lt174 := hV134.lt; have lt175 := bO138_0.lt; refine qw_then ?_; refine cw_seq ?_; refine cw_seq ?_
    rcases hvor with hvo | hvo
    ·
     refine cw_plain ?_; refine pT (.int .i64 0) ?_; refine pT (.bool false) ?_; refine pT (.bool false) ?_; refine pT (.pointer (some ⟨O138, 1, none⟩)) ?_
     refine pU (.int .i64 v2) (ex_load rfl (by kernel_rfl) (ld3 (bO138_1.1))) ?_
     refine pT (.pointer (some ⟨O38, 1, none⟩)) ?_
     refine pU (.int .i64 ver) (ex_load rfl (by kernel_rfl) (ld3 (bx1.1))) ?_
     refine pU (.bool false) (ev_nne (show _ = Result.ok (Next.value (Value.bool ((v2 : Int) != (ver : Int)))) _ from by kernel_rfl) (by omega)) ?_
     refine pT (.bool false) ?_; refine pK ?_; refine pK ?_; refine pK ?_; refine pK ?_; refine pK ?_; refine pK ?_; refine pT (.bool false) ?_; refine pT (.bool false) ?_; refine pl_nil ?_; refine qw_then ?_; refine cC7 12 14 16 17 18 19 96 (fun L => ?_)
     refine cw_f (by kernel_rfl) ?_
     refine cw_skip ?_
     refine qw_then ?_; refine cw_plain ?_
     refine pU (.agg #[.int .i64 1, .int .i64 v2, .slice (some ⟨b132, o133, none⟩) 24 k123, .slice a124 n125 c126]) (ex_load rfl (by kernel_rfl) (ld31 (bO138_0.1) (bO138_1.1) (bO138_2.1) (bO138_3.1))) ?_
     refine pP (sn_setK4 (O := O38) (j := 0) (v0 := .int .i64 1) (v1 := .int .i64 v2) (v2 := .slice (some ⟨b132, o133, none⟩) 24 k123) (v3 := .slice a124 n125 c126) (ex_store (p := .pointer (some ⟨O38, 0, none⟩)) (v := .agg #[.int .i64 1, .int .i64 v2, .slice (some ⟨b132, o133, none⟩) 24 k123, .slice a124 n125 c126]) rfl (by kernel_rfl) (by kernel_rfl) (st31 bx0.1 bx0.2 bx1.1 bx1.2 bx2.1 bx2.2 bx3.1 bx3.2)) bx0 bx1 bx2 bx3 ?_)
     intro X176 ho hv0 hv1 hv2 hv3 hk; replace hE := ho.ext hE (T (T hs2 (T hs7 (T hs11 (T hs14 hs16)))) hn73); replace hX17 := ho.ext hX17 hn73; replace hr5v := ho.va (Nat.ne_of_gt (Nat.lt_of_lt_of_le lt8 (T (T hs11 (T hs14 hs16)) hn73))) hr5v; replace bO9_0 := ho.box (Nat.ne_of_gt (Nat.lt_of_lt_of_le lt12 (T (T hs14 hs16) hn73))) bO9_0; replace hV91 := ho.va (Nat.ne_of_lt (Nat.lt_of_lt_of_le lt76 hfr85l)) hV91
     have q9 := fun (j : Nat) (v : Value) (h : BoxAt _ O95 j v) => ho.box (Nat.ne_of_lt (Nat.lt_of_lt_of_le lt76 (T hs93 (Nat.le_of_eq hzO95)))) h
     replace bO95_0 := q9 _ _ bO95_0; replace bO95_1 := q9 _ _ bO95_1; replace bO95_2 := q9 _ _ bO95_2; replace bO95_3 := q9 _ _ bO95_3; clear q9; replace vA9 := ho.va hneA.out vA9; replace hPn106 := hPn106.turn ho (fun h => h.1 rfl); replace hPn107 := hPn107.turn ho (fun h => h.1 rfl); replace hV134 := ho.va (Nat.ne_of_lt (Nat.lt_of_lt_of_le lt76 (T (T hs93 (T hs97 (T hs100 hs102))) hn171))) hV134; replace hPa144 := hPa144.turn ho (fun h => h rfl)
     have q9 := fun (j : Nat) (v : Value) (h : BoxAt _ O138 j v) => ho.box (Nat.ne_of_lt (Nat.lt_of_lt_of_le lt76 (T (T hs93 (T hs97 (T hs100 hs102))) hn172))) h
     replace bO138_0 := q9 _ _ bO138_0; replace bO138_1 := q9 _ _ bO138_1; replace bO138_2 := q9 _ _ bO138_2; replace bO138_3 := q9 _ _ bO138_3; clear q9; have hs177 : Y169.heap.size ≤ X176.heap.size := Nat.le_of_eq ho.size.symm; clear ho hk bx0 bx1 bx2 bx3; have bx0 := hv0; clear hv0; have bx1 := hv1; clear hv1; have bx2 := hv2; clear hv2; have bx3 := hv3; clear hv3; refine pl_nil ?_
     refine qw_block ?_
     refine qw_then ?_; refine cw_plain ?_; refine pT (.int .i64 (((i : Nat) : Int) : Int)) ?_
     refine pU (.int .i64 (((i + 1 : Nat) : Int) : Int)) (ev_wrap (by kernel_rfl) (by omega) (by omega)) ?_
     refine pT (.int .i64 (((i + 1 : Nat) : Int) : Int)) ?_; refine pl_nil ?_
     refine qw_round [12, 14, 16, 17, 18] (ws' := [(12, .pointer (some ⟨O38, 0, none⟩)), (14, .pointer (some ⟨O95, 0, none⟩)), (16, .slice (some ⟨b108, o109, none⟩) m9 (c - kk)), (17, .int .i64 (((mm : Nat) : Int) : Int)), (18, .int .i64 (((i + 1 : Nat) : Int) : Int))]) (by kernel_rfl) _ ?_ ⟨(i + 1), v2, b132, o133, k123, a124, n125, c126, rfl, rfl, (T hs102 (T hn170 hs177)), hE, hX17, hr5v, bO9_0, hV91, bO95_0, bO95_1, bO95_2, bO95_3, bx0, bx1, bx2, bx3, hV134, (PcsS.mono hPa144 (fun _ h => h)), (PcsS.mono hPn107 (fun _ h => h.1)), by omega, by omega, by omega, hpl131, by omega, Lib.hid (Nat.ne_of_lt (Nat.lt_of_lt_of_le lt76 (T (T hs93 (T hs97 (T hs100 hs102))) hn171)))⟩
     omega
    ·
     refine cw_plain ?_; refine pT (.int .i64 0) ?_; refine pT (.bool false) ?_; refine pT (.bool false) ?_; refine pT (.pointer (some ⟨O138, 1, none⟩)) ?_
     refine pU (.int .i64 v2) (ex_load rfl (by kernel_rfl) (ld3 (bO138_1.1))) ?_
     refine pT (.pointer (some ⟨O38, 1, none⟩)) ?_
     refine pU (.int .i64 ver) (ex_load rfl (by kernel_rfl) (ld3 (bx1.1))) ?_
     refine pU (.bool true) (ev_ne (show _ = Result.ok (Next.value (Value.bool ((v2 : Int) != (ver : Int)))) _ from by kernel_rfl) (by omega)) ?_
     refine pT (.bool true) ?_; refine pT (.pointer (some ⟨O138, 1, none⟩)) ?_
     refine pU (.int .i64 v2) (ex_load rfl (by kernel_rfl) (ld3 (bO138_1.1))) ?_
     refine pT (.pointer (some ⟨O38, 1, none⟩)) ?_
     refine pU (.int .i64 ver) (ex_load rfl (by kernel_rfl) (ld3 (bx1.1))) ?_
     refine pU (.int .i64 (ver + 1 : Int)) (ev_wrap (by kernel_rfl) (by omega) (by omega)) ?_
     refine pU (.bool false) (ev_nne (show _ = Result.ok (Next.value (Value.bool ((v2 : Int) != (ver + 1 : Int)))) _ from by kernel_rfl) (by omega)) ?_
     refine pT (.bool false) ?_; refine pT (.bool false) ?_; refine pl_nil ?_; refine qw_then ?_; refine cC7 12 14 16 17 18 19 96 (fun L => ?_)
     refine cw_f (by kernel_rfl) ?_
     refine cw_skip ?_
     refine qw_then ?_; refine cw_plain ?_
     refine pU (.agg #[.int .i64 1, .int .i64 v2, .slice (some ⟨b132, o133, none⟩) 24 k123, .slice a124 n125 c126]) (ex_load rfl (by kernel_rfl) (ld31 (bO138_0.1) (bO138_1.1) (bO138_2.1) (bO138_3.1))) ?_
     refine pP (sn_setK4 (O := O38) (j := 0) (v0 := .int .i64 1) (v1 := .int .i64 v2) (v2 := .slice (some ⟨b132, o133, none⟩) 24 k123) (v3 := .slice a124 n125 c126) (ex_store (p := .pointer (some ⟨O38, 0, none⟩)) (v := .agg #[.int .i64 1, .int .i64 v2, .slice (some ⟨b132, o133, none⟩) 24 k123, .slice a124 n125 c126]) rfl (by kernel_rfl) (by kernel_rfl) (st31 bx0.1 bx0.2 bx1.1 bx1.2 bx2.1 bx2.2 bx3.1 bx3.2)) bx0 bx1 bx2 bx3 ?_)
     intro X178 ho hv0 hv1 hv2 hv3 hk; replace hE := ho.ext hE (T (T hs2 (T hs7 (T hs11 (T hs14 hs16)))) hn73); replace hX17 := ho.ext hX17 hn73; replace hr5v := ho.va (Nat.ne_of_gt (Nat.lt_of_lt_of_le lt8 (T (T hs11 (T hs14 hs16)) hn73))) hr5v; replace bO9_0 := ho.box (Nat.ne_of_gt (Nat.lt_of_lt_of_le lt12 (T (T hs14 hs16) hn73))) bO9_0; replace hV91 := ho.va (Nat.ne_of_lt (Nat.lt_of_lt_of_le lt76 hfr85l)) hV91
     have q9 := fun (j : Nat) (v : Value) (h : BoxAt _ O95 j v) => ho.box (Nat.ne_of_lt (Nat.lt_of_lt_of_le lt76 (T hs93 (Nat.le_of_eq hzO95)))) h
     replace bO95_0 := q9 _ _ bO95_0; replace bO95_1 := q9 _ _ bO95_1; replace bO95_2 := q9 _ _ bO95_2; replace bO95_3 := q9 _ _ bO95_3; clear q9; replace vA9 := ho.va hneA.out vA9; replace hPn106 := hPn106.turn ho (fun h => h.1 rfl); replace hPn107 := hPn107.turn ho (fun h => h.1 rfl); replace hV134 := ho.va (Nat.ne_of_lt (Nat.lt_of_lt_of_le lt76 (T (T hs93 (T hs97 (T hs100 hs102))) hn171))) hV134; replace hPa144 := hPa144.turn ho (fun h => h rfl)
     have q9 := fun (j : Nat) (v : Value) (h : BoxAt _ O138 j v) => ho.box (Nat.ne_of_lt (Nat.lt_of_lt_of_le lt76 (T (T hs93 (T hs97 (T hs100 hs102))) hn172))) h
     replace bO138_0 := q9 _ _ bO138_0; replace bO138_1 := q9 _ _ bO138_1; replace bO138_2 := q9 _ _ bO138_2; replace bO138_3 := q9 _ _ bO138_3; clear q9; have hs179 : Y169.heap.size ≤ X178.heap.size := Nat.le_of_eq ho.size.symm; clear ho hk bx0 bx1 bx2 bx3; have bx0 := hv0; clear hv0; have bx1 := hv1; clear hv1; have bx2 := hv2; clear hv2; have bx3 := hv3; clear hv3; refine pl_nil ?_
     refine qw_block ?_
     refine qw_then ?_; refine cw_plain ?_; refine pT (.int .i64 (((i : Nat) : Int) : Int)) ?_
     refine pU (.int .i64 (((i + 1 : Nat) : Int) : Int)) (ev_wrap (by kernel_rfl) (by omega) (by omega)) ?_
     refine pT (.int .i64 (((i + 1 : Nat) : Int) : Int)) ?_; refine pl_nil ?_
     refine qw_round [12, 14, 16, 17, 18] (ws' := [(12, .pointer (some ⟨O38, 0, none⟩)), (14, .pointer (some ⟨O95, 0, none⟩)), (16, .slice (some ⟨b108, o109, none⟩) m9 (c - kk)), (17, .int .i64 (((mm : Nat) : Int) : Int)), (18, .int .i64 (((i + 1 : Nat) : Int) : Int))]) (by kernel_rfl) _ ?_ ⟨(i + 1), v2, b132, o133, k123, a124, n125, c126, rfl, rfl, (T hs102 (T hn170 hs179)), hE, hX17, hr5v, bO9_0, hV91, bO95_0, bO95_1, bO95_2, bO95_3, bx0, bx1, bx2, bx3, hV134, (PcsS.mono hPa144 (fun _ h => h)), (PcsS.mono hPn107 (fun _ h => h.1)), by omega, by omega, by omega, hpl131, by omega, Lib.hid (Nat.ne_of_lt (Nat.lt_of_lt_of_le lt76 (T (T hs93 (T hs97 (T hs100 hs102))) hn171)))⟩
     omega
  ·
   have hin : i = m9 := by omega
   refine cw_seq ?_; refine cw_seq ?_; refine cw_plain ?_; refine pT (.int .i64 (((i : Nat) : Int) : Int)) ?_; refine pT (.slice ar9 m9 (c - kk)) ?_; refine pT (.int .i64 (((m9 : Nat) : Int) : Int)) ?_
   refine pU (.bool false) (ev_ndec (show _ = Result.ok (Next.value (Value.bool (decide ((((i : Nat) : Int) : Int) < (((m9 : Nat) : Int) : Int))))) _ from by kernel_rfl) (by omega)) ?_
   refine pl_nil ?_; refine qw_then ?_
   refine cw_f (by kernel_rfl) ?_
   refine cw_exit ?_
   refine qw_then_exit ?_
   refine qw_then_exit ?_
   refine qw_block_out ?_
   refine qw_then ?_; refine cw_seq ?_; refine cw_plain ?_; refine pT (.pointer (some ⟨O38, 1, none⟩)) ?_
   refine pP (sn_set (O := O38) (j := 1) (v := .int .i64 1) (ex_store (p := .pointer (some ⟨O38, 1, none⟩)) (v := .int .i64 1) rfl (by kernel_rfl) (by kernel_rfl) (st3 bx1.1 bx1.2)) bx1 ?_)
   intro X180 ho hv0 hk; replace hE := ho.ext hE (T (T hs2 (T hs7 (T hs11 (T hs14 hs16)))) hn73); replace hX17 := ho.ext hX17 hn73; replace hr5v := ho.va (Nat.ne_of_gt (Nat.lt_of_lt_of_le lt8 (T (T hs11 (T hs14 hs16)) hn73))) hr5v; replace bO9_0 := ho.box (Nat.ne_of_gt (Nat.lt_of_lt_of_le lt12 (T (T hs14 hs16) hn73))) bO9_0; replace hV91 := ho.va (Nat.ne_of_lt (Nat.lt_of_lt_of_le lt76 hfr85l)) hV91
   have q9 := fun (j : Nat) (v : Value) (h : BoxAt _ O95 j v) => ho.box (Nat.ne_of_lt (Nat.lt_of_lt_of_le lt76 (T hs93 (Nat.le_of_eq hzO95)))) h
   replace bO95_0 := q9 _ _ bO95_0; replace bO95_1 := q9 _ _ bO95_1; replace bO95_2 := q9 _ _ bO95_2; replace bO95_3 := q9 _ _ bO95_3; clear q9; replace bx0 := hk 0 _ (by omega) bx0; replace bx2 := hk 2 _ (by omega) bx2; replace bx3 := hk 3 _ (by omega) bx3; replace vA9 := ho.va hneA.out vA9; replace hPs9 := hPs9.turn ho (fun h => h rfl); replace hPa9 := hPa9.turn ho (fun h => h rfl); have hs181 : w103.heap.size ≤ X180.heap.size := Nat.le_of_eq ho.size.symm; clear ho hk bx1; have bx1 := hv0; clear hv0; refine pl_nil ?_; refine qw_then ?_; refine cw_seq ?_; refine cw_plain ?_
   refine pU (.agg #[.int .i64 1, .int .i64 1, .slice (some ⟨bA, oA, none⟩) 24 kA, .slice aP nP cP]) (ex_load rfl (by kernel_rfl) (ld31 (bx0.1) (bx1.1) (bx2.1) (bx3.1))) ?_
   refine pU (.agg #[.int .i64 1, .int .i64 1, .slice (some ⟨b89, o90, none⟩) 24 k80, .slice a81 n82 c83]) (ex_load rfl (by kernel_rfl) (ld31 (bO95_0.1) (bO95_1.1) (bO95_2.1) (bO95_3.1))) ?_
   refine pS (sn_call (f := 20) (args := #[.agg #[.int .i64 1, .int .i64 1, .slice (some ⟨bA, oA, none⟩) 24 kA, .slice aP nP cP], .agg #[.int .i64 1, .int .i64 1, .slice (some ⟨b89, o90, none⟩) 24 k80, .slice a81 n82 c83]]) (by kernel_rfl) ((rpSame_r (r := true) (id := 1) (ver := 1) (id2 := 1) (ver2 := 1) _ _ _ _ _ (aa_q (vA9.aa)) (Ext.refl _) (hPs9.pcs) (Ext.refl _) (aa_q (hV91.aa)) (Ext.refl _) (hPa9.pcs) (Ext.refl _) (by rw [hin, List.take_of_length_le (by omega), ← Prod.divide_perm (Prod.oneT_perm ps kk mm) hgl]; exact Prod.sameP_refl _ _ _ _)).mono ?_))
   rintro e w182 ⟨rfl, hb⟩
   replace hE := hE.trans hb; replace hX17 := hX17.trans hb; replace hr5v := hr5v.ext hb; replace bO9_0 := BoxAt.ext hb bO9_0; replace hV91 := hV91.ext hb; replace bO95_0 := BoxAt.ext hb bO95_0; replace bO95_1 := BoxAt.ext hb bO95_1; replace bO95_2 := BoxAt.ext hb bO95_2; replace bO95_3 := BoxAt.ext hb bO95_3; replace bx0 := BoxAt.ext hb bx0; replace bx2 := BoxAt.ext hb bx2; replace bx3 := BoxAt.ext hb bx3; replace vA9 := vA9.ext hb; replace hPs9 := hPs9.ext hb; replace hPa9 := hPa9.ext hb; replace bx1 := BoxAt.ext hb bx1; have hs183 := hb.size; clear hb
   refine ⟨_, rfl, ?_⟩
   refine pT (.bool true) ?_; refine pl_nil ?_; refine qw_then ?_
   refine cw_ret ?_
   refine qw_ret [.bool true] rfl ⟨(by kernel_rfl), trivial⟩ ?_
   exact ⟨rfl, hE⟩

end Go.Proofs.YtajdohcgjgknmaaDoor

/- The statement ProductOneByOne: for every input the law returns true, and every argument reads as it read before; the two tables of package math/bits that the row lists are tied to the program's text. -/
namespace Go.Proofs.YtajdohcgjgknmaaDoor
open Go.ChangeShapes Go.WideShapes Go.ChangeAt Go.RowKit

set_option maxRecDepth 100000 in
theorem ProductOneByOne_lifted (os : Os) (started : os.Started) (H : Type) (enc : TypeId × Value → H) :
  ReturnsInHanded {} Tryd.checked os 5 .any (fun w args => (Rows.productOneByOneSpec.pre enc Tryd.prog Tryd.f5 [] false w args ∧ laidMetH Tryd.prog laidTabs w) ∧ sizedMet enc Tryd.prog Tryd.f5 (OpenSpec.ofChange Rows.productOneByOneSpec) false w args)
   (Rows.productOneByOneSpec.post enc Tryd.prog Tryd.f5 false true false false) := by
 refine returnsInHanded_of_change_and (C := Tryd.checked) (X := fun w _ => laidMetH Tryd.prog laidTabs w) (fun _ _ _ hh h => h.of_heap hh) own started (by kernel_rfl) Tryd.func5
  (ChangeSpec.witness_shaped (enc := enc) (C := Tryd.checked) (os := os) (X := fun w _ => laidMetH Tryd.prog laidTabs w) false (World.doorLaid Tryd.prog 19 os) #[.slice none 0 0, .slice none 0 0, .int .i64 0, .int .i64 0] 8 rfl (World.shaped_of_RefB (by kernel_rfl) (by kernel_rfl)) (by kernel_rfl) (by kernel_rfl) (by kernel_rfl) (door_met os _)) ?_
 intro W base args ds gs before hval0 hW _ hsz hL _
 have hval : ∀ (j : Nat) t v, Tryd.f5.params[j]? = some t → args[j]? = some v → Value.okWide Tryd.prog W .any base t v := hval0
 have hW' := hW
 obtain ⟨p, q, hA0, hV, rfl, hfz, hnd⟩ := hW
 have hA : DataW.TrodAll enc Tryd.prog W 0 (fun _ => true) true Tryd.f5.params.toList args.toList ds p := hA0
 rw [Tryd.params5] at hA hval
 obtain ⟨v0, vs0, d0, ds0, p0, q0, hargs, rfl, rfl, h0, r0⟩ := trodAll_cons hA
 obtain ⟨v1, vs1, d1, ds1, p1, q1, rfl, rfl, rfl, h1, r1⟩ := trodAll_cons r0
 obtain ⟨v2, vs2, d2, ds2, p2, q2, rfl, rfl, rfl, h2, r2⟩ := trodAll_cons r1
 obtain ⟨v3, vs3, d3, ds3, p3, q3, rfl, rfl, rfl, h3, r3⟩ := trodAll_cons r2
 obtain ⟨rfl, rfl, rfl⟩ := trodAll_nil r3
 obtain rfl : args = #[v0, v1, v2, v3] := by cases args; simp_all
 obtain ⟨rfl, rfl⟩ := trodVars_none hV
 have k0 := h0
 have lt0 : ∀ x ∈ p0, x.block < W.heap.size := by obtain ⟨m, hm⟩ := k0; exact DataW.trod_lt m _ _ _ hm
 have op0 := open_quads (hval 0 _ v0 rfl rfl) h0
 have k1 := h1
 have lt1 : ∀ x ∈ p1, x.block < W.heap.size := by obtain ⟨m, hm⟩ := k1; exact DataW.trod_lt m _ _ _ hm
 have op1 := open_quads (hval 1 _ v1 rfl rfl) h1
 obtain ⟨a2, rfl, rfl, rfl, w2⟩ := open_int Tryd.underlying3 (hval 2 3 v2 rfl rfl) h2
 obtain ⟨a3, rfl, rfl, rfl, w3⟩ := open_int Tryd.underlying3 (hval 3 3 v3 rfl rfl) h3
 clear hA0 hval0
 refine (ProductOneByOne_walk W v0 op0 v1 op1 a2 (isI_of_wf w2) a3 (isI_of_wf w3) (tab_of_laid hL)).mono fun e W' ⟨he, hE⟩ => ?_
 subst he
 have bel : Below W.heap.size W W' := hE
 exact ⟨_, rfl, _, _, _, [], _, [], hW', trodAll_mk1 (shut_bool Tryd.underlying4 _), (trodAll_cons_mk (Below.trod laidOut (by kernel_rfl) (of_decide_eq_true (by kernel_rfl)) k0 bel lt0) (trodAll_cons_mk (Below.trod laidOut (by kernel_rfl) (of_decide_eq_true (by kernel_rfl)) k1 bel lt1) (trodAll_cons_mk (shut_int Tryd.underlying3 w2) (trodAll_cons_mk (shut_int Tryd.underlying3 w3) trodAll_mk0)))), rfl, bel.frame _, fun h => by cases h⟩

theorem ProductOneByOne_over : Rows.ProductOneByOneSaid :=
 OpenClaim.holds_of_wide 5 Tryd.f5 rfl rfl rfl rfl rfl rfl rfl ⟨rfl, rfl, rfl, rfl, rfl⟩ rfl rfl rfl rfl rfl (by kernel_rfl) Tryd.func5 (by kernel_rfl)
  (of_decide_eq_true (by kernel_rfl)) (by unfold Func.isWrapper; first | (rw [if_pos (by decide +kernel)]; kernel_rfl) | (rw [if_neg (by decide +kernel)]; exact ⟨rfl, rfl⟩))
  (fun os started H enc _ => ProductOneByOne_lifted os started H enc)

/-- The tied card. -/
theorem ProductOneByOne_holds : Rows.ProductOneByOneCardSaid :=
 Claim7.holds_tied_plain_at .later [] [.data, .data] true (true, "8b5a7a53c537ff8737778701348fb3568628a2c5eeac7583eb34b5657efa7458") false
  ProductOneByOne_over (fun _ h => by cases h) (by kernel_rfl) (fun _ h => by cases h) productOneByOne_row_tie rfl ⟨rfl, rfl⟩ (by kernel_rfl) rfl
  (fun f fn hf hfn => by
   obtain rfl : f = 5 := Option.some.inj ((show Tryd.prog.funcNamed "nadir/nadirlaw31.ProductOneByOne" = some 5 by kernel_rfl).symm.trans hf) |>.symm
   obtain rfl : fn = Tryd.f5 := (Option.some.inj (Tryd.func5.symm.trans hfn)).symm
   exact ⟨by kernel_rfl, fun j t ht => by
    rw [Tryd.params5] at ht
    have hm : t ∈ [22, 22, 3, 3] := by simpa using Array.mem_of_getElem? ht
    have hall : ([22, 22, 3, 3].all fun u => !Tryd.prog.wantsStandIn u) = true := by kernel_rfl
    exact (show Tryd.prog.wantsStandIn t = false by simpa using List.all_eq_true.1 hall t hm)⟩)
  (by kernel_rfl)
#print axioms ProductOneByOne_holds
end Go.Proofs.YtajdohcgjgknmaaDoor
