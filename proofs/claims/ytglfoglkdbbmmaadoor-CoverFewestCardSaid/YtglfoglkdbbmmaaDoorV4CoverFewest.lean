/- The statement CoverFewest: for every input that the row lists, the law returns true, and every argument reads as it read before. -/
import Derived.Test.YtglfoglkdbbmmaaDoorV3CoverFewest
/- Contract of the reference of package cover: Covers. -/
namespace Go.Proofs.YtglfoglkdbbmmaaDoor
open Go.RowKit Go.Shelf

namespace Globe
/-- What a set of strips, by their bits, leaves of a row. -/
def cvRow (LA : List Int) (Ss : List (List Int)) (S y : Nat) : Nat → Nat
  | 0 => rowN LA y
  | i + 1 => if S.testBit i then lessN (cvRow LA Ss S y i) (rowN (sureAt Ss i) y) else cvRow LA Ss S y i
def coversB (LA : List Int) (Ss : List (List Int)) (S n : Nat) : Bool := (List.range 24).all fun y => decide (cvRow LA Ss S y n = 0)
theorem cvRow_lt {LA : List Int} (h : validL LA = true) {Ss : List (List Int)} (S y : Nat) : ∀ i, cvRow LA Ss S y i < 281474976710656
  | 0 => rowN_lt h y
  | i + 1 => by
    rw [cvRow]
    split
    · exact lessN_lt (cvRow_lt h S y i)
    · exact cvRow_lt h S y i
theorem bit_one {S i : Nat} (h : S.testBit i = true) : S / 2 ^ i % 2 = 1 := by rw [testBit_div, h]; rfl
theorem bit_of_one {S i : Nat} (h : S / 2 ^ i % 2 = 1) : S.testBit i = true := by
  rw [testBit_div] at h
  cases hq : S.testBit i
  · rw [hq] at h; cases h
  · rfl
theorem covers_yes {LA : List Int} {Ss : List (List Int)} {S n : Nat} (h : ∀ j, j < 24 → cvRow LA Ss S j n = 0) : coversB LA Ss S n = true :=
  List.all_eq_true.2 fun j hj => decide_eq_true (h j (List.mem_range.1 hj))
theorem covers_no {LA : List Int} {Ss : List (List Int)} {S n y : Nat} (hy : y < 24) (h : cvRow LA Ss S y n ≠ 0) : coversB LA Ss S n = false := by
  cases hq : coversB LA Ss S n
  · rfl
  · exact absurd (of_decide_eq_true (List.all_eq_true.1 hq y (List.mem_range.2 hy))) h
theorem cv_bit {LA : List Int} {Ss : List (List Int)} {S y x : Nat} : ∀ i, (cvRow LA Ss S y i).testBit x = (hasL LA x y && (List.range i).all fun j => !(S.testBit j && hasL (sureAt Ss j) x y))
  | 0 => by rw [cvRow, rowN_bit]; simp
  | i + 1 => by
    rw [List.range_succ, List.all_append, cvRow]
    cases h : S.testBit i
    · simp only [Bool.false_eq_true, if_false]; rw [cv_bit i]; simp [h]
    · simp only [if_true]; rw [lessN_bit, cv_bit i, rowN_bit]; simp [h, Bool.and_assoc]
/-- The indices of a set, ascending. -/
def bitsL (S n : Nat) : List Nat := (List.range n).filter fun i => S.testBit i
theorem asc_filter (n : Nat) (p : Nat → Bool) : ∀ (k s : Nat), s + k = n → asc n s (((List.range n).drop s).filter p)
  | 0, s, h => by rw [range_drop_ge (by omega)]; trivial
  | k + 1, s, h => by
    rw [range_drop (by omega), List.filter_cons]
    split
    · exact ⟨Nat.le_refl _, by omega, asc_filter n p k (s + 1) (by omega)⟩
    · exact asc_mono (asc_filter n p k (s + 1) (by omega)) (by omega)
theorem bits_asc (S n : Nat) : asc n 0 (bitsL S n) := by have := asc_filter n (fun i => S.testBit i) n 0 (by omega); rwa [List.drop_zero] at this
theorem covers_enough {LA : List Int} (h : validL LA = true) {Ss : List (List Int)} {S n : Nat} : coversB LA Ss S n = enough LA Ss (bitsL S n) := by
  rw [Bool.eq_iff_iff, enough_iff h]
  constructor
  · intro hc x y hx hy hh
    have h0 := of_decide_eq_true (List.all_eq_true.1 hc y (List.mem_range.2 hy))
    have hb := cv_bit (LA := LA) (Ss := Ss) (S := S) (y := y) (x := x) n
    rw [h0, Nat.zero_testBit, hh, Bool.true_and] at hb
    obtain ⟨j, hj, hq⟩ := List.all_eq_false.1 hb.symm
    have hq2 : (S.testBit j && hasL (sureAt Ss j) x y) = true := by simpa using hq
    obtain ⟨q1, q2⟩ := Bool.and_eq_true_iff.1 hq2
    exact ⟨j, List.mem_filter.2 ⟨hj, q1⟩, q2⟩
  · intro hc
    refine covers_yes fun y hy => Nat.eq_of_testBit_eq fun x => ?_
    rw [Nat.zero_testBit, cv_bit]
    cases hh : hasL LA x y
    · rfl
    · by_cases hx : x < 48
      · obtain ⟨j, hj, hq⟩ := hc x y hx hy hh
        obtain ⟨q1, q2⟩ := List.mem_filter.1 hj
        rw [Bool.true_and, List.all_eq_false]
        exact ⟨j, q1, by rw [q2, hq]; simp⟩
      · rw [has_hi h (by omega)] at hh; cases hh
end Globe

set_option maxRecDepth 1000000 in
set_option maxHeartbeats 4000000 in
theorem Covers_c {w1 w2 : World} {b o : Nat} (c cl : Nat) {LA : List Int} {a : Option Addr} {n : Nat} {ss : List (List Int × List Int)} {S : Nat} (w : World) (hl : VA w1 b o LA) (e1 : Ext w1 w) (h : StripsAt w2 a n ss) (e2 : Ext w2 w) (hok : Globe.stripsOk ss = true) (hn : n ≤ 12) :
    Calls Tryd.prog 30 #[.agg #[.slice (some ⟨b, o, none⟩) 24 c], .slice a n cl, .int .i64 (S : Int)] w fun e w' => e = .returned (.bool (Globe.coversB LA (ss.map fun s => s.1) S n)) ∧ Ext w w' := by
  have hA := hl.ext e1; have hS := h.ext e2
  refine calls_cw 43 [(2, .int .i64 (((S : Nat) : Int) : Int)), (1, .slice a n cl), (0, .agg #[.slice (some ⟨b, o, none⟩) 24 c])] Tryd.func30 rfl Tryd.ntmps30 (by kernel_rfl) (by kernel_rfl) (fun L => ?_)
  have hE : Ext w w := Ext.refl w
  refine cw_seq ?_
  refine cw_plain ?_
  refine pl_step rfl (by kernel_rfl) (by kernel_rfl) (by kernel_rfl) (sn_new (us := #[.slice (some ⟨b, o, none⟩) 24 c]) (t := 25) (by kernel_rfl) ?_)
  intro O1 X2 hO hOs hb hbx
  have hzO1 := hO; have hyO1 := hOs; clear hO hOs
  have bO1_0 : BoxAt X2 O1 0 (.slice (some ⟨b, o, none⟩) 24 c) := hbx 0 _ rfl
  clear hbx
  replace hE := hE.trans hb
  have hs3 := hb.size
  clear hb
  have lt4 := bO1_0.lt
  refine pl_take (.bool false) rfl (by kernel_rfl) (by kernel_rfl) (by kernel_rfl) (by kernel_rfl) ?_
  refine pl_nil ?_
  refine qw_then ?_
  refine cw_seq ?_
  refine cw_seq ?_
  refine cw_plain ?_
  refine pl_take (.int .i64 0) rfl (by kernel_rfl) (by kernel_rfl) (by kernel_rfl) (by kernel_rfl) ?_
  refine pl_nil ?_
  refine qw_then ?_
  refine cw_block ?_
  have hX5 : Ext X2 X2 := Ext.refl _
  refine cw_loop [1, 2, 3, 7] (fun ws' wr m => ∃ y : Nat, ws' = [(1, .slice a n cl), (2, .int .i64 (((S : Nat) : Int) : Int)), (3, .pointer (some ⟨O1, 0, none⟩)), (7, .int .i64 (((y : Nat) : Int) : Int))] ∧ m = 24 - y ∧ X2.heap.size ≤ wr.heap.size ∧ Ext w wr ∧ Ext X2 wr ∧ y ≤ 24 ∧ ∀ j, j < y → Globe.cvRow LA (ss.map fun s => s.1) S j n = 0) (ws0 := [(1, .slice a n cl), (2, .int .i64 (((S : Nat) : Int) : Int)), (3, .pointer (some ⟨O1, 0, none⟩)), (7, .int .i64 0)]) (by kernel_rfl) _ ⟨0, rfl, rfl, Nat.le_refl _, hE, hX5, by omega, (fun j hj => absurd hj (Nat.not_lt_zero j))⟩ ?_
  clear hE hX5
  rintro m8 L ws w7 ⟨y, rfl, rfl, hs6, hE, hX5, hy, hall⟩
  by_cases hlt : y < 24
  ·
    refine cw_seq ?_
    refine cw_seq ?_
    refine cw_plain ?_
    refine pl_take (.int .i64 (((y : Nat) : Int) : Int)) rfl (by kernel_rfl) (by kernel_rfl) (by kernel_rfl) (by kernel_rfl) ?_
    by_cases hc9 : (((y : Nat) : Int) : Int) < (24 : Int)
    ·
      refine pl_take (.bool true) rfl (by kernel_rfl) (by kernel_rfl) (by kernel_rfl) (ev_dec (show _ = Result.ok (Next.value (Value.bool (decide ((((y : Nat) : Int) : Int) < (24 : Int))))) _ from by kernel_rfl) (hc9)) ?_
      refine pl_nil ?_
      refine qw_then ?_
      refine cw_t (by kernel_rfl) ?_
      refine cw_skip ?_
      refine qw_then ?_
      refine cw_seq ?_
      refine cw_block ?_
      refine cw_seq ?_
      refine cw_plain ?_
      refine pl_take (.pointer (some ⟨O1, 0, none⟩)) rfl (by kernel_rfl) (by kernel_rfl) (by kernel_rfl) (by kernel_rfl) ?_
      refine pl_take (.slice (some ⟨b, o, none⟩) 24 c) rfl (by kernel_rfl) (by kernel_rfl) (by kernel_rfl) (ex_load rfl (by kernel_rfl) (ld23 ((BoxAt.ext hX5 bO1_0).1))) ?_
      refine pl_take (.int .i64 (((y : Nat) : Int) : Int)) rfl (by kernel_rfl) (by kernel_rfl) (by kernel_rfl) (by kernel_rfl) ?_
      refine pl_take (.pointer (some ⟨b, o + y, none⟩)) rfl (by kernel_rfl) (by kernel_rfl) (by kernel_rfl) (ex_index (p := .slice (some ⟨b, o, none⟩) 24 c) (i := .int .i64 ((y : Nat) : Int)) rfl (by kernel_rfl) (by kernel_rfl) (ix23 (by omega))) ?_
      refine pl_take (.int .i64 (((Globe.rowN LA y : Nat) : Int) : Int)) rfl (by kernel_rfl) (by kernel_rfl) (by kernel_rfl) (ex_load rfl (by kernel_rfl) (ld3 ((hA.ext hE).cell (y := y) (by omega)))) ?_
      refine pl_take (.int .i64 (((Globe.rowN LA y : Nat) : Int) : Int)) rfl (by kernel_rfl) (by kernel_rfl) (by kernel_rfl) (by kernel_rfl) ?_
      refine pl_nil ?_
      refine qw_then ?_
      refine cw_seq ?_
      refine cw_seq ?_
      refine cw_plain ?_
      refine pl_take (.int .i64 0) rfl (by kernel_rfl) (by kernel_rfl) (by kernel_rfl) (by kernel_rfl) ?_
      refine pl_nil ?_
      refine qw_then ?_
      refine cw_block ?_
      refine cw_loop [1, 2, 3, 7, 8, 9] (fun ws' wr m => ∃ i : Nat, ws' = [(1, .slice a n cl), (2, .int .i64 (((S : Nat) : Int) : Int)), (3, .pointer (some ⟨O1, 0, none⟩)), (7, .int .i64 (((y : Nat) : Int) : Int)), (8, .int .i64 (((Globe.cvRow LA (ss.map fun s => s.1) S y i : Nat) : Int) : Int)), (9, .int .i64 (((i : Nat) : Int) : Int))] ∧ m = n - i ∧ w7.heap.size ≤ wr.heap.size ∧ Ext w wr ∧ Ext X2 wr ∧ i ≤ n) (ws0 := [(1, .slice a n cl), (2, .int .i64 (((S : Nat) : Int) : Int)), (3, .pointer (some ⟨O1, 0, none⟩)), (7, .int .i64 (((y : Nat) : Int) : Int)), (8, .int .i64 (((Globe.rowN LA y : Nat) : Int) : Int)), (9, .int .i64 0)]) (by kernel_rfl) _ ⟨0, rfl, rfl, Nat.le_refl _, hE, hX5, by omega⟩ ?_
      clear hE hX5
      rintro m12 L ws w11 ⟨i, rfl, rfl, hs10, hE, hX5, hi⟩
      by_cases hlt : i < n
      ·
        obtain ⟨sb, so, s, rfl, hs, hst⟩ := hS.at hlt
        obtain ⟨q1', q2', q3'⟩ := okS_at hok hs
        obtain ⟨S1, s1, e1, S2, s2, e2, d1, d2, g1, g2⟩ := hst.v q1' q2'
        have hsu : Globe.sureAt (ss.map fun s => s.1) i = s.1 := by unfold Globe.sureAt; rw [List.getElem?_map, hs]; rfl
        have hr1 := Globe.rowN_lt q1' y; have hr2 := Globe.cvRow_lt hA.2 (Ss := ss.map fun s => s.1) S y i
        refine cw_seq ?_
        refine cw_seq ?_
        refine cw_plain ?_
        refine pl_take (.int .i64 (((i : Nat) : Int) : Int)) rfl (by kernel_rfl) (by kernel_rfl) (by kernel_rfl) (by kernel_rfl) ?_
        refine pl_take (.slice (some ⟨sb, so, none⟩) n cl) rfl (by kernel_rfl) (by kernel_rfl) (by kernel_rfl) (by kernel_rfl) ?_
        refine pl_take (.int .i64 (((n : Nat) : Int) : Int)) rfl (by kernel_rfl) (by kernel_rfl) (by kernel_rfl) (by kernel_rfl) ?_
        refine pl_take (.bool true) rfl (by kernel_rfl) (by kernel_rfl) (by kernel_rfl) (ev_dec (show _ = Result.ok (Next.value (Value.bool (decide ((((i : Nat) : Int) : Int) < (((n : Nat) : Int) : Int))))) _ from by kernel_rfl) (by omega)) ?_
        refine pl_nil ?_
        refine qw_then ?_
        refine cw_t (by kernel_rfl) ?_
        refine cw_skip ?_
        refine qw_then ?_
        refine cw_seq ?_
        refine cw_block ?_
        refine cw_seq ?_
        refine cw_plain ?_
        refine pl_take (.int .i64 (((S : Nat) : Int) : Int)) rfl (by kernel_rfl) (by kernel_rfl) (by kernel_rfl) (by kernel_rfl) ?_
        refine pl_take (.int .i64 (((i : Nat) : Int) : Int)) rfl (by kernel_rfl) (by kernel_rfl) (by kernel_rfl) (by kernel_rfl) ?_
        refine pl_take (.int .i64 (((S / 2 ^ i : Nat) : Int) : Int)) rfl (by kernel_rfl) (by kernel_rfl) (by kernel_rfl) (ex_bin rfl (by kernel_rfl) (by kernel_rfl) (bin_shr (by omega))) ?_
        refine pl_take (.int .i64 ((((S / 2 ^ i) % 2 : Nat) : Int) : Int)) rfl (by kernel_rfl) (by kernel_rfl) (by kernel_rfl) (ex_bin (a := ((S / 2 ^ i : Nat) : Int)) (b := ((2 : Nat) : Int)) rfl (by kernel_rfl) (by kernel_rfl) (bin_rem (by omega))) ?_
        by_cases hc13 : ((((S / 2 ^ i) % 2 : Nat) : Int) : Int) = (1 : Int)
        ·
          refine pl_take (.bool true) rfl (by kernel_rfl) (by kernel_rfl) (by kernel_rfl) (ev_eq (show _ = Result.ok (Next.value (Value.bool (((((S / 2 ^ i) % 2 : Nat) : Int) : Int) == (1 : Int)))) _ from by kernel_rfl) (hc13)) ?_
          refine pl_nil ?_
          refine qw_then ?_
          refine cw_clean [1, 2, 3, 7, 8, 9, 29] (ws' := [(1, .slice (some ⟨sb, so, none⟩) n cl), (2, .int .i64 (((S : Nat) : Int) : Int)), (3, .pointer (some ⟨O1, 0, none⟩)), (7, .int .i64 (((y : Nat) : Int) : Int)), (8, .int .i64 (((Globe.cvRow LA (ss.map fun s => s.1) S y i : Nat) : Int) : Int)), (9, .int .i64 (((i : Nat) : Int) : Int)), (29, .bool true)]) (by kernel_rfl) (fun L => ?_)
          refine cw_t (by kernel_rfl) ?_
          refine cw_plain ?_
          refine pl_take (.int .i64 (((Globe.cvRow LA (ss.map fun s => s.1) S y i : Nat) : Int) : Int)) rfl (by kernel_rfl) (by kernel_rfl) (by kernel_rfl) (by kernel_rfl) ?_
          refine pl_take (.slice (some ⟨sb, so, none⟩) n cl) rfl (by kernel_rfl) (by kernel_rfl) (by kernel_rfl) (by kernel_rfl) ?_
          refine pl_take (.int .i64 (((i : Nat) : Int) : Int)) rfl (by kernel_rfl) (by kernel_rfl) (by kernel_rfl) (by kernel_rfl) ?_
          refine pl_take (.pointer (some ⟨sb, so + i * 2, none⟩)) rfl (by kernel_rfl) (by kernel_rfl) (by kernel_rfl) (ex_index (p := .slice (some ⟨sb, so, none⟩) n cl) (i := .int .i64 ((i : Nat) : Int)) rfl (by kernel_rfl) (by kernel_rfl) (ix26 (by omega))) ?_
          refine pl_take (.pointer (some ⟨sb, so + i * 2, none⟩)) rfl (by kernel_rfl) (by kernel_rfl) (by kernel_rfl) (by kernel_rfl) ?_
          refine pl_take (.pointer (some ⟨sb, so + i * 2, none⟩)) rfl (by kernel_rfl) (by kernel_rfl) (by kernel_rfl) (by kernel_rfl) ?_
          refine pl_take (.slice (some ⟨S1, s1, none⟩) 24 e1) rfl (by kernel_rfl) (by kernel_rfl) (by kernel_rfl) (ex_load rfl (by kernel_rfl) (ld23 ((hE.cell d1)))) ?_
          refine pl_take (.int .i64 (((y : Nat) : Int) : Int)) rfl (by kernel_rfl) (by kernel_rfl) (by kernel_rfl) (by kernel_rfl) ?_
          refine pl_take (.pointer (some ⟨S1, s1 + y, none⟩)) rfl (by kernel_rfl) (by kernel_rfl) (by kernel_rfl) (ex_index (p := .slice (some ⟨S1, s1, none⟩) 24 e1) (i := .int .i64 ((y : Nat) : Int)) rfl (by kernel_rfl) (by kernel_rfl) (ix23 (by omega))) ?_
          refine pl_take (.int .i64 (((Globe.rowN s.1 y : Nat) : Int) : Int)) rfl (by kernel_rfl) (by kernel_rfl) (by kernel_rfl) (ex_load rfl (by kernel_rfl) (ld3 ((g1.ext hE).cell (y := y) (by omega)))) ?_
          have hb : S.testBit i = true := Globe.bit_of_one (by have := hc13; omega)
          have hcv : Globe.lessN (Globe.cvRow LA (ss.map fun s => s.1) S y i) (Globe.rowN s.1 y) = Globe.cvRow LA (ss.map fun s => s.1) S y (i + 1) := by rw [Globe.cvRow, hb, hsu]; rfl
          refine pl_take (.int .i64 (((Globe.cvRow LA (ss.map fun s => s.1) S y (i + 1) : Nat) : Int) : Int)) rfl (by kernel_rfl) (by kernel_rfl) (by kernel_rfl) (ev_int (show _ = Result.ok (Next.value (Value.int .i64 (bits .andNot .i64 ((Globe.cvRow LA (ss.map fun s => s.1) S y i : Nat) : Int) ((Globe.rowN s.1 y : Nat) : Int)))) _ from by kernel_rfl) (by rw [less_i64 _ _ (by omega) (by omega), hcv])) ?_
          refine pl_take (.int .i64 (((Globe.cvRow LA (ss.map fun s => s.1) S y (i + 1) : Nat) : Int) : Int)) rfl (by kernel_rfl) (by kernel_rfl) (by kernel_rfl) (by kernel_rfl) ?_
          refine pl_nil ?_
          refine qw_block ?_
          refine qw_then ?_
          refine cw_clean [1, 2, 3, 7, 8, 9] (ws' := [(1, .slice (some ⟨sb, so, none⟩) n cl), (2, .int .i64 (((S : Nat) : Int) : Int)), (3, .pointer (some ⟨O1, 0, none⟩)), (7, .int .i64 (((y : Nat) : Int) : Int)), (8, .int .i64 (((Globe.cvRow LA (ss.map fun s => s.1) S y (i + 1) : Nat) : Int) : Int)), (9, .int .i64 (((i : Nat) : Int) : Int))]) (by kernel_rfl) (fun L => ?_)
          refine cw_plain ?_
          refine pl_take (.int .i64 (((i : Nat) : Int) : Int)) rfl (by kernel_rfl) (by kernel_rfl) (by kernel_rfl) (by kernel_rfl) ?_
          refine pl_take (.int .i64 (((i + 1 : Nat) : Int) : Int)) rfl (by kernel_rfl) (by kernel_rfl) (by kernel_rfl) (ev_wrap (by kernel_rfl) (by omega) (by omega)) ?_
          refine pl_take (.int .i64 (((i + 1 : Nat) : Int) : Int)) rfl (by kernel_rfl) (by kernel_rfl) (by kernel_rfl) (by kernel_rfl) ?_
          refine pl_nil ?_
          refine qw_round [1, 2, 3, 7, 8, 9] (ws' := [(1, .slice (some ⟨sb, so, none⟩) n cl), (2, .int .i64 (((S : Nat) : Int) : Int)), (3, .pointer (some ⟨O1, 0, none⟩)), (7, .int .i64 (((y : Nat) : Int) : Int)), (8, .int .i64 (((Globe.cvRow LA (ss.map fun s => s.1) S y (i + 1) : Nat) : Int) : Int)), (9, .int .i64 (((i + 1 : Nat) : Int) : Int))]) (by kernel_rfl) _ ?_ ⟨(i + 1), rfl, rfl, hs10, hE, hX5, by omega⟩
          omega
        ·
          refine pl_take (.bool false) rfl (by kernel_rfl) (by kernel_rfl) (by kernel_rfl) (ev_neq (show _ = Result.ok (Next.value (Value.bool (((((S / 2 ^ i) % 2 : Nat) : Int) : Int) == (1 : Int)))) _ from by kernel_rfl) (hc13)) ?_
          refine pl_nil ?_
          refine qw_then ?_
          refine cw_clean [1, 2, 3, 7, 8, 9, 29] (ws' := [(1, .slice (some ⟨sb, so, none⟩) n cl), (2, .int .i64 (((S : Nat) : Int) : Int)), (3, .pointer (some ⟨O1, 0, none⟩)), (7, .int .i64 (((y : Nat) : Int) : Int)), (8, .int .i64 (((Globe.cvRow LA (ss.map fun s => s.1) S y i : Nat) : Int) : Int)), (9, .int .i64 (((i : Nat) : Int) : Int)), (29, .bool false)]) (by kernel_rfl) (fun L => ?_)
          refine cw_f (by kernel_rfl) ?_
          refine cw_skip ?_
          refine qw_block ?_
          refine qw_then ?_
          refine cw_plain ?_
          refine pl_take (.int .i64 (((i : Nat) : Int) : Int)) rfl (by kernel_rfl) (by kernel_rfl) (by kernel_rfl) (by kernel_rfl) ?_
          refine pl_take (.int .i64 (((i + 1 : Nat) : Int) : Int)) rfl (by kernel_rfl) (by kernel_rfl) (by kernel_rfl) (ev_wrap (by kernel_rfl) (by omega) (by omega)) ?_
          refine pl_take (.int .i64 (((i + 1 : Nat) : Int) : Int)) rfl (by kernel_rfl) (by kernel_rfl) (by kernel_rfl) (by kernel_rfl) ?_
          refine pl_nil ?_
          have hb : S.testBit i = false := by cases hq : S.testBit i; rfl; rw [Globe.bit_one hq] at hc13; exact absurd rfl hc13
          refine qw_round [1, 2, 3, 7, 8, 9] (ws' := [(1, .slice (some ⟨sb, so, none⟩) n cl), (2, .int .i64 (((S : Nat) : Int) : Int)), (3, .pointer (some ⟨O1, 0, none⟩)), (7, .int .i64 (((y : Nat) : Int) : Int)), (8, .int .i64 (((Globe.cvRow LA (ss.map fun s => s.1) S y i : Nat) : Int) : Int)), (9, .int .i64 (((i + 1 : Nat) : Int) : Int))]) (by kernel_rfl) _ ?_ ⟨(i + 1), (by rw [show Globe.cvRow LA (ss.map fun s => s.1) S y (i + 1) = Globe.cvRow LA (ss.map fun s => s.1) S y i by rw [Globe.cvRow, hb]; rfl]), rfl, hs10, hE, hX5, by omega⟩
          omega
      ·
        have hin : i = n := by omega
        refine cw_seq ?_
        refine cw_seq ?_
        refine cw_plain ?_
        refine pl_take (.int .i64 (((i : Nat) : Int) : Int)) rfl (by kernel_rfl) (by kernel_rfl) (by kernel_rfl) (by kernel_rfl) ?_
        refine pl_take (.slice a n cl) rfl (by kernel_rfl) (by kernel_rfl) (by kernel_rfl) (by kernel_rfl) ?_
        refine pl_take (.int .i64 (((n : Nat) : Int) : Int)) rfl (by kernel_rfl) (by kernel_rfl) (by kernel_rfl) (by kernel_rfl) ?_
        refine pl_take (.bool false) rfl (by kernel_rfl) (by kernel_rfl) (by kernel_rfl) (ev_ndec (show _ = Result.ok (Next.value (Value.bool (decide ((((i : Nat) : Int) : Int) < (((n : Nat) : Int) : Int))))) _ from by kernel_rfl) (by omega)) ?_
        refine pl_nil ?_
        refine qw_then ?_
        refine cw_f (by kernel_rfl) ?_
        refine cw_exit ?_
        refine qw_then_exit ?_
        refine qw_then_exit ?_
        refine qw_block_out ?_
        refine qw_then ?_
        refine cw_seq ?_
        refine cw_plain ?_
        refine pl_take (.int .i64 (((Globe.cvRow LA (ss.map fun s => s.1) S y i : Nat) : Int) : Int)) rfl (by kernel_rfl) (by kernel_rfl) (by kernel_rfl) (by kernel_rfl) ?_
        by_cases hc14 : (((Globe.cvRow LA (ss.map fun s => s.1) S y i : Nat) : Int) : Int) = (0 : Int)
        ·
          refine pl_take (.bool false) rfl (by kernel_rfl) (by kernel_rfl) (by kernel_rfl) (ev_nne (show _ = Result.ok (Next.value (Value.bool ((((Globe.cvRow LA (ss.map fun s => s.1) S y i : Nat) : Int) : Int) != (0 : Int)))) _ from by kernel_rfl) (hc14)) ?_
          refine pl_nil ?_
          refine qw_then ?_
          refine cw_f (by kernel_rfl) ?_
          refine cw_skip ?_
          refine qw_block ?_
          refine qw_then ?_
          refine cw_plain ?_
          refine pl_take (.int .i64 (((y : Nat) : Int) : Int)) rfl (by kernel_rfl) (by kernel_rfl) (by kernel_rfl) (by kernel_rfl) ?_
          refine pl_take (.int .i64 (((y + 1 : Nat) : Int) : Int)) rfl (by kernel_rfl) (by kernel_rfl) (by kernel_rfl) (ev_wrap (by kernel_rfl) (by omega) (by omega)) ?_
          refine pl_take (.int .i64 (((y + 1 : Nat) : Int) : Int)) rfl (by kernel_rfl) (by kernel_rfl) (by kernel_rfl) (by kernel_rfl) ?_
          refine pl_nil ?_
          refine qw_round [1, 2, 3, 7] (ws' := [(1, .slice a n cl), (2, .int .i64 (((S : Nat) : Int) : Int)), (3, .pointer (some ⟨O1, 0, none⟩)), (7, .int .i64 (((y + 1 : Nat) : Int) : Int))]) (by kernel_rfl) _ ?_ ⟨(y + 1), rfl, rfl, (Nat.le_trans hs6 hs10), hE, hX5, by omega, (fun j hj => by rcases Nat.lt_or_ge j y with q | q; exact hall j q; rw [show j = y by omega, ← hin]; omega)⟩
          omega
        ·
          refine pl_take (.bool true) rfl (by kernel_rfl) (by kernel_rfl) (by kernel_rfl) (ev_ne (show _ = Result.ok (Next.value (Value.bool ((((Globe.cvRow LA (ss.map fun s => s.1) S y i : Nat) : Int) : Int) != (0 : Int)))) _ from by kernel_rfl) (hc14)) ?_
          refine pl_nil ?_
          refine qw_then ?_
          refine cw_t (by kernel_rfl) ?_
          refine cw_seq ?_
          refine cw_plain ?_
          refine pl_take (.bool false) rfl (by kernel_rfl) (by kernel_rfl) (by kernel_rfl) (by kernel_rfl) ?_
          refine pl_nil ?_
          refine qw_then ?_
          refine cw_ret ?_
          refine qw_block_ret ?_
          refine qw_then_ret ?_
          refine qw_then_ret ?_
          refine qw_block_ret ?_
          refine qw_then_ret ?_
          refine qw_ret [.bool false] rfl ⟨(by kernel_rfl), trivial⟩ ?_
          exact ⟨by rw [Globe.covers_no (y := y) (by omega) (by rw [hin] at hc14; intro e; rw [e] at hc14; exact hc14 rfl)]; rfl, hE⟩
    ·
      refine pl_take (.bool false) rfl (by kernel_rfl) (by kernel_rfl) (by kernel_rfl) (ev_ndec (show _ = Result.ok (Next.value (Value.bool (decide ((((y : Nat) : Int) : Int) < (24 : Int))))) _ from by kernel_rfl) (hc9)) ?_
      refine pl_nil ?_
      refine qw_then ?_
      refine cw_f (by kernel_rfl) ?_
      refine cw_exit ?_
      refine qw_then_exit ?_
      refine qw_then_exit ?_
      refine qw_block_out ?_
      refine qw_then ?_
      refine cw_seq ?_
      refine cw_plain ?_
      refine pl_take (.bool true) rfl (by kernel_rfl) (by kernel_rfl) (by kernel_rfl) (by kernel_rfl) ?_
      refine pl_nil ?_
      refine qw_then ?_
      refine cw_ret ?_
      refine qw_ret [.bool true] rfl ⟨(by kernel_rfl), trivial⟩ ?_
      exact ⟨by rw [Globe.covers_yes (fun j hj => hall j (by omega))]; rfl, hE⟩
  ·
    refine cw_seq ?_
    refine cw_seq ?_
    refine cw_plain ?_
    refine pl_take (.int .i64 (((y : Nat) : Int) : Int)) rfl (by kernel_rfl) (by kernel_rfl) (by kernel_rfl) (by kernel_rfl) ?_
    by_cases hc15 : (((y : Nat) : Int) : Int) < (24 : Int)
    ·
      refine pl_take (.bool true) rfl (by kernel_rfl) (by kernel_rfl) (by kernel_rfl) (ev_dec (show _ = Result.ok (Next.value (Value.bool (decide ((((y : Nat) : Int) : Int) < (24 : Int))))) _ from by kernel_rfl) (hc15)) ?_
      refine pl_nil ?_
      refine qw_then ?_
      refine cw_t (by kernel_rfl) ?_
      refine cw_skip ?_
      refine qw_then ?_
      refine cw_seq ?_
      refine cw_block ?_
      refine cw_seq ?_
      refine cw_plain ?_
      refine pl_take (.pointer (some ⟨O1, 0, none⟩)) rfl (by kernel_rfl) (by kernel_rfl) (by kernel_rfl) (by kernel_rfl) ?_
      refine pl_take (.slice (some ⟨b, o, none⟩) 24 c) rfl (by kernel_rfl) (by kernel_rfl) (by kernel_rfl) (ex_load rfl (by kernel_rfl) (ld23 ((BoxAt.ext hX5 bO1_0).1))) ?_
      refine pl_take (.int .i64 (((y : Nat) : Int) : Int)) rfl (by kernel_rfl) (by kernel_rfl) (by kernel_rfl) (by kernel_rfl) ?_
      refine pl_take (.pointer (some ⟨b, o + y, none⟩)) rfl (by kernel_rfl) (by kernel_rfl) (by kernel_rfl) (ex_index (p := .slice (some ⟨b, o, none⟩) 24 c) (i := .int .i64 ((y : Nat) : Int)) rfl (by kernel_rfl) (by kernel_rfl) (ix23 (by omega))) ?_
      refine pl_take (.int .i64 (((Globe.rowN LA y : Nat) : Int) : Int)) rfl (by kernel_rfl) (by kernel_rfl) (by kernel_rfl) (ex_load rfl (by kernel_rfl) (ld3 ((hA.ext hE).cell (y := y) (by omega)))) ?_
      refine pl_take (.int .i64 (((Globe.rowN LA y : Nat) : Int) : Int)) rfl (by kernel_rfl) (by kernel_rfl) (by kernel_rfl) (by kernel_rfl) ?_
      refine pl_nil ?_
      refine qw_then ?_
      refine cw_seq ?_
      refine cw_seq ?_
      refine cw_plain ?_
      refine pl_take (.int .i64 0) rfl (by kernel_rfl) (by kernel_rfl) (by kernel_rfl) (by kernel_rfl) ?_
      refine pl_nil ?_
      refine qw_then ?_
      refine cw_block ?_
      refine cw_loop [1, 2, 3, 7, 8, 9] (fun ws' wr m => ∃ i : Nat, ws' = [(1, .slice a n cl), (2, .int .i64 (((S : Nat) : Int) : Int)), (3, .pointer (some ⟨O1, 0, none⟩)), (7, .int .i64 (((y : Nat) : Int) : Int)), (8, .int .i64 (((Globe.cvRow LA (ss.map fun s => s.1) S y i : Nat) : Int) : Int)), (9, .int .i64 (((i : Nat) : Int) : Int))] ∧ m = n - i ∧ w7.heap.size ≤ wr.heap.size ∧ Ext w wr ∧ Ext X2 wr ∧ i ≤ n) (ws0 := [(1, .slice a n cl), (2, .int .i64 (((S : Nat) : Int) : Int)), (3, .pointer (some ⟨O1, 0, none⟩)), (7, .int .i64 (((y : Nat) : Int) : Int)), (8, .int .i64 (((Globe.rowN LA y : Nat) : Int) : Int)), (9, .int .i64 0)]) (by kernel_rfl) _ ⟨0, rfl, rfl, Nat.le_refl _, hE, hX5, by omega⟩ ?_
      clear hE hX5
      rintro m18 L ws w17 ⟨i, rfl, rfl, hs16, hE, hX5, hi⟩
      by_cases hlt : i < n
      ·
        obtain ⟨sb, so, s, rfl, hs, hst⟩ := hS.at hlt
        obtain ⟨q1', q2', q3'⟩ := okS_at hok hs
        obtain ⟨S1, s1, e1, S2, s2, e2, d1, d2, g1, g2⟩ := hst.v q1' q2'
        have hsu : Globe.sureAt (ss.map fun s => s.1) i = s.1 := by unfold Globe.sureAt; rw [List.getElem?_map, hs]; rfl
        have hr1 := Globe.rowN_lt q1' y; have hr2 := Globe.cvRow_lt hA.2 (Ss := ss.map fun s => s.1) S y i
        refine cw_seq ?_
        refine cw_seq ?_
        refine cw_plain ?_
        refine pl_take (.int .i64 (((i : Nat) : Int) : Int)) rfl (by kernel_rfl) (by kernel_rfl) (by kernel_rfl) (by kernel_rfl) ?_
        refine pl_take (.slice (some ⟨sb, so, none⟩) n cl) rfl (by kernel_rfl) (by kernel_rfl) (by kernel_rfl) (by kernel_rfl) ?_
        refine pl_take (.int .i64 (((n : Nat) : Int) : Int)) rfl (by kernel_rfl) (by kernel_rfl) (by kernel_rfl) (by kernel_rfl) ?_
        refine pl_take (.bool true) rfl (by kernel_rfl) (by kernel_rfl) (by kernel_rfl) (ev_dec (show _ = Result.ok (Next.value (Value.bool (decide ((((i : Nat) : Int) : Int) < (((n : Nat) : Int) : Int))))) _ from by kernel_rfl) (by omega)) ?_
        refine pl_nil ?_
        refine qw_then ?_
        refine cw_t (by kernel_rfl) ?_
        refine cw_skip ?_
        refine qw_then ?_
        refine cw_seq ?_
        refine cw_block ?_
        refine cw_seq ?_
        refine cw_plain ?_
        refine pl_take (.int .i64 (((S : Nat) : Int) : Int)) rfl (by kernel_rfl) (by kernel_rfl) (by kernel_rfl) (by kernel_rfl) ?_
        refine pl_take (.int .i64 (((i : Nat) : Int) : Int)) rfl (by kernel_rfl) (by kernel_rfl) (by kernel_rfl) (by kernel_rfl) ?_
        refine pl_take (.int .i64 (((S / 2 ^ i : Nat) : Int) : Int)) rfl (by kernel_rfl) (by kernel_rfl) (by kernel_rfl) (ex_bin rfl (by kernel_rfl) (by kernel_rfl) (bin_shr (by omega))) ?_
        refine pl_take (.int .i64 ((((S / 2 ^ i) % 2 : Nat) : Int) : Int)) rfl (by kernel_rfl) (by kernel_rfl) (by kernel_rfl) (ex_bin (a := ((S / 2 ^ i : Nat) : Int)) (b := ((2 : Nat) : Int)) rfl (by kernel_rfl) (by kernel_rfl) (bin_rem (by omega))) ?_
        by_cases hc19 : ((((S / 2 ^ i) % 2 : Nat) : Int) : Int) = (1 : Int)
        ·
          refine pl_take (.bool true) rfl (by kernel_rfl) (by kernel_rfl) (by kernel_rfl) (ev_eq (show _ = Result.ok (Next.value (Value.bool (((((S / 2 ^ i) % 2 : Nat) : Int) : Int) == (1 : Int)))) _ from by kernel_rfl) (hc19)) ?_
          refine pl_nil ?_
          refine qw_then ?_
          refine cw_clean [1, 2, 3, 7, 8, 9, 29] (ws' := [(1, .slice (some ⟨sb, so, none⟩) n cl), (2, .int .i64 (((S : Nat) : Int) : Int)), (3, .pointer (some ⟨O1, 0, none⟩)), (7, .int .i64 (((y : Nat) : Int) : Int)), (8, .int .i64 (((Globe.cvRow LA (ss.map fun s => s.1) S y i : Nat) : Int) : Int)), (9, .int .i64 (((i : Nat) : Int) : Int)), (29, .bool true)]) (by kernel_rfl) (fun L => ?_)
          refine cw_t (by kernel_rfl) ?_
          refine cw_plain ?_
          refine pl_take (.int .i64 (((Globe.cvRow LA (ss.map fun s => s.1) S y i : Nat) : Int) : Int)) rfl (by kernel_rfl) (by kernel_rfl) (by kernel_rfl) (by kernel_rfl) ?_
          refine pl_take (.slice (some ⟨sb, so, none⟩) n cl) rfl (by kernel_rfl) (by kernel_rfl) (by kernel_rfl) (by kernel_rfl) ?_
          refine pl_take (.int .i64 (((i : Nat) : Int) : Int)) rfl (by kernel_rfl) (by kernel_rfl) (by kernel_rfl) (by kernel_rfl) ?_
          refine pl_take (.pointer (some ⟨sb, so + i * 2, none⟩)) rfl (by kernel_rfl) (by kernel_rfl) (by kernel_rfl) (ex_index (p := .slice (some ⟨sb, so, none⟩) n cl) (i := .int .i64 ((i : Nat) : Int)) rfl (by kernel_rfl) (by kernel_rfl) (ix26 (by omega))) ?_
          refine pl_take (.pointer (some ⟨sb, so + i * 2, none⟩)) rfl (by kernel_rfl) (by kernel_rfl) (by kernel_rfl) (by kernel_rfl) ?_
          refine pl_take (.pointer (some ⟨sb, so + i * 2, none⟩)) rfl (by kernel_rfl) (by kernel_rfl) (by kernel_rfl) (by kernel_rfl) ?_
          refine pl_take (.slice (some ⟨S1, s1, none⟩) 24 e1) rfl (by kernel_rfl) (by kernel_rfl) (by kernel_rfl) (ex_load rfl (by kernel_rfl) (ld23 ((hE.cell d1)))) ?_
          refine pl_take (.int .i64 (((y : Nat) : Int) : Int)) rfl (by kernel_rfl) (by kernel_rfl) (by kernel_rfl) (by kernel_rfl) ?_
          refine pl_take (.pointer (some ⟨S1, s1 + y, none⟩)) rfl (by kernel_rfl) (by kernel_rfl) (by kernel_rfl) (ex_index (p := .slice (some ⟨S1, s1, none⟩) 24 e1) (i := .int .i64 ((y : Nat) : Int)) rfl (by kernel_rfl) (by kernel_rfl) (ix23 (by omega))) ?_
          refine pl_take (.int .i64 (((Globe.rowN s.1 y : Nat) : Int) : Int)) rfl (by kernel_rfl) (by kernel_rfl) (by kernel_rfl) (ex_load rfl (by kernel_rfl) (ld3 ((g1.ext hE).cell (y := y) (by omega)))) ?_
          have hb : S.testBit i = true := Globe.bit_of_one (by have := hc19; omega)
          have hcv : Globe.lessN (Globe.cvRow LA (ss.map fun s => s.1) S y i) (Globe.rowN s.1 y) = Globe.cvRow LA (ss.map fun s => s.1) S y (i + 1) := by rw [Globe.cvRow, hb, hsu]; rfl
          refine pl_take (.int .i64 (((Globe.cvRow LA (ss.map fun s => s.1) S y (i + 1) : Nat) : Int) : Int)) rfl (by kernel_rfl) (by kernel_rfl) (by kernel_rfl) (ev_int (show _ = Result.ok (Next.value (Value.int .i64 (bits .andNot .i64 ((Globe.cvRow LA (ss.map fun s => s.1) S y i : Nat) : Int) ((Globe.rowN s.1 y : Nat) : Int)))) _ from by kernel_rfl) (by rw [less_i64 _ _ (by omega) (by omega), hcv])) ?_
          refine pl_take (.int .i64 (((Globe.cvRow LA (ss.map fun s => s.1) S y (i + 1) : Nat) : Int) : Int)) rfl (by kernel_rfl) (by kernel_rfl) (by kernel_rfl) (by kernel_rfl) ?_
          refine pl_nil ?_
          refine qw_block ?_
          refine qw_then ?_
          refine cw_clean [1, 2, 3, 7, 8, 9] (ws' := [(1, .slice (some ⟨sb, so, none⟩) n cl), (2, .int .i64 (((S : Nat) : Int) : Int)), (3, .pointer (some ⟨O1, 0, none⟩)), (7, .int .i64 (((y : Nat) : Int) : Int)), (8, .int .i64 (((Globe.cvRow LA (ss.map fun s => s.1) S y (i + 1) : Nat) : Int) : Int)), (9, .int .i64 (((i : Nat) : Int) : Int))]) (by kernel_rfl) (fun L => ?_)
          refine cw_plain ?_
          refine pl_take (.int .i64 (((i : Nat) : Int) : Int)) rfl (by kernel_rfl) (by kernel_rfl) (by kernel_rfl) (by kernel_rfl) ?_
          refine pl_take (.int .i64 (((i + 1 : Nat) : Int) : Int)) rfl (by kernel_rfl) (by kernel_rfl) (by kernel_rfl) (ev_wrap (by kernel_rfl) (by omega) (by omega)) ?_
          refine pl_take (.int .i64 (((i + 1 : Nat) : Int) : Int)) rfl (by kernel_rfl) (by kernel_rfl) (by kernel_rfl) (by kernel_rfl) ?_
          refine pl_nil ?_
          refine qw_round [1, 2, 3, 7, 8, 9] (ws' := [(1, .slice (some ⟨sb, so, none⟩) n cl), (2, .int .i64 (((S : Nat) : Int) : Int)), (3, .pointer (some ⟨O1, 0, none⟩)), (7, .int .i64 (((y : Nat) : Int) : Int)), (8, .int .i64 (((Globe.cvRow LA (ss.map fun s => s.1) S y (i + 1) : Nat) : Int) : Int)), (9, .int .i64 (((i + 1 : Nat) : Int) : Int))]) (by kernel_rfl) _ ?_ ⟨(i + 1), rfl, rfl, hs16, hE, hX5, by omega⟩
          omega
        ·
          refine pl_take (.bool false) rfl (by kernel_rfl) (by kernel_rfl) (by kernel_rfl) (ev_neq (show _ = Result.ok (Next.value (Value.bool (((((S / 2 ^ i) % 2 : Nat) : Int) : Int) == (1 : Int)))) _ from by kernel_rfl) (hc19)) ?_
          refine pl_nil ?_
          refine qw_then ?_
          refine cw_clean [1, 2, 3, 7, 8, 9, 29] (ws' := [(1, .slice (some ⟨sb, so, none⟩) n cl), (2, .int .i64 (((S : Nat) : Int) : Int)), (3, .pointer (some ⟨O1, 0, none⟩)), (7, .int .i64 (((y : Nat) : Int) : Int)), (8, .int .i64 (((Globe.cvRow LA (ss.map fun s => s.1) S y i : Nat) : Int) : Int)), (9, .int .i64 (((i : Nat) : Int) : Int)), (29, .bool false)]) (by kernel_rfl) (fun L => ?_)
          refine cw_f (by kernel_rfl) ?_
          refine cw_skip ?_
          refine qw_block ?_
          refine qw_then ?_
          refine cw_plain ?_
          refine pl_take (.int .i64 (((i : Nat) : Int) : Int)) rfl (by kernel_rfl) (by kernel_rfl) (by kernel_rfl) (by kernel_rfl) ?_
          refine pl_take (.int .i64 (((i + 1 : Nat) : Int) : Int)) rfl (by kernel_rfl) (by kernel_rfl) (by kernel_rfl) (ev_wrap (by kernel_rfl) (by omega) (by omega)) ?_
          refine pl_take (.int .i64 (((i + 1 : Nat) : Int) : Int)) rfl (by kernel_rfl) (by kernel_rfl) (by kernel_rfl) (by kernel_rfl) ?_
          refine pl_nil ?_
          have hb : S.testBit i = false := by cases hq : S.testBit i; rfl; rw [Globe.bit_one hq] at hc19; exact absurd rfl hc19
          refine qw_round [1, 2, 3, 7, 8, 9] (ws' := [(1, .slice (some ⟨sb, so, none⟩) n cl), (2, .int .i64 (((S : Nat) : Int) : Int)), (3, .pointer (some ⟨O1, 0, none⟩)), (7, .int .i64 (((y : Nat) : Int) : Int)), (8, .int .i64 (((Globe.cvRow LA (ss.map fun s => s.1) S y i : Nat) : Int) : Int)), (9, .int .i64 (((i + 1 : Nat) : Int) : Int))]) (by kernel_rfl) _ ?_ ⟨(i + 1), (by rw [show Globe.cvRow LA (ss.map fun s => s.1) S y (i + 1) = Globe.cvRow LA (ss.map fun s => s.1) S y i by rw [Globe.cvRow, hb]; rfl]), rfl, hs16, hE, hX5, by omega⟩
          omega
      ·
        have hin : i = n := by omega
        refine cw_seq ?_
        refine cw_seq ?_
        refine cw_plain ?_
        refine pl_take (.int .i64 (((i : Nat) : Int) : Int)) rfl (by kernel_rfl) (by kernel_rfl) (by kernel_rfl) (by kernel_rfl) ?_
        refine pl_take (.slice a n cl) rfl (by kernel_rfl) (by kernel_rfl) (by kernel_rfl) (by kernel_rfl) ?_
        refine pl_take (.int .i64 (((n : Nat) : Int) : Int)) rfl (by kernel_rfl) (by kernel_rfl) (by kernel_rfl) (by kernel_rfl) ?_
        refine pl_take (.bool false) rfl (by kernel_rfl) (by kernel_rfl) (by kernel_rfl) (ev_ndec (show _ = Result.ok (Next.value (Value.bool (decide ((((i : Nat) : Int) : Int) < (((n : Nat) : Int) : Int))))) _ from by kernel_rfl) (by omega)) ?_
        refine pl_nil ?_
        refine qw_then ?_
        refine cw_f (by kernel_rfl) ?_
        refine cw_exit ?_
        refine qw_then_exit ?_
        refine qw_then_exit ?_
        refine qw_block_out ?_
        refine qw_then ?_
        refine cw_seq ?_
        refine cw_plain ?_
        refine pl_take (.int .i64 (((Globe.cvRow LA (ss.map fun s => s.1) S y i : Nat) : Int) : Int)) rfl (by kernel_rfl) (by kernel_rfl) (by kernel_rfl) (by kernel_rfl) ?_
        by_cases hc20 : (((Globe.cvRow LA (ss.map fun s => s.1) S y i : Nat) : Int) : Int) = (0 : Int)
        ·
          refine pl_take (.bool false) rfl (by kernel_rfl) (by kernel_rfl) (by kernel_rfl) (ev_nne (show _ = Result.ok (Next.value (Value.bool ((((Globe.cvRow LA (ss.map fun s => s.1) S y i : Nat) : Int) : Int) != (0 : Int)))) _ from by kernel_rfl) (hc20)) ?_
          refine pl_nil ?_
          refine qw_then ?_
          refine cw_f (by kernel_rfl) ?_
          refine cw_skip ?_
          refine qw_block ?_
          refine qw_then ?_
          refine cw_plain ?_
          refine pl_take (.int .i64 (((y : Nat) : Int) : Int)) rfl (by kernel_rfl) (by kernel_rfl) (by kernel_rfl) (by kernel_rfl) ?_
          refine pl_take (.int .i64 (((y + 1 : Nat) : Int) : Int)) rfl (by kernel_rfl) (by kernel_rfl) (by kernel_rfl) (ev_wrap (by kernel_rfl) (by omega) (by omega)) ?_
          refine pl_take (.int .i64 (((y + 1 : Nat) : Int) : Int)) rfl (by kernel_rfl) (by kernel_rfl) (by kernel_rfl) (by kernel_rfl) ?_
          refine pl_nil ?_
          refine qw_round [1, 2, 3, 7] (ws' := [(1, .slice a n cl), (2, .int .i64 (((S : Nat) : Int) : Int)), (3, .pointer (some ⟨O1, 0, none⟩)), (7, .int .i64 (((y + 1 : Nat) : Int) : Int))]) (by kernel_rfl) _ ?_ ⟨(y + 1), rfl, rfl, (Nat.le_trans hs6 hs16), hE, hX5, by omega, (fun j hj => by rcases Nat.lt_or_ge j y with q | q; exact hall j q; rw [show j = y by omega, ← hin]; omega)⟩
          omega
        ·
          refine pl_take (.bool true) rfl (by kernel_rfl) (by kernel_rfl) (by kernel_rfl) (ev_ne (show _ = Result.ok (Next.value (Value.bool ((((Globe.cvRow LA (ss.map fun s => s.1) S y i : Nat) : Int) : Int) != (0 : Int)))) _ from by kernel_rfl) (hc20)) ?_
          refine pl_nil ?_
          refine qw_then ?_
          refine cw_t (by kernel_rfl) ?_
          refine cw_seq ?_
          refine cw_plain ?_
          refine pl_take (.bool false) rfl (by kernel_rfl) (by kernel_rfl) (by kernel_rfl) (by kernel_rfl) ?_
          refine pl_nil ?_
          refine qw_then ?_
          refine cw_ret ?_
          refine qw_block_ret ?_
          refine qw_then_ret ?_
          refine qw_then_ret ?_
          refine qw_block_ret ?_
          refine qw_then_ret ?_
          refine qw_ret [.bool false] rfl ⟨(by kernel_rfl), trivial⟩ ?_
          exact ⟨by rw [Globe.covers_no (y := y) (by omega) (by rw [hin] at hc20; intro e; rw [e] at hc20; exact hc20 rfl)]; rfl, hE⟩
    ·
      refine pl_take (.bool false) rfl (by kernel_rfl) (by kernel_rfl) (by kernel_rfl) (ev_ndec (show _ = Result.ok (Next.value (Value.bool (decide ((((y : Nat) : Int) : Int) < (24 : Int))))) _ from by kernel_rfl) (hc15)) ?_
      refine pl_nil ?_
      refine qw_then ?_
      refine cw_f (by kernel_rfl) ?_
      refine cw_exit ?_
      refine qw_then_exit ?_
      refine qw_then_exit ?_
      refine qw_block_out ?_
      refine qw_then ?_
      refine cw_seq ?_
      refine cw_plain ?_
      refine pl_take (.bool true) rfl (by kernel_rfl) (by kernel_rfl) (by kernel_rfl) (by kernel_rfl) ?_
      refine pl_nil ?_
      refine qw_then ?_
      refine cw_ret ?_
      refine qw_ret [.bool true] rfl ⟨(by kernel_rfl), trivial⟩ ?_
      exact ⟨by rw [Globe.covers_yes (fun j hj => hall j (by omega))]; rfl, hE⟩
theorem Covers_r {w1 w2 : World} {b o : Nat} (c cl : Nat) {LA : List Int} {a : Option Addr} {n : Nat} {ss : List (List Int × List Int)} {S : Nat} {r : Bool} (w : World) (hl : VA w1 b o LA) (e1 : Ext w1 w) (h : StripsAt w2 a n ss) (e2 : Ext w2 w) (hok : Globe.stripsOk ss = true) (hn : n ≤ 12) (hr : Globe.coversB LA (ss.map fun s => s.1) S n = r) :
    Calls Tryd.prog 30 #[.agg #[.slice (some ⟨b, o, none⟩) 24 c], .slice a n cl, .int .i64 (S : Int)] w fun e w' => e = .returned (.bool r) ∧ Ext w w' := hr ▸ Covers_c c cl w hl e1 h e2 hok hn

end Go.Proofs.YtglfoglkdbbmmaaDoor

/- The walk of the law CoverFewest. -/
namespace Go.Proofs.YtglfoglkdbbmmaaDoor
open Go.RowKit Go.Shelf

namespace Globe
theorem bits_succ (S i : Nat) : (bitsL S (i + 1)).length = (bitsL S i).length + S / 2 ^ i % 2 := by
  unfold bitsL
  rw [List.range_succ, List.filter_append, List.length_append, testBit_div]
  cases h : S.testBit i <;> simp [h]
theorem bits_len (S i : Nat) : (bitsL S i).length ≤ i := by
  have := List.length_filter_le (fun i => S.testBit i) (List.range i)
  rw [List.length_range] at this; exact this
def chS (ss : List (List Int × List Int)) (l : List Nat) : List (List Int × List Int) := l.map fun j => (ss[j]?).getD ([], [])
theorem chS_snoc {ss : List (List Int × List Int)} {few : List Nat} {i D : Nat} {s : List Int × List Int} (hD : few[i]? = some D) (hs : ss[D]? = some s) : chS ss (few.take (i + 1)) = chS ss (few.take i) ++ [s] := by
  unfold chS; rw [take_snoc' hD, List.map_append]; simp [hs]
theorem chS_fst (ss : List (List Int × List Int)) (l : List Nat) : (chS ss l).map (fun s => s.1) = l.map (sureAt (ss.map fun s => s.1)) := by
  unfold chS; rw [List.map_map]
  refine List.map_congr_left fun j _ => ?_
  unfold sureAt; rw [List.getElem?_map]
  cases h : ss[j]? <;> simp [h]
theorem chS_ok {ss : List (List Int × List Int)} {l : List Nat} {n : Nat} (h : stripsOk ss = true) (ha : asc n 0 l) (hl : l.length ≤ ss.length) (hn : ss.length = n) : stripsOk (chS ss l) = true := by
  obtain ⟨h1, h2⟩ := stripsOk_t.1 h
  refine stripsOk_t.2 ⟨by unfold chS; rw [List.length_map]; omega, fun s hs => ?_⟩
  unfold chS at hs
  obtain ⟨j, hj, rfl⟩ := List.mem_map.1 hs
  have hlt : j < ss.length := by rw [hn]; exact asc_lt ha j hj
  rw [List.getElem?_eq_getElem hlt]
  exact h2 _ (List.getElem_mem _)
end Globe
theorem nat_beq_zero (n : Nat) : ((n : Int) == 0) = decide (n = 0) := by cases n <;> rfl
theorem check_self {LA : List Int} {ss : List (List Int × List Int)} (h : Globe.validL LA = true) (hok : Globe.stripsOk ss = true) (h0 : (Globe.cellsTo (Globe.leftL LA (ss.map fun s => s.1)) 24).length = 0) : checkB LA ss (Globe.piecesL LA (ss.map fun s => s.1)) = true := by
  unfold checkB
  rw [Globe.check_own _ h (sures_ok hok), h, hok, h0, Globe.pieces_len]; simp
theorem ints_at {w : World} {a : Option Addr} {l : List Nat} (h : IntsAt w a (intsN l)) (hl : 0 < l.length) : ∃ b o, a = some ⟨b, o, none⟩ ∧ ∀ (i D : Nat), l[i]? = some D → w.cell? ⟨b, o + i, none⟩ = some (.int .i64 (D : Int)) := by
  rcases h with h | ⟨b, o, rfl, h⟩
  · have := congrArg List.length h; simp [intsN] at this; rw [this] at hl; simp at hl
  · refine ⟨b, o, rfl, fun i D hD => ?_⟩
    have hi := (List.getElem?_eq_some_iff.1 hD).1
    rw [h i (by simpa [intsN] using hi), Globe.nth_lt (by simpa [intsN] using hi)]
    obtain ⟨h1, h2⟩ := List.getElem?_eq_some_iff.1 hD
    simp [intsN, h2]
set_option maxRecDepth 1000000 in
set_option maxHeartbeats 4000000 in
theorem CoverFewest_walk (w : World) (v0 : Value) (o0 : Quads w v0) (v1 : Value) (o1 : Quads w v1) (i2 : Int) (hi2 : IsI i2) (hT : Tab w) :
    Calls Tryd.prog 5 #[v0, v1, .int .i64 i2] w fun e w' => e = .returned (.bool true) ∧ Ext w w' := by
  obtain ⟨a0, n0, c0, q0, rfl, hnc0, hcm0, hz0, Q0⟩ := o0
  obtain ⟨a1, n1, c1, q1, rfl, hnc1, hcm1, hz1, Q1⟩ := o1
  refine calls_cw 186 [(2, .int .i64 (i2 : Int)), (1, .slice a1 n1 c1), (0, .slice a0 n0 c0)] Tryd.func5 rfl Tryd.ntmps5 (by kernel_rfl) (by kernel_rfl) (fun L => ?_)
  have hE : Ext w w := Ext.refl w
  refine cw_seq ?_
  refine cw_plain ?_
  refine pl_take (.bool false) rfl (by kernel_rfl) (by kernel_rfl) (by kernel_rfl) (by kernel_rfl) ?_
  refine pl_nil ?_
  refine qw_then ?_
  refine cw_seq ?_
  refine cw_seq ?_
  refine cw_plain ?_
  refine pl_step rfl (by kernel_rfl) (by kernel_rfl) (by kernel_rfl) (sn_call (f := 10) (args := #[]) (by kernel_rfl) ((sane_c _ (hT.ext hE)).mono ?_))
  rintro e w1 ⟨rfl, hb⟩
  replace hE := hE.trans hb
  have hs2 := hb.size
  clear hb
  refine ⟨_, rfl, ?_⟩
  refine pl_take (.bool false) rfl (by kernel_rfl) (by kernel_rfl) (by kernel_rfl) (by kernel_rfl) ?_
  refine pl_nil ?_
  refine qw_then ?_
  refine cw_f (by kernel_rfl) ?_
  refine cw_skip ?_
  refine qw_then ?_
  refine cw_seq ?_
  refine cw_plain ?_
  refine pl_take (.slice a0 n0 c0) rfl (by kernel_rfl) (by kernel_rfl) (by kernel_rfl) (by kernel_rfl) ?_
  refine pl_step rfl (by kernel_rfl) (by kernel_rfl) (by kernel_rfl) (sn_call (f := 11) (args := #[.slice a0 n0 c0]) (by kernel_rfl) ((Area_c _ _ Q0 hE (by omega)).mono ?_))
  rintro e w7 ⟨B3, k4, rfl, hn6, v5, hb⟩
  replace hE := hE.trans hb
  have hs8 := hb.size
  clear hb
  have lt9 := v5.lt
  refine ⟨_, rfl, ?_⟩
  refine pl_step rfl (by kernel_rfl) (by kernel_rfl) (by kernel_rfl) (sn_new (us := #[.slice none 0 0]) (t := 25) (by kernel_rfl) ?_)
  intro O10 X11 hO hOs hb hbx
  have hzO10 := hO; have hyO10 := hOs; clear hO hOs
  have bO10_0 : BoxAt X11 O10 0 (.slice none 0 0) := hbx 0 _ rfl
  clear hbx
  replace hE := hE.trans hb
  replace v5 := v5.ext hb
  have hs12 := hb.size
  clear hb
  have lt13 := bO10_0.lt
  refine pl_put rfl (by kernel_rfl) (by kernel_rfl) (sn_set (O := O10) (j := 0) (v := .slice (some ⟨B3, 0, none⟩) 24 k4) (ex_store (p := .pointer (some ⟨O10, 0, none⟩)) (v := .agg #[.slice (some ⟨B3, 0, none⟩) 24 k4]) rfl (by kernel_rfl) (by kernel_rfl) (st25 bO10_0.1 bO10_0.2)) bO10_0 ?_)
  intro X14 ho hv0 hk
  replace hE := ho.ext hE (Nat.le_trans (Nat.le_trans hs2 hs8) (Nat.le_of_eq hzO10))
  replace v5 := ho.va (Nat.ne_of_gt (Nat.lt_of_lt_of_le lt9 (Nat.le_of_eq hzO10))) v5
  have hs15 : X11.heap.size ≤ X14.heap.size := Nat.le_of_eq ho.size.symm
  clear ho hk bO10_0
  have bO10_0 := hv0; clear hv0
  refine pl_nil ?_
  refine qw_then ?_
  refine cw_seq ?_
  refine cw_plain ?_
  refine pl_take (.slice a1 n1 c1) rfl (by kernel_rfl) (by kernel_rfl) (by kernel_rfl) (by kernel_rfl) ?_
  refine pl_step rfl (by kernel_rfl) (by kernel_rfl) (by kernel_rfl) (sn_call (f := 12) (args := #[.slice a1 n1 c1]) (by kernel_rfl) ((Strips_s _ Q1 hE (by omega) (by omega)).mono ?_))
  rintro e w23 ⟨ss16, t17, la18, lc19, rfl, sS20, hok21, ht22, hb⟩
  replace hE := hE.trans hb
  replace v5 := v5.ext hb
  replace bO10_0 := BoxAt.ext hb bO10_0
  have hs24 := hb.size
  clear hb
  have hX25 : Ext w23 w23 := Ext.refl _
  refine ⟨_, rfl, ?_⟩
  refine pl_take (.slice la18 t17 lc19) rfl (by kernel_rfl) (by kernel_rfl) (by kernel_rfl) (by kernel_rfl) ?_
  refine pl_nil ?_
  refine qw_then ?_
  refine cw_seq ?_
  obtain ⟨r, hr⟩ : ∃ r, Globe.fewestL (Globe.enough (areaL q0 n0) (ss16.map fun s => s.1)) t17 = r := ⟨_, rfl⟩
  have hlen : (ss16.map fun s => s.1).length = t17 := by rw [List.length_map]; exact sS20.1
  have hsome : r.isSome = decide ((Globe.cellsTo (Globe.leftL (areaL q0 n0) (ss16.map fun s => s.1)) 24).length = 0) := by rw [← hr, ← hlen]; exact Globe.fewest_isSome v5.2
  refine cw_plain ?_
  refine pl_take (.agg #[.slice (some ⟨B3, 0, none⟩) 24 k4]) rfl (by kernel_rfl) (by kernel_rfl) (by kernel_rfl) (ex_load rfl (by kernel_rfl) (ld25 (bO10_0.1))) ?_
  refine pl_take (.slice la18 t17 lc19) rfl (by kernel_rfl) (by kernel_rfl) (by kernel_rfl) (by kernel_rfl) ?_
  refine pl_step rfl (by kernel_rfl) (by kernel_rfl) (by kernel_rfl) (sn_call (f := 25) (args := #[.agg #[.slice (some ⟨B3, 0, none⟩) 24 k4], .slice la18 t17 lc19]) (by kernel_rfl) ((Fewest_r (r := r) _ _ _ v5 (Ext.refl _) sS20 (Ext.refl _) hok21 (by omega) (hT.ext hE) (hr)).mono ?_))
  rintro e w29 ⟨fa26, fc27, rfl, hi28, hb⟩
  replace hE := hE.trans hb
  replace hX25 := hX25.trans hb
  replace v5 := v5.ext hb
  replace bO10_0 := BoxAt.ext hb bO10_0
  have hs30 := hb.size
  clear hb
  have hX31 : Ext w29 w29 := Ext.refl _
  refine ⟨_, rfl, ?_⟩
  refine pl_take (.tuple #[.slice fa26 ((r.getD []).length) fc27, .bool r.isSome, .int .i64 0]) rfl (by kernel_rfl) (by kernel_rfl) (by kernel_rfl) (by kernel_rfl) ?_
  refine pl_take (.slice fa26 ((r.getD []).length) fc27) rfl (by kernel_rfl) (by kernel_rfl) (by kernel_rfl) (by kernel_rfl) ?_
  refine pl_take (.bool r.isSome) rfl (by kernel_rfl) (by kernel_rfl) (by kernel_rfl) (by kernel_rfl) ?_
  refine pl_take (.int .i64 0) rfl (by kernel_rfl) (by kernel_rfl) (by kernel_rfl) (by kernel_rfl) ?_
  refine pl_take (.slice fa26 ((r.getD []).length) fc27) rfl (by kernel_rfl) (by kernel_rfl) (by kernel_rfl) (by kernel_rfl) ?_
  refine pl_take (.bool r.isSome) rfl (by kernel_rfl) (by kernel_rfl) (by kernel_rfl) (by kernel_rfl) ?_
  refine pl_take (.int .i64 0) rfl (by kernel_rfl) (by kernel_rfl) (by kernel_rfl) (by kernel_rfl) ?_
  refine pl_nil ?_
  refine qw_then ?_
  refine cw_clean [2, 7, 8, 9, 10, 11] (ws' := [(2, .int .i64 (i2 : Int)), (7, .pointer (some ⟨O10, 0, none⟩)), (8, .slice la18 t17 lc19), (9, .slice fa26 ((r.getD []).length) fc27), (10, .bool r.isSome), (11, .int .i64 0)]) (by kernel_rfl) (fun L => ?_)
  refine cw_seq ?_
  refine cw_plain ?_
  refine pl_take (.agg #[.slice (some ⟨B3, 0, none⟩) 24 k4]) rfl (by kernel_rfl) (by kernel_rfl) (by kernel_rfl) (ex_load rfl (by kernel_rfl) (ld25 (bO10_0.1))) ?_
  refine pl_take (.slice la18 t17 lc19) rfl (by kernel_rfl) (by kernel_rfl) (by kernel_rfl) (by kernel_rfl) ?_
  refine pl_step rfl (by kernel_rfl) (by kernel_rfl) (by kernel_rfl) (sn_call (f := 15) (args := #[.agg #[.slice (some ⟨B3, 0, none⟩) 24 k4], .slice la18 t17 lc19]) (by kernel_rfl) ((Uncovered_v _ _ _ v5 (Ext.refl _) sS20 hX25 hok21).mono ?_))
  rintro e w42 ⟨B32, o33, k34, B35, o36, k37, rfl, v38, v39, hn40, hn41, hb⟩
  replace hE := hE.trans hb
  replace hX25 := hX25.trans hb
  replace hX31 := hX31.trans hb
  replace v5 := v5.ext hb
  replace bO10_0 := BoxAt.ext hb bO10_0
  have hs43 := hb.size
  clear hb
  have lt44 := v38.lt
  have lt45 := v39.lt
  refine ⟨_, rfl, ?_⟩
  refine pl_take (.tuple #[.agg #[.slice (some ⟨B32, o33, none⟩) 24 k34], .agg #[.slice (some ⟨B35, o36, none⟩) 24 k37], .int .i64 0]) rfl (by kernel_rfl) (by kernel_rfl) (by kernel_rfl) (by kernel_rfl) ?_
  refine pl_take (.agg #[.slice (some ⟨B32, o33, none⟩) 24 k34]) rfl (by kernel_rfl) (by kernel_rfl) (by kernel_rfl) (by kernel_rfl) ?_
  refine pl_take (.agg #[.slice (some ⟨B35, o36, none⟩) 24 k37]) rfl (by kernel_rfl) (by kernel_rfl) (by kernel_rfl) (by kernel_rfl) ?_
  refine pl_take (.int .i64 0) rfl (by kernel_rfl) (by kernel_rfl) (by kernel_rfl) (by kernel_rfl) ?_
  refine pl_step rfl (by kernel_rfl) (by kernel_rfl) (by kernel_rfl) (sn_new (us := #[.slice none 0 0]) (t := 25) (by kernel_rfl) ?_)
  intro O46 X47 hO hOs hb hbx
  have hzO46 := hO; have hyO46 := hOs; clear hO hOs
  have bO46_0 : BoxAt X47 O46 0 (.slice none 0 0) := hbx 0 _ rfl
  clear hbx
  replace hE := hE.trans hb
  replace hX25 := hX25.trans hb
  replace hX31 := hX31.trans hb
  replace v5 := v5.ext hb
  replace bO10_0 := BoxAt.ext hb bO10_0
  replace v38 := v38.ext hb
  replace v39 := v39.ext hb
  have hs48 := hb.size
  clear hb
  have lt49 := bO46_0.lt
  refine pl_step rfl (by kernel_rfl) (by kernel_rfl) (by kernel_rfl) (sn_new (us := #[.slice none 0 0]) (t := 25) (by kernel_rfl) ?_)
  intro O50 X51 hO hOs hb hbx
  have hzO50 := hO; have hyO50 := hOs; clear hO hOs
  have bO50_0 : BoxAt X51 O50 0 (.slice none 0 0) := hbx 0 _ rfl
  clear hbx
  replace hE := hE.trans hb
  replace hX25 := hX25.trans hb
  replace hX31 := hX31.trans hb
  replace v5 := v5.ext hb
  replace bO10_0 := BoxAt.ext hb bO10_0
  replace v38 := v38.ext hb
  replace v39 := v39.ext hb
  replace bO46_0 := BoxAt.ext hb bO46_0
  have hs52 := hb.size
  clear hb
  have lt53 := bO50_0.lt
  refine pl_put rfl (by kernel_rfl) (by kernel_rfl) (sn_set (O := O46) (j := 0) (v := .slice (some ⟨B32, o33, none⟩) 24 k34) (ex_store (p := .pointer (some ⟨O46, 0, none⟩)) (v := .agg #[.slice (some ⟨B32, o33, none⟩) 24 k34]) rfl (by kernel_rfl) (by kernel_rfl) (st25 bO46_0.1 bO46_0.2)) bO46_0 ?_)
  intro X54 ho hv0 hk
  replace hE := ho.ext hE (Nat.le_trans (Nat.le_trans hs2 (Nat.le_trans hs8 (Nat.le_trans hs12 (Nat.le_trans hs15 (Nat.le_trans hs24 (Nat.le_trans hs30 hs43)))))) (Nat.le_of_eq hzO46))
  replace hX25 := ho.ext hX25 (Nat.le_trans (Nat.le_trans hs30 hs43) (Nat.le_of_eq hzO46))
  replace hX31 := ho.ext hX31 (Nat.le_trans hs43 (Nat.le_of_eq hzO46))
  replace v5 := ho.va (Nat.ne_of_gt (Nat.lt_of_lt_of_le lt9 (Nat.le_trans (Nat.le_trans hs12 (Nat.le_trans hs15 (Nat.le_trans hs24 (Nat.le_trans hs30 hs43)))) (Nat.le_of_eq hzO46)))) v5
  replace bO10_0 := ho.box (Nat.ne_of_gt (Nat.lt_of_lt_of_le lt13 (Nat.le_trans (Nat.le_trans hs15 (Nat.le_trans hs24 (Nat.le_trans hs30 hs43))) (Nat.le_of_eq hzO46)))) bO10_0
  replace v38 := ho.va (Nat.ne_of_gt (Nat.lt_of_lt_of_le lt44 (Nat.le_of_eq hzO46))) v38
  replace v39 := ho.va (Nat.ne_of_gt (Nat.lt_of_lt_of_le lt45 (Nat.le_of_eq hzO46))) v39
  replace bO50_0 := ho.box (Nat.ne_of_lt (Nat.lt_of_lt_of_le lt49 (Nat.le_of_eq hzO50))) bO50_0
  have hs55 : X51.heap.size ≤ X54.heap.size := Nat.le_of_eq ho.size.symm
  clear ho hk bO46_0
  have bO46_0 := hv0; clear hv0
  refine pl_put rfl (by kernel_rfl) (by kernel_rfl) (sn_set (O := O50) (j := 0) (v := .slice (some ⟨B35, o36, none⟩) 24 k37) (ex_store (p := .pointer (some ⟨O50, 0, none⟩)) (v := .agg #[.slice (some ⟨B35, o36, none⟩) 24 k37]) rfl (by kernel_rfl) (by kernel_rfl) (st25 bO50_0.1 bO50_0.2)) bO50_0 ?_)
  intro X56 ho hv0 hk
  replace hE := ho.ext hE (Nat.le_trans (Nat.le_trans hs2 (Nat.le_trans hs8 (Nat.le_trans hs12 (Nat.le_trans hs15 (Nat.le_trans hs24 (Nat.le_trans hs30 (Nat.le_trans hs43 hs48))))))) (Nat.le_of_eq hzO50))
  replace hX25 := ho.ext hX25 (Nat.le_trans (Nat.le_trans hs30 (Nat.le_trans hs43 hs48)) (Nat.le_of_eq hzO50))
  replace hX31 := ho.ext hX31 (Nat.le_trans (Nat.le_trans hs43 hs48) (Nat.le_of_eq hzO50))
  replace v5 := ho.va (Nat.ne_of_gt (Nat.lt_of_lt_of_le lt9 (Nat.le_trans (Nat.le_trans hs12 (Nat.le_trans hs15 (Nat.le_trans hs24 (Nat.le_trans hs30 (Nat.le_trans hs43 hs48))))) (Nat.le_of_eq hzO50)))) v5
  replace bO10_0 := ho.box (Nat.ne_of_gt (Nat.lt_of_lt_of_le lt13 (Nat.le_trans (Nat.le_trans hs15 (Nat.le_trans hs24 (Nat.le_trans hs30 (Nat.le_trans hs43 hs48)))) (Nat.le_of_eq hzO50)))) bO10_0
  replace v38 := ho.va (Nat.ne_of_gt (Nat.lt_of_lt_of_le lt44 (Nat.le_trans hs48 (Nat.le_of_eq hzO50)))) v38
  replace v39 := ho.va (Nat.ne_of_gt (Nat.lt_of_lt_of_le lt45 (Nat.le_trans hs48 (Nat.le_of_eq hzO50)))) v39
  replace bO46_0 := ho.box (Nat.ne_of_gt (Nat.lt_of_lt_of_le lt49 (Nat.le_of_eq hzO50))) bO46_0
  have hs57 : X54.heap.size ≤ X56.heap.size := Nat.le_of_eq ho.size.symm
  clear ho hk bO50_0
  have bO50_0 := hv0; clear hv0
  refine pl_take (.int .i64 0) rfl (by kernel_rfl) (by kernel_rfl) (by kernel_rfl) (by kernel_rfl) ?_
  refine pl_nil ?_
  refine qw_then ?_
  refine cw_clean [2, 7, 8, 9, 10, 11, 13, 14] (ws' := [(2, .int .i64 (i2 : Int)), (7, .pointer (some ⟨O10, 0, none⟩)), (8, .slice la18 t17 lc19), (9, .slice fa26 ((r.getD []).length) fc27), (10, .bool r.isSome), (11, .int .i64 0), (13, .pointer (some ⟨O50, 0, none⟩)), (14, .int .i64 0)]) (by kernel_rfl) (fun L => ?_)
  refine cw_seq ?_
  refine cw_seq ?_
  refine cw_plain ?_
  refine pl_take (.int .i64 0) rfl (by kernel_rfl) (by kernel_rfl) (by kernel_rfl) (by kernel_rfl) ?_
  refine pl_take (.bool false) rfl (by kernel_rfl) (by kernel_rfl) (by kernel_rfl) (by kernel_rfl) ?_
  refine pl_take (.bool false) rfl (by kernel_rfl) (by kernel_rfl) (by kernel_rfl) (by kernel_rfl) ?_
  refine pl_take (.int .i64 0) rfl (by kernel_rfl) (by kernel_rfl) (by kernel_rfl) (by kernel_rfl) ?_
  refine pl_take (.bool false) rfl (by kernel_rfl) (by kernel_rfl) (by kernel_rfl) (by kernel_rfl) ?_
  refine pl_take (.bool false) rfl (by kernel_rfl) (by kernel_rfl) (by kernel_rfl) (by kernel_rfl) ?_
  refine pl_take (.bool false) rfl (by kernel_rfl) (by kernel_rfl) (by kernel_rfl) (by kernel_rfl) ?_
  refine pl_take (.bool r.isSome) rfl (by kernel_rfl) (by kernel_rfl) (by kernel_rfl) (by kernel_rfl) ?_
  refine pl_take (.agg #[.slice (some ⟨B35, o36, none⟩) 24 k37]) rfl (by kernel_rfl) (by kernel_rfl) (by kernel_rfl) (ex_load rfl (by kernel_rfl) (ld25 (bO50_0.1))) ?_
  refine pl_step rfl (by kernel_rfl) (by kernel_rfl) (by kernel_rfl) (sn_call (f := 29) (args := #[.agg #[.slice (some ⟨B35, o36, none⟩) 24 k37]]) (by kernel_rfl) ((Count_v _ _ v39 (Ext.refl _) (hT.ext hE)).mono ?_))
  rintro e w58 ⟨rfl, hb⟩
  replace hE := hE.trans hb
  replace hX25 := hX25.trans hb
  replace hX31 := hX31.trans hb
  replace v5 := v5.ext hb
  replace bO10_0 := BoxAt.ext hb bO10_0
  replace v38 := v38.ext hb
  replace v39 := v39.ext hb
  replace bO46_0 := BoxAt.ext hb bO46_0
  replace bO50_0 := BoxAt.ext hb bO50_0
  have hs59 := hb.size
  clear hb
  refine ⟨_, rfl, ?_⟩
  refine pl_take (.bool r.isSome) rfl (by kernel_rfl) (by kernel_rfl) (by kernel_rfl) (ev_bool (show _ = Result.ok (Next.value (Value.bool ((((Globe.cellsTo (Globe.leftL (areaL q0 n0) (ss16.map fun s => s.1)) 24).length : Nat) : Int) == 0))) _ from by kernel_rfl) (by rw [hsome]; exact nat_beq_zero _)) ?_
  refine pl_take (.bool false) rfl (by kernel_rfl) (by kernel_rfl) (by kernel_rfl) (ev_bool (show _ = Result.ok (Next.value (Value.bool (r.isSome != r.isSome))) _ from by kernel_rfl) (by simp)) ?_
  refine pl_take (.bool false) rfl (by kernel_rfl) (by kernel_rfl) (by kernel_rfl) (by kernel_rfl) ?_
  refine pl_nil ?_
  refine qw_then ?_
  refine cw_clean [2, 7, 8, 9, 10, 57] (ws' := [(2, .int .i64 (i2 : Int)), (7, .pointer (some ⟨O10, 0, none⟩)), (8, .slice la18 t17 lc19), (9, .slice fa26 ((r.getD []).length) fc27), (10, .bool r.isSome), (57, .bool false)]) (by kernel_rfl) (fun L => ?_)
  refine cw_f (by kernel_rfl) ?_
  refine cw_skip ?_
  refine qw_then ?_
  refine cw_seq ?_
  have hp1 : 2 ^ t17 ≤ 2 ^ 9 := Nat.pow_le_pow_right (by decide) (by omega)
  have hp0 : 0 < 2 ^ t17 := Nat.pow_pos (by decide)
  refine cw_plain ?_
  refine pl_take (.int .i64 (i2 : Int)) rfl (by kernel_rfl) (by kernel_rfl) (by kernel_rfl) (by kernel_rfl) ?_
  refine pl_take (.slice la18 t17 lc19) rfl (by kernel_rfl) (by kernel_rfl) (by kernel_rfl) (by kernel_rfl) ?_
  refine pl_take (.int .i64 (((t17 : Nat) : Int) : Int)) rfl (by kernel_rfl) (by kernel_rfl) (by kernel_rfl) (by kernel_rfl) ?_
  refine pl_take (.int .i64 (((2 ^ t17 : Nat) : Int) : Int)) rfl (by kernel_rfl) (by kernel_rfl) (by kernel_rfl) (ex_bin rfl (by kernel_rfl) (by kernel_rfl) (bin_shl1 (by omega))) ?_
  refine pl_step rfl (by kernel_rfl) (by kernel_rfl) (by kernel_rfl) (sn_call (f := 14) (args := #[.int .i64 (i2 : Int), .int .i64 (((2 ^ t17 : Nat) : Int) : Int)]) (by kernel_rfl) ((pickN_c _ (2 ^ t17) _ hi2 (by omega) (by omega)).mono ?_))
  rintro e w' ⟨kk, rfl, kkl, kkp, rfl⟩
  refine ⟨_, rfl, ?_⟩
  refine pl_take (.int .i64 (((kk : Nat) : Int) : Int)) rfl (by kernel_rfl) (by kernel_rfl) (by kernel_rfl) (by kernel_rfl) ?_
  refine pl_nil ?_
  refine qw_then ?_
  refine cw_seq ?_
  refine cw_plain ?_
  refine pl_take (.int .i64 0) rfl (by kernel_rfl) (by kernel_rfl) (by kernel_rfl) (by kernel_rfl) ?_
  refine pl_nil ?_
  refine qw_then ?_
  refine cw_seq ?_
  refine cw_seq ?_
  refine cw_plain ?_
  refine pl_take (.int .i64 0) rfl (by kernel_rfl) (by kernel_rfl) (by kernel_rfl) (by kernel_rfl) ?_
  refine pl_nil ?_
  refine qw_then ?_
  refine cw_block ?_
  have hX60 : Ext w58 w58 := Ext.refl _
  refine cw_loop [7, 8, 9, 10, 15, 16, 17] (fun ws' wr m => ∃ p : Nat, ws' = [(7, .pointer (some ⟨O10, 0, none⟩)), (8, .slice la18 t17 lc19), (9, .slice fa26 ((r.getD []).length) fc27), (10, .bool r.isSome), (15, .int .i64 (((kk : Nat) : Int) : Int)), (16, .int .i64 ((((Globe.bitsL kk p).length : Nat) : Int) : Int)), (17, .int .i64 (((p : Nat) : Int) : Int))] ∧ m = t17 - p ∧ w58.heap.size ≤ wr.heap.size ∧ Ext w wr ∧ Ext w23 wr ∧ Ext w29 wr ∧ Ext w58 wr ∧ p ≤ t17) (ws0 := [(7, .pointer (some ⟨O10, 0, none⟩)), (8, .slice la18 t17 lc19), (9, .slice fa26 ((r.getD []).length) fc27), (10, .bool r.isSome), (15, .int .i64 (((kk : Nat) : Int) : Int)), (16, .int .i64 0), (17, .int .i64 0)]) (by kernel_rfl) _ ⟨0, rfl, rfl, Nat.le_refl _, hE, hX25, hX31, hX60, by omega⟩ ?_
  clear hE hX25 hX31 hX60
  rintro m63 L ws w62 ⟨p, rfl, rfl, hs61, hE, hX25, hX31, hX60, hp⟩
  by_cases hlt : p < t17
  ·
    have hbl := Globe.bits_len kk p
    refine cw_seq ?_
    refine cw_seq ?_
    refine cw_plain ?_
    refine pl_take (.int .i64 (((p : Nat) : Int) : Int)) rfl (by kernel_rfl) (by kernel_rfl) (by kernel_rfl) (by kernel_rfl) ?_
    refine pl_take (.slice la18 t17 lc19) rfl (by kernel_rfl) (by kernel_rfl) (by kernel_rfl) (by kernel_rfl) ?_
    refine pl_take (.int .i64 (((t17 : Nat) : Int) : Int)) rfl (by kernel_rfl) (by kernel_rfl) (by kernel_rfl) (by kernel_rfl) ?_
    refine pl_take (.bool true) rfl (by kernel_rfl) (by kernel_rfl) (by kernel_rfl) (ev_dec (show _ = Result.ok (Next.value (Value.bool (decide ((((p : Nat) : Int) : Int) < (((t17 : Nat) : Int) : Int))))) _ from by kernel_rfl) (by omega)) ?_
    refine pl_nil ?_
    refine qw_then ?_
    refine cw_t (by kernel_rfl) ?_
    refine cw_skip ?_
    refine qw_then ?_
    refine cw_seq ?_
    refine cw_block ?_
    refine cw_plain ?_
    refine pl_take (.int .i64 ((((Globe.bitsL kk p).length : Nat) : Int) : Int)) rfl (by kernel_rfl) (by kernel_rfl) (by kernel_rfl) (by kernel_rfl) ?_
    refine pl_take (.int .i64 (((kk : Nat) : Int) : Int)) rfl (by kernel_rfl) (by kernel_rfl) (by kernel_rfl) (by kernel_rfl) ?_
    refine pl_take (.int .i64 (((p : Nat) : Int) : Int)) rfl (by kernel_rfl) (by kernel_rfl) (by kernel_rfl) (by kernel_rfl) ?_
    refine pl_take (.int .i64 (((kk / 2 ^ p : Nat) : Int) : Int)) rfl (by kernel_rfl) (by kernel_rfl) (by kernel_rfl) (ex_bin rfl (by kernel_rfl) (by kernel_rfl) (bin_shr (by omega))) ?_
    refine pl_take (.int .i64 ((((kk / 2 ^ p) % 2 : Nat) : Int) : Int)) rfl (by kernel_rfl) (by kernel_rfl) (by kernel_rfl) (ex_bin (a := ((kk / 2 ^ p : Nat) : Int)) (b := ((2 : Nat) : Int)) rfl (by kernel_rfl) (by kernel_rfl) (bin_rem (by omega))) ?_
    refine pl_take (.int .i64 (((((Globe.bitsL kk p).length) + ((kk / 2 ^ p) % 2) : Nat) : Int) : Int)) rfl (by kernel_rfl) (by kernel_rfl) (by kernel_rfl) (ev_wrap (by kernel_rfl) (by omega) (by omega)) ?_
    refine pl_take (.int .i64 (((((Globe.bitsL kk p).length) + ((kk / 2 ^ p) % 2) : Nat) : Int) : Int)) rfl (by kernel_rfl) (by kernel_rfl) (by kernel_rfl) (by kernel_rfl) ?_
    refine pl_nil ?_
    refine qw_block ?_
    refine qw_then ?_
    refine cw_clean [7, 8, 9, 10, 15, 16, 17] (ws' := [(7, .pointer (some ⟨O10, 0, none⟩)), (8, .slice la18 t17 lc19), (9, .slice fa26 ((r.getD []).length) fc27), (10, .bool r.isSome), (15, .int .i64 (((kk : Nat) : Int) : Int)), (16, .int .i64 (((((Globe.bitsL kk p).length) + ((kk / 2 ^ p) % 2) : Nat) : Int) : Int)), (17, .int .i64 (((p : Nat) : Int) : Int))]) (by kernel_rfl) (fun L => ?_)
    refine cw_plain ?_
    refine pl_take (.int .i64 (((p : Nat) : Int) : Int)) rfl (by kernel_rfl) (by kernel_rfl) (by kernel_rfl) (by kernel_rfl) ?_
    refine pl_take (.int .i64 (((p + 1 : Nat) : Int) : Int)) rfl (by kernel_rfl) (by kernel_rfl) (by kernel_rfl) (ev_wrap (by kernel_rfl) (by omega) (by omega)) ?_
    refine pl_take (.int .i64 (((p + 1 : Nat) : Int) : Int)) rfl (by kernel_rfl) (by kernel_rfl) (by kernel_rfl) (by kernel_rfl) ?_
    refine pl_nil ?_
    refine qw_round [7, 8, 9, 10, 15, 16, 17] (ws' := [(7, .pointer (some ⟨O10, 0, none⟩)), (8, .slice la18 t17 lc19), (9, .slice fa26 ((r.getD []).length) fc27), (10, .bool r.isSome), (15, .int .i64 (((kk : Nat) : Int) : Int)), (16, .int .i64 (((((Globe.bitsL kk p).length) + ((kk / 2 ^ p) % 2) : Nat) : Int) : Int)), (17, .int .i64 (((p + 1 : Nat) : Int) : Int))]) (by kernel_rfl) _ ?_ ⟨(p + 1), (by rw [Globe.bits_succ]), rfl, hs61, hE, hX25, hX31, hX60, by omega⟩
    omega
  ·
    have hit0 : p = t17 := by omega
    refine cw_seq ?_
    refine cw_seq ?_
    refine cw_plain ?_
    refine pl_take (.int .i64 (((p : Nat) : Int) : Int)) rfl (by kernel_rfl) (by kernel_rfl) (by kernel_rfl) (by kernel_rfl) ?_
    refine pl_take (.slice la18 t17 lc19) rfl (by kernel_rfl) (by kernel_rfl) (by kernel_rfl) (by kernel_rfl) ?_
    refine pl_take (.int .i64 (((t17 : Nat) : Int) : Int)) rfl (by kernel_rfl) (by kernel_rfl) (by kernel_rfl) (by kernel_rfl) ?_
    refine pl_take (.bool false) rfl (by kernel_rfl) (by kernel_rfl) (by kernel_rfl) (ev_ndec (show _ = Result.ok (Next.value (Value.bool (decide ((((p : Nat) : Int) : Int) < (((t17 : Nat) : Int) : Int))))) _ from by kernel_rfl) (by omega)) ?_
    refine pl_nil ?_
    refine qw_then ?_
    refine cw_f (by kernel_rfl) ?_
    refine cw_exit ?_
    refine qw_then_exit ?_
    refine qw_then_exit ?_
    refine qw_block_out ?_
    refine qw_then ?_
    refine cw_seq ?_
    refine cw_seq ?_
    rcases r with _ | few
    ·
      have hcv : Globe.coversB (areaL q0 n0) (ss16.map fun s => s.1) kk t17 = false := by rw [Globe.covers_enough v5.2]; exact Globe.fewest_none hr _ (Globe.bits_asc _ _)
      refine cw_plain ?_
      refine pl_take (.bool false) rfl (by kernel_rfl) (by kernel_rfl) (by kernel_rfl) (by kernel_rfl) ?_
      refine pl_take (.bool true) rfl (by kernel_rfl) (by kernel_rfl) (by kernel_rfl) (by kernel_rfl) ?_
      refine pl_nil ?_
      refine qw_then ?_
      refine cw_t (by kernel_rfl) ?_
      refine cw_seq ?_
      refine cw_plain ?_
      refine pl_take (.slice fa26 0 fc27) rfl (by kernel_rfl) (by kernel_rfl) (by kernel_rfl) (by kernel_rfl) ?_
      refine pl_take (.int .i64 0) rfl (by kernel_rfl) (by kernel_rfl) (by kernel_rfl) (by kernel_rfl) ?_
      refine pl_take (.bool true) rfl (by kernel_rfl) (by kernel_rfl) (by kernel_rfl) (by kernel_rfl) ?_
      refine pl_take (.bool true) rfl (by kernel_rfl) (by kernel_rfl) (by kernel_rfl) (by kernel_rfl) ?_
      refine pl_take (.agg #[.slice (some ⟨B3, 0, none⟩) 24 k4]) rfl (by kernel_rfl) (by kernel_rfl) (by kernel_rfl) (ex_load rfl (by kernel_rfl) (ld25 ((BoxAt.ext hX60 bO10_0).1))) ?_
      refine pl_take (.slice la18 t17 lc19) rfl (by kernel_rfl) (by kernel_rfl) (by kernel_rfl) (by kernel_rfl) ?_
      refine pl_take (.int .i64 (((kk : Nat) : Int) : Int)) rfl (by kernel_rfl) (by kernel_rfl) (by kernel_rfl) (by kernel_rfl) ?_
      refine pl_step rfl (by kernel_rfl) (by kernel_rfl) (by kernel_rfl) (sn_call (f := 30) (args := #[.agg #[.slice (some ⟨B3, 0, none⟩) 24 k4], .slice la18 t17 lc19, .int .i64 (((kk : Nat) : Int) : Int)]) (by kernel_rfl) ((Covers_r (r := false) _ _ _ (v5.ext hX60) (Ext.refl _) sS20 hX25 hok21 (by omega) hcv).mono ?_))
      rintro e w64 ⟨rfl, hb⟩
      replace hE := hE.trans hb
      replace hX25 := hX25.trans hb
      replace hX31 := hX31.trans hb
      replace hX60 := hX60.trans hb
      have hs65 := hb.size
      clear hb
      refine ⟨_, rfl, ?_⟩
      refine pl_take (.bool true) rfl (by kernel_rfl) (by kernel_rfl) (by kernel_rfl) (by kernel_rfl) ?_
      refine pl_take (.bool true) rfl (by kernel_rfl) (by kernel_rfl) (by kernel_rfl) (by kernel_rfl) ?_
      refine pl_take (.bool true) rfl (by kernel_rfl) (by kernel_rfl) (by kernel_rfl) (by kernel_rfl) ?_
      refine pl_nil ?_
      refine qw_then ?_
      refine cw_clean [6] (ws' := [(6, .bool true)]) (by kernel_rfl) (fun L => ?_)
      refine cw_ret ?_
      refine qw_then_ret ?_
      refine qw_ret [.bool true] rfl ⟨(by kernel_rfl), trivial⟩ ?_
      exact ⟨rfl, hE⟩
    ·
      obtain ⟨f1, f2, f3, f4⟩ := Globe.fewest_some hr
      refine cw_plain ?_
      refine pl_take (.bool true) rfl (by kernel_rfl) (by kernel_rfl) (by kernel_rfl) (by kernel_rfl) ?_
      refine pl_take (.bool false) rfl (by kernel_rfl) (by kernel_rfl) (by kernel_rfl) (by kernel_rfl) ?_
      refine pl_nil ?_
      refine qw_then ?_
      refine cw_f (by kernel_rfl) ?_
      refine cw_skip ?_
      refine qw_then ?_
      refine cw_seq ?_
      refine cw_plain ?_
      refine pl_take (.slice none 0 0) rfl (by kernel_rfl) (by kernel_rfl) (by kernel_rfl) (by kernel_rfl) ?_
      refine pl_nil ?_
      refine qw_then ?_
      refine cw_seq ?_
      refine cw_seq ?_
      refine cw_plain ?_
      refine pl_take (.int .i64 0) rfl (by kernel_rfl) (by kernel_rfl) (by kernel_rfl) (by kernel_rfl) ?_
      refine pl_nil ?_
      refine qw_then ?_
      refine cw_clean [7, 8, 9, 15, 16, 18, 19] (ws' := [(7, .pointer (some ⟨O10, 0, none⟩)), (8, .slice la18 t17 lc19), (9, .slice fa26 few.length fc27), (15, .int .i64 (((kk : Nat) : Int) : Int)), (16, .int .i64 ((((Globe.bitsL kk p).length : Nat) : Int) : Int)), (18, .slice none 0 0), (19, .int .i64 0)]) (by kernel_rfl) (fun L => ?_)
      refine cw_block ?_
      have hX66 : Ext w62 w62 := Ext.refl _
      have hlen0 : ∀ i, i ≤ few.length → (Globe.chS ss16 (few.take i)).length = i := fun i hi => by unfold Globe.chS; rw [List.length_map, List.length_take]; omega
      refine cw_loop [7, 8, 9, 15, 16, 18, 19] (fun ws' wr m => ∃ a9 : Option Addr, ∃ i : Nat, ∃ c9 : Nat, ws' = [(7, .pointer (some ⟨O10, 0, none⟩)), (8, .slice la18 t17 lc19), (9, .slice fa26 few.length fc27), (15, .int .i64 (((kk : Nat) : Int) : Int)), (16, .int .i64 ((((Globe.bitsL kk p).length : Nat) : Int) : Int)), (18, .slice a9 i c9), (19, .int .i64 (((i : Nat) : Int) : Int))] ∧ m = few.length - i ∧ w62.heap.size ≤ wr.heap.size ∧ Ext w wr ∧ Ext w23 wr ∧ Ext w29 wr ∧ Ext w58 wr ∧ Ext w62 wr ∧ OwnL stripR w62.heap.size 28 2 (.slice a9 i c9) wr (Globe.chS ss16 (few.take i)) ∧ i ≤ few.length) (ws0 := [(7, .pointer (some ⟨O10, 0, none⟩)), (8, .slice la18 t17 lc19), (9, .slice fa26 few.length fc27), (15, .int .i64 (((kk : Nat) : Int) : Int)), (16, .int .i64 ((((Globe.bitsL kk p).length : Nat) : Int) : Int)), (18, .slice none 0 0), (19, .int .i64 0)]) (by kernel_rfl) _ ⟨none, 0, 0, rfl, rfl, Nat.le_refl _, hE, hX25, hX31, hX60, hX66, OwnL.nil _ _ _ _ _, by omega⟩ ?_
      clear hE hX25 hX31 hX60 hX66
      rintro m69 L ws w68 ⟨a9, i, c9, rfl, rfl, hs67, hE, hX25, hX31, hX60, hX66, own9, hi⟩
      have hX70 : Ext w68 w68 := Ext.refl _
      have hlen9 := hlen0 i hi
      have hbk := own9.lt
      have hnb := own9.base
      by_cases hlt : i < few.length
      ·
        obtain ⟨D, hD⟩ : ∃ D, few[i]? = some D := ⟨_, List.getElem?_eq_getElem hlt⟩
        have hDt : D < t17 := Globe.asc_lt f2 D (List.mem_of_getElem? hD)
        obtain ⟨fb, fo, rfl, hF⟩ := ints_at hi28 (by omega : 0 < few.length)
        have fc0 := hF i D hD
        have hneed := Globe.fewest_needs v5.2 (ss := (ss16.map fun s => s.1)) (by rw [hlen]; exact hr) hlt
        rw [show few[i] = D from Option.some.inj ((List.getElem?_eq_getElem hlt).symm.trans hD)] at hneed
        obtain ⟨sb, so, s, rfl, hs, hst⟩ := sS20.at hDt
        obtain ⟨q1', q2', q3'⟩ := okS_at hok21 hs
        obtain ⟨S1, s1, e1, S2, s2, e2, d1, d2, g1, g2⟩ := hst.v q1' q2'
        have hsu : Globe.sureAt (ss16.map fun s => s.1) D = s.1 := by unfold Globe.sureAt; rw [List.getElem?_map, hs]; rfl
        rw [hsu] at hneed
        have lg1 := g1.lt; have lg2 := g2.lt
        refine cw_seq ?_
        refine cw_seq ?_
        refine cw_plain ?_
        refine pl_take (.int .i64 (((i : Nat) : Int) : Int)) rfl (by kernel_rfl) (by kernel_rfl) (by kernel_rfl) (by kernel_rfl) ?_
        refine pl_take (.slice (some ⟨fb, fo, none⟩) few.length fc27) rfl (by kernel_rfl) (by kernel_rfl) (by kernel_rfl) (by kernel_rfl) ?_
        refine pl_take (.int .i64 (((few.length : Nat) : Int) : Int)) rfl (by kernel_rfl) (by kernel_rfl) (by kernel_rfl) (by kernel_rfl) ?_
        refine pl_take (.bool true) rfl (by kernel_rfl) (by kernel_rfl) (by kernel_rfl) (ev_dec (show _ = Result.ok (Next.value (Value.bool (decide ((((i : Nat) : Int) : Int) < (((few.length : Nat) : Int) : Int))))) _ from by kernel_rfl) (by omega)) ?_
        refine pl_nil ?_
        refine qw_then ?_
        refine cw_t (by kernel_rfl) ?_
        refine cw_skip ?_
        refine qw_then ?_
        refine cw_seq ?_
        refine cw_block ?_
        refine cw_seq ?_
        refine cw_seq ?_
        rcases Nat.eq_zero_or_pos i with h0 | h0
        ·
          refine cw_draw [(some 93, [9], []), (some 94, [19], []), (some 95, [93, 94], [0, 1]), (some 96, [95], [2]), (some 97, [96], [3]), (some 98, [97], [4]), (some 99, [9, 98], [5]), (some 100, [19, 98], [5]), (some 101, [99, 100, 98], [6, 7, 5]), (some 102, [101, 98], [8, 5]), (some 103, [8, 98], [5]), (some 104, [103, 98], [10, 5]), (some 105, [102, 104, 98], [9, 11, 5]), (some 106, [98, 105], [5, 12]), (some 107, [106], [13, 5]), (some 108, [19, 107], [14]), (some 109, [108, 107], [15, 14]), (some 110, [109, 107], [16, 14, 14]), (some 111, [9, 110], [17]), (some 112, [19, 110], [17]), (some 113, [111, 112, 110], [18, 19, 17]), (some 114, [113, 110], [20, 17]), (some 115, [9, 110], [17]), (some 116, [19, 110], [17]), (some 117, [116, 110], [23, 17]), (some 118, [115, 117, 110], [22, 24, 17]), (some 119, [118, 110], [25, 17]), (some 120, [114, 119, 110], [21, 26, 17]), (some 121, [110, 120, 107], [17, 27, 14]), (some 122, [107, 121], [14, 28])] (fun w' => w'.cell? ⟨fb, fo + i, none⟩ = some (.int .i64 (((D : Nat) : Int) : Int))) (by kernel_rfl) (by kernel_rfl) (by kernel_rfl) (by kernel_rfl) ((calm_then (calm_then (calm_block (calm_then (calm_then (calm_block (calm_then calm_body)))))))) ((hX31.cell fc0)) (fun ops Q X71 hb hL hR hK => ?_)
          replace hE := hE.trans hb
          replace hX25 := hX25.trans hb
          replace hX31 := hX31.trans hb
          replace hX60 := hX60.trans hb
          replace hX66 := hX66.trans hb
          replace hX70 := hX70.trans hb
          have hs72 := hb.size
          clear hb
          refine wd_take 0 (.slice (some ⟨fb, fo, none⟩) few.length fc27) hR rfl (by kernel_rfl) rfl (by kernel_rfl) (fun w _ => by kernel_rfl) ((hX31.cell fc0)) ?_
          refine wd_take 1 (.int .i64 (((i : Nat) : Int) : Int)) hR rfl (by kernel_rfl) rfl (by kernel_rfl) (fun w _ => by kernel_rfl) ((hX31.cell fc0)) ?_
          refine wd_take 2 (.pointer (some ⟨fb, fo + i, none⟩)) hR rfl (by kernel_rfl) rfl (by kernel_rfl) (fun w _ => ex_index (p := .slice (some ⟨fb, fo, none⟩) few.length fc27) (i := .int .i64 ((i : Nat) : Int)) rfl (by kernel_rfl) (by kernel_rfl) (ix23 (by omega))) ((hX31.cell fc0)) ?_
          refine wd_take 3 (.int .i64 (((D : Nat) : Int) : Int)) hR rfl (by kernel_rfl) rfl (by kernel_rfl) (fun w hS => ex_load rfl (by kernel_rfl) (ld3 (hS))) ((hX31.cell fc0)) ?_
          refine wd_take 4 (.bool false) hR rfl (by kernel_rfl) rfl (by kernel_rfl) (fun w _ => ev_ndec (show _ = Result.ok (Next.value (Value.bool (decide ((((D : Nat) : Int) : Int) < (0 : Int))))) _ from by kernel_rfl) (by omega)) ((hX31.cell fc0)) ?_
          refine wd_take 5 (.bool false) hR rfl (by kernel_rfl) rfl (by kernel_rfl) (fun w _ => by kernel_rfl) ((hX31.cell fc0)) ?_
          refine wd_take 6 (.slice (some ⟨fb, fo, none⟩) few.length fc27) hR rfl (by kernel_rfl) rfl (by kernel_rfl) (fun w _ => by kernel_rfl) ((hX31.cell fc0)) ?_
          refine wd_take 7 (.int .i64 (((i : Nat) : Int) : Int)) hR rfl (by kernel_rfl) rfl (by kernel_rfl) (fun w _ => by kernel_rfl) ((hX31.cell fc0)) ?_
          refine wd_take 8 (.pointer (some ⟨fb, fo + i, none⟩)) hR rfl (by kernel_rfl) rfl (by kernel_rfl) (fun w _ => ex_index (p := .slice (some ⟨fb, fo, none⟩) few.length fc27) (i := .int .i64 ((i : Nat) : Int)) rfl (by kernel_rfl) (by kernel_rfl) (ix23 (by omega))) ((hX31.cell fc0)) ?_
          refine wd_take 9 (.int .i64 (((D : Nat) : Int) : Int)) hR rfl (by kernel_rfl) rfl (by kernel_rfl) (fun w hS => ex_load rfl (by kernel_rfl) (ld3 (hS))) ((hX31.cell fc0)) ?_
          refine wd_take 10 (.slice (some ⟨sb, so, none⟩) t17 lc19) hR rfl (by kernel_rfl) rfl (by kernel_rfl) (fun w _ => by kernel_rfl) ((hX31.cell fc0)) ?_
          refine wd_take 11 (.int .i64 (((t17 : Nat) : Int) : Int)) hR rfl (by kernel_rfl) rfl (by kernel_rfl) (fun w _ => by kernel_rfl) ((hX31.cell fc0)) ?_
          refine wd_take 12 (.bool false) hR rfl (by kernel_rfl) rfl (by kernel_rfl) (fun w _ => ev_ndec (show _ = Result.ok (Next.value (Value.bool (decide ((((D : Nat) : Int) : Int) ≥ (((t17 : Nat) : Int) : Int))))) _ from by kernel_rfl) (by omega)) ((hX31.cell fc0)) ?_
          refine wd_take 13 (.bool false) hR rfl (by kernel_rfl) rfl (by kernel_rfl) (fun w _ => by kernel_rfl) ((hX31.cell fc0)) ?_
          refine wd_take 14 (.bool false) hR rfl (by kernel_rfl) rfl (by kernel_rfl) (fun w _ => by kernel_rfl) ((hX31.cell fc0)) ?_
          refine wd_take 15 (.int .i64 (((i : Nat) : Int) : Int)) hR rfl (by kernel_rfl) rfl (by kernel_rfl) (fun w _ => by kernel_rfl) ((hX31.cell fc0)) ?_
          refine wd_take 16 (.bool false) hR rfl (by kernel_rfl) rfl (by kernel_rfl) (fun w _ => ev_ndec (show _ = Result.ok (Next.value (Value.bool (decide ((((i : Nat) : Int) : Int) > (0 : Int))))) _ from by kernel_rfl) (by omega)) ((hX31.cell fc0)) ?_
          refine wd_take 17 (.bool false) hR rfl (by kernel_rfl) rfl (by kernel_rfl) (fun w _ => by kernel_rfl) ((hX31.cell fc0)) ?_
          refine wd_skip 18 hR rfl (by kernel_rfl) rfl (by kernel_rfl) ((hX31.cell fc0)) ?_
          refine wd_skip 19 hR rfl (by kernel_rfl) rfl (by kernel_rfl) ((hX31.cell fc0)) ?_
          refine wd_skip 20 hR rfl (by kernel_rfl) rfl (by kernel_rfl) ((hX31.cell fc0)) ?_
          refine wd_skip 21 hR rfl (by kernel_rfl) rfl (by kernel_rfl) ((hX31.cell fc0)) ?_
          refine wd_skip 22 hR rfl (by kernel_rfl) rfl (by kernel_rfl) ((hX31.cell fc0)) ?_
          refine wd_skip 23 hR rfl (by kernel_rfl) rfl (by kernel_rfl) ((hX31.cell fc0)) ?_
          refine wd_skip 24 hR rfl (by kernel_rfl) rfl (by kernel_rfl) ((hX31.cell fc0)) ?_
          refine wd_skip 25 hR rfl (by kernel_rfl) rfl (by kernel_rfl) ((hX31.cell fc0)) ?_
          refine wd_skip 26 hR rfl (by kernel_rfl) rfl (by kernel_rfl) ((hX31.cell fc0)) ?_
          refine wd_skip 27 hR rfl (by kernel_rfl) rfl (by kernel_rfl) ((hX31.cell fc0)) ?_
          refine wd_take 28 (.bool false) hR rfl (by kernel_rfl) rfl (by kernel_rfl) (fun w _ => by kernel_rfl) ((hX31.cell fc0)) ?_
          refine wd_take 29 (.bool false) hR rfl (by kernel_rfl) rfl (by kernel_rfl) (fun w _ => by kernel_rfl) ((hX31.cell fc0)) ?_
          refine wd_end hL hR hK (by kernel_rfl) ?_
          refine qw_then ?_
          refine cw_clean [7, 8, 9, 15, 16, 18, 19, 122] (ws' := [(7, .pointer (some ⟨O10, 0, none⟩)), (8, .slice (some ⟨sb, so, none⟩) t17 lc19), (9, .slice (some ⟨fb, fo, none⟩) few.length fc27), (15, .int .i64 (((kk : Nat) : Int) : Int)), (16, .int .i64 ((((Globe.bitsL kk p).length : Nat) : Int) : Int)), (18, .slice a9 i c9), (19, .int .i64 (((i : Nat) : Int) : Int)), (122, .bool false)]) (by kernel_rfl) (fun L => ?_)
          refine cw_f (by kernel_rfl) ?_
          refine cw_skip ?_
          refine qw_then ?_
          refine cw_seq ?_
          refine cw_join (fun ws' Y => ∃ B75 : Nat, ∃ k76 : Nat, ∃ O82 : Nat, ws' = [(7, .pointer (some ⟨O10, 0, none⟩)), (8, .slice (some ⟨sb, so, none⟩) t17 lc19), (9, .slice (some ⟨fb, fo, none⟩) few.length fc27), (15, .int .i64 (((kk : Nat) : Int) : Int)), (16, .int .i64 ((((Globe.bitsL kk p).length : Nat) : Int) : Int)), (18, .slice a9 i c9), (19, .int .i64 (((i : Nat) : Int) : Int)), (20, .pointer (some ⟨O82, 0, none⟩)), (21, .int .i64 0)] ∧ Ext w Y ∧ Ext w23 Y ∧ Ext w29 Y ∧ Ext w58 Y ∧ Ext w62 Y ∧ Ext w68 Y ∧ VA Y B75 0 (Globe.meetL (areaL q0 n0) s.1) ∧ BoxAt Y O82 0 (.slice (some ⟨B75, 0, none⟩) 24 k76) ∧ X71.heap.size ≤ Y.heap.size ∧ X71.heap.size ≤ B75 ∧ X71.heap.size ≤ O82 ∧ Hid (B75 ≠ O82)) (fun hJ => ?_) ?_
          ·
            refine cw_draw [(some 124, [7], []), (some 125, [8], []), (some 126, [9], []), (some 127, [19], []), (some 128, [126, 127], [2, 3]), (some 129, [128], [4]), (some 130, [125, 129], [1, 5]), (some 131, [130], [6]), (some 132, [131], [7]), (some 133, [124, 132], [0, 8]), (some 123, [133], [9]), (some 134, [123], [10]), (some 135, [123], [10]), (some 20, [], []), (none, [20, 134], [13, 11, 9, 0, 1, 2, 3, 4, 5, 6, 7, 8, 9, 10, 11, 13]), (some 21, [135], [12, 14, 0, 1, 2, 3, 4, 5, 6, 7, 8, 9, 10, 11, 12, 13, 14])] (fun w' => w'.cell? ⟨O10, 0, none⟩ = some (.slice (some ⟨B3, 0, none⟩) 24 k4) ∧ w'.cell? ⟨fb, fo + i, none⟩ = some (.int .i64 (((D : Nat) : Int) : Int)) ∧ w'.cell? ⟨sb, so + D * 2, none⟩ = some (.slice (some ⟨S1, s1, none⟩) 24 e1)) (by kernel_rfl) (by kernel_rfl) (by kernel_rfl) (by kernel_rfl) ((calm_then (calm_block (calm_then (calm_then (calm_block (calm_then calm_body))))))) (⟨(BoxAt.ext hX60 bO10_0).1, (hX31.cell fc0), (hX25.cell d1)⟩) (fun ops Q X73 hb hL hR hK => ?_)
            replace hE := hE.trans hb
            replace hX25 := hX25.trans hb
            replace hX31 := hX31.trans hb
            replace hX60 := hX60.trans hb
            replace hX66 := hX66.trans hb
            replace hX70 := hX70.trans hb
            have hs74 := hb.size
            clear hb
            refine wd_take 0 (.agg #[.slice (some ⟨B3, 0, none⟩) 24 k4]) hR rfl (by kernel_rfl) rfl (by kernel_rfl) (fun w hS => ex_load rfl (by kernel_rfl) (ld25 (hS.1))) (⟨(BoxAt.ext hX60 bO10_0).1, (hX31.cell fc0), (hX25.cell d1)⟩) ?_
            refine wd_take 1 (.slice (some ⟨sb, so, none⟩) t17 lc19) hR rfl (by kernel_rfl) rfl (by kernel_rfl) (fun w _ => by kernel_rfl) (⟨(BoxAt.ext hX60 bO10_0).1, (hX31.cell fc0), (hX25.cell d1)⟩) ?_
            refine wd_take 2 (.slice (some ⟨fb, fo, none⟩) few.length fc27) hR rfl (by kernel_rfl) rfl (by kernel_rfl) (fun w _ => by kernel_rfl) (⟨(BoxAt.ext hX60 bO10_0).1, (hX31.cell fc0), (hX25.cell d1)⟩) ?_
            refine wd_take 3 (.int .i64 (((i : Nat) : Int) : Int)) hR rfl (by kernel_rfl) rfl (by kernel_rfl) (fun w _ => by kernel_rfl) (⟨(BoxAt.ext hX60 bO10_0).1, (hX31.cell fc0), (hX25.cell d1)⟩) ?_
            refine wd_take 4 (.pointer (some ⟨fb, fo + i, none⟩)) hR rfl (by kernel_rfl) rfl (by kernel_rfl) (fun w _ => ex_index (p := .slice (some ⟨fb, fo, none⟩) few.length fc27) (i := .int .i64 ((i : Nat) : Int)) rfl (by kernel_rfl) (by kernel_rfl) (ix23 (by omega))) (⟨(BoxAt.ext hX60 bO10_0).1, (hX31.cell fc0), (hX25.cell d1)⟩) ?_
            refine wd_take 5 (.int .i64 (((D : Nat) : Int) : Int)) hR rfl (by kernel_rfl) rfl (by kernel_rfl) (fun w hS => ex_load rfl (by kernel_rfl) (ld3 (hS.2.1))) (⟨(BoxAt.ext hX60 bO10_0).1, (hX31.cell fc0), (hX25.cell d1)⟩) ?_
            refine wd_take 6 (.pointer (some ⟨sb, so + D * 2, none⟩)) hR rfl (by kernel_rfl) rfl (by kernel_rfl) (fun w _ => ex_index (p := .slice (some ⟨sb, so, none⟩) t17 lc19) (i := .int .i64 ((D : Nat) : Int)) rfl (by kernel_rfl) (by kernel_rfl) (ix26 (by omega))) (⟨(BoxAt.ext hX60 bO10_0).1, (hX31.cell fc0), (hX25.cell d1)⟩) ?_
            refine wd_take 7 (.pointer (some ⟨sb, so + D * 2, none⟩)) hR rfl (by kernel_rfl) rfl (by kernel_rfl) (fun w _ => by kernel_rfl) (⟨(BoxAt.ext hX60 bO10_0).1, (hX31.cell fc0), (hX25.cell d1)⟩) ?_
            refine wd_take 8 (.agg #[.slice (some ⟨S1, s1, none⟩) 24 e1]) hR rfl (by kernel_rfl) rfl (by kernel_rfl) (fun w hS => ex_load rfl (by kernel_rfl) (ld25 (hS.2.2))) (⟨(BoxAt.ext hX60 bO10_0).1, (hX31.cell fc0), (hX25.cell d1)⟩) ?_
            refine wd_two 9 13 hR rfl rfl (by kernel_rfl) (by kernel_rfl) (by kernel_rfl) (by kernel_rfl) ?_ ?_
            ·
              refine sn_call (f := 28) (args := #[.agg #[.slice (some ⟨B3, 0, none⟩) 24 k4], .agg #[.slice (some ⟨S1, s1, none⟩) 24 e1]]) (by kernel_rfl) ((Meet_v _ _ _ (v5.ext hX60) (Ext.refl _) (g1.ext hX25) (Ext.refl _)).mono ?_)
              rintro e w79 ⟨B75, k76, rfl, hn78, -, v77, hb⟩
              replace hE := hE.trans hb
              replace hX25 := hX25.trans hb
              replace hX31 := hX31.trans hb
              replace hX60 := hX60.trans hb
              replace hX66 := hX66.trans hb
              replace hX70 := hX70.trans hb
              have hs80 := hb.size
              clear hb
              have lt81 := v77.lt
              refine ⟨_, rfl, ⟨(BoxAt.ext hX60 bO10_0).1, (hX31.cell fc0), (hX25.cell d1)⟩, ?_⟩
              refine wd_take 10 (.tuple #[.agg #[.slice (some ⟨B75, 0, none⟩) 24 k76], .int .i64 0]) hR rfl (by kernel_rfl) rfl (by kernel_rfl) (fun w _ => by kernel_rfl) (⟨(BoxAt.ext hX60 bO10_0).1, (hX31.cell fc0), (hX25.cell d1)⟩) ?_
              refine wd_take 11 (.agg #[.slice (some ⟨B75, 0, none⟩) 24 k76]) hR rfl (by kernel_rfl) rfl (by kernel_rfl) (fun w _ => by kernel_rfl) (⟨(BoxAt.ext hX60 bO10_0).1, (hX31.cell fc0), (hX25.cell d1)⟩) ?_
              refine wd_take 12 (.int .i64 0) hR rfl (by kernel_rfl) rfl (by kernel_rfl) (fun w _ => by kernel_rfl) (⟨(BoxAt.ext hX60 bO10_0).1, (hX31.cell fc0), (hX25.cell d1)⟩) ?_
              refine wd_step 13 hR rfl (by kernel_rfl) (by kernel_rfl) (by kernel_rfl) (sn_new (us := #[.slice none 0 0]) (t := 25) (by kernel_rfl) ?_)
              intro O82 X83 hO hOs hb hbx
              have hzO82 := hO; have hyO82 := hOs; clear hO hOs
              have bO82_0 : BoxAt X83 O82 0 (.slice none 0 0) := hbx 0 _ rfl
              clear hbx
              replace hE := hE.trans hb
              replace hX25 := hX25.trans hb
              replace hX31 := hX31.trans hb
              replace hX60 := hX60.trans hb
              replace hX66 := hX66.trans hb
              replace hX70 := hX70.trans hb
              replace v77 := v77.ext hb
              have hs84 := hb.size
              clear hb
              have lt85 := bO82_0.lt
              refine ⟨⟨(BoxAt.ext hX60 bO10_0).1, (hX31.cell fc0), (hX25.cell d1)⟩, ?_⟩
              refine wd_step 14 hR rfl (by kernel_rfl) (by kernel_rfl) (by kernel_rfl) (sn_set (O := O82) (j := 0) (v := .slice (some ⟨B75, 0, none⟩) 24 k76) (ex_store (p := .pointer (some ⟨O82, 0, none⟩)) (v := .agg #[.slice (some ⟨B75, 0, none⟩) 24 k76]) rfl (by kernel_rfl) (by kernel_rfl) (st25 bO82_0.1 bO82_0.2)) bO82_0 ?_)
              intro X86 ho hv0 hk
              replace hE := ho.ext hE (Nat.le_trans (Nat.le_trans hs2 (Nat.le_trans hs8 (Nat.le_trans hs12 (Nat.le_trans hs15 (Nat.le_trans hs24 (Nat.le_trans hs30 (Nat.le_trans hs43 (Nat.le_trans hs48 (Nat.le_trans hs52 (Nat.le_trans hs55 (Nat.le_trans hs57 (Nat.le_trans hs59 (Nat.le_trans hs61 (Nat.le_trans hs67 (Nat.le_trans hs72 (Nat.le_trans hs74 hs80)))))))))))))))) (Nat.le_of_eq hzO82))
              replace hX25 := ho.ext hX25 (Nat.le_trans (Nat.le_trans hs30 (Nat.le_trans hs43 (Nat.le_trans hs48 (Nat.le_trans hs52 (Nat.le_trans hs55 (Nat.le_trans hs57 (Nat.le_trans hs59 (Nat.le_trans hs61 (Nat.le_trans hs67 (Nat.le_trans hs72 (Nat.le_trans hs74 hs80))))))))))) (Nat.le_of_eq hzO82))
              replace hX31 := ho.ext hX31 (Nat.le_trans (Nat.le_trans hs43 (Nat.le_trans hs48 (Nat.le_trans hs52 (Nat.le_trans hs55 (Nat.le_trans hs57 (Nat.le_trans hs59 (Nat.le_trans hs61 (Nat.le_trans hs67 (Nat.le_trans hs72 (Nat.le_trans hs74 hs80)))))))))) (Nat.le_of_eq hzO82))
              replace hX60 := ho.ext hX60 (Nat.le_trans (Nat.le_trans hs61 (Nat.le_trans hs67 (Nat.le_trans hs72 (Nat.le_trans hs74 hs80)))) (Nat.le_of_eq hzO82))
              replace hX66 := ho.ext hX66 (Nat.le_trans (Nat.le_trans hs67 (Nat.le_trans hs72 (Nat.le_trans hs74 hs80))) (Nat.le_of_eq hzO82))
              replace hX70 := ho.ext hX70 (Nat.le_trans (Nat.le_trans hs72 (Nat.le_trans hs74 hs80)) (Nat.le_of_eq hzO82))
              replace v77 := ho.va (Nat.ne_of_gt (Nat.lt_of_lt_of_le lt81 (Nat.le_of_eq hzO82))) v77
              have hs87 : X83.heap.size ≤ X86.heap.size := Nat.le_of_eq ho.size.symm
              clear ho hk bO82_0
              have bO82_0 := hv0; clear hv0
              refine ⟨⟨(BoxAt.ext hX60 bO10_0).1, (hX31.cell fc0), (hX25.cell d1)⟩, ?_⟩
              refine wd_take 15 (.int .i64 0) hR rfl (by kernel_rfl) rfl (by kernel_rfl) (fun w _ => by kernel_rfl) (⟨(BoxAt.ext hX60 bO10_0).1, (hX31.cell fc0), (hX25.cell d1)⟩) ?_
              refine wd_end hL hR hK (by kernel_rfl) ?_
              exact qw_leaf hJ [7, 8, 9, 15, 16, 18, 19, 20, 21] (ws' := [(7, .pointer (some ⟨O10, 0, none⟩)), (8, .slice (some ⟨sb, so, none⟩) t17 lc19), (9, .slice (some ⟨fb, fo, none⟩) few.length fc27), (15, .int .i64 (((kk : Nat) : Int) : Int)), (16, .int .i64 ((((Globe.bitsL kk p).length : Nat) : Int) : Int)), (18, .slice a9 i c9), (19, .int .i64 (((i : Nat) : Int) : Int)), (20, .pointer (some ⟨O82, 0, none⟩)), (21, .int .i64 0)]) (by kernel_rfl) ⟨B75, k76, O82, rfl, hE, hX25, hX31, hX60, hX66, hX70, v77, bO82_0, (Nat.le_trans hs74 (Nat.le_trans hs80 (Nat.le_trans hs84 hs87))), (Nat.le_trans hs74 hn78), (Nat.le_trans (Nat.le_trans hs74 hs80) (Nat.le_of_eq hzO82)), Lib.hid (Nat.ne_of_lt (Nat.lt_of_lt_of_le lt81 (Nat.le_of_eq hzO82)))⟩
            ·
              refine sn_new (us := #[.slice none 0 0]) (t := 25) (by kernel_rfl) ?_
              intro O88 X89 hO hOs hb hbx
              have hzO88 := hO; have hyO88 := hOs; clear hO hOs
              have bO88_0 : BoxAt X89 O88 0 (.slice none 0 0) := hbx 0 _ rfl
              clear hbx
              replace hE := hE.trans hb
              replace hX25 := hX25.trans hb
              replace hX31 := hX31.trans hb
              replace hX60 := hX60.trans hb
              replace hX66 := hX66.trans hb
              replace hX70 := hX70.trans hb
              have hs90 := hb.size
              clear hb
              have lt91 := bO88_0.lt
              refine ⟨⟨(BoxAt.ext hX60 bO10_0).1, (hX31.cell fc0), (hX25.cell d1)⟩, ?_⟩
              refine wd_step 9 hR rfl (by kernel_rfl) (by kernel_rfl) (by kernel_rfl) (sn_call (f := 28) (args := #[.agg #[.slice (some ⟨B3, 0, none⟩) 24 k4], .agg #[.slice (some ⟨S1, s1, none⟩) 24 e1]]) (by kernel_rfl) ((Meet_v _ _ _ (v5.ext hX60) (Ext.refl _) (g1.ext hX25) (Ext.refl _)).mono ?_))
              rintro e w96 ⟨B92, k93, rfl, hn95, -, v94, hb⟩
              replace hE := hE.trans hb
              replace hX25 := hX25.trans hb
              replace hX31 := hX31.trans hb
              replace hX60 := hX60.trans hb
              replace hX66 := hX66.trans hb
              replace hX70 := hX70.trans hb
              replace bO88_0 := BoxAt.ext hb bO88_0
              have hs97 := hb.size
              clear hb
              have lt98 := v94.lt
              refine ⟨_, rfl, ⟨(BoxAt.ext hX60 bO10_0).1, (hX31.cell fc0), (hX25.cell d1)⟩, ?_⟩
              refine wd_take 10 (.tuple #[.agg #[.slice (some ⟨B92, 0, none⟩) 24 k93], .int .i64 0]) hR rfl (by kernel_rfl) rfl (by kernel_rfl) (fun w _ => by kernel_rfl) (⟨(BoxAt.ext hX60 bO10_0).1, (hX31.cell fc0), (hX25.cell d1)⟩) ?_
              refine wd_take 11 (.agg #[.slice (some ⟨B92, 0, none⟩) 24 k93]) hR rfl (by kernel_rfl) rfl (by kernel_rfl) (fun w _ => by kernel_rfl) (⟨(BoxAt.ext hX60 bO10_0).1, (hX31.cell fc0), (hX25.cell d1)⟩) ?_
              refine wd_take 12 (.int .i64 0) hR rfl (by kernel_rfl) rfl (by kernel_rfl) (fun w _ => by kernel_rfl) (⟨(BoxAt.ext hX60 bO10_0).1, (hX31.cell fc0), (hX25.cell d1)⟩) ?_
              refine wd_step 14 hR rfl (by kernel_rfl) (by kernel_rfl) (by kernel_rfl) (sn_set (O := O88) (j := 0) (v := .slice (some ⟨B92, 0, none⟩) 24 k93) (ex_store (p := .pointer (some ⟨O88, 0, none⟩)) (v := .agg #[.slice (some ⟨B92, 0, none⟩) 24 k93]) rfl (by kernel_rfl) (by kernel_rfl) (st25 bO88_0.1 bO88_0.2)) bO88_0 ?_)
              intro X99 ho hv0 hk
              replace hE := ho.ext hE (Nat.le_trans (Nat.le_trans hs2 (Nat.le_trans hs8 (Nat.le_trans hs12 (Nat.le_trans hs15 (Nat.le_trans hs24 (Nat.le_trans hs30 (Nat.le_trans hs43 (Nat.le_trans hs48 (Nat.le_trans hs52 (Nat.le_trans hs55 (Nat.le_trans hs57 (Nat.le_trans hs59 (Nat.le_trans hs61 (Nat.le_trans hs67 (Nat.le_trans hs72 hs74))))))))))))))) (Nat.le_of_eq hzO88))
              replace hX25 := ho.ext hX25 (Nat.le_trans (Nat.le_trans hs30 (Nat.le_trans hs43 (Nat.le_trans hs48 (Nat.le_trans hs52 (Nat.le_trans hs55 (Nat.le_trans hs57 (Nat.le_trans hs59 (Nat.le_trans hs61 (Nat.le_trans hs67 (Nat.le_trans hs72 hs74)))))))))) (Nat.le_of_eq hzO88))
              replace hX31 := ho.ext hX31 (Nat.le_trans (Nat.le_trans hs43 (Nat.le_trans hs48 (Nat.le_trans hs52 (Nat.le_trans hs55 (Nat.le_trans hs57 (Nat.le_trans hs59 (Nat.le_trans hs61 (Nat.le_trans hs67 (Nat.le_trans hs72 hs74))))))))) (Nat.le_of_eq hzO88))
              replace hX60 := ho.ext hX60 (Nat.le_trans (Nat.le_trans hs61 (Nat.le_trans hs67 (Nat.le_trans hs72 hs74))) (Nat.le_of_eq hzO88))
              replace hX66 := ho.ext hX66 (Nat.le_trans (Nat.le_trans hs67 (Nat.le_trans hs72 hs74)) (Nat.le_of_eq hzO88))
              replace hX70 := ho.ext hX70 (Nat.le_trans (Nat.le_trans hs72 hs74) (Nat.le_of_eq hzO88))
              replace v94 := ho.va (Nat.ne_of_lt (Nat.lt_of_lt_of_le lt91 hn95)) v94
              have hs100 : w96.heap.size ≤ X99.heap.size := Nat.le_of_eq ho.size.symm
              clear ho hk bO88_0
              have bO88_0 := hv0; clear hv0
              refine ⟨⟨(BoxAt.ext hX60 bO10_0).1, (hX31.cell fc0), (hX25.cell d1)⟩, ?_⟩
              refine wd_take 15 (.int .i64 0) hR rfl (by kernel_rfl) rfl (by kernel_rfl) (fun w _ => by kernel_rfl) (⟨(BoxAt.ext hX60 bO10_0).1, (hX31.cell fc0), (hX25.cell d1)⟩) ?_
              refine wd_end hL hR hK (by kernel_rfl) ?_
              exact qw_leaf hJ [7, 8, 9, 15, 16, 18, 19, 20, 21] (ws' := [(7, .pointer (some ⟨O10, 0, none⟩)), (8, .slice (some ⟨sb, so, none⟩) t17 lc19), (9, .slice (some ⟨fb, fo, none⟩) few.length fc27), (15, .int .i64 (((kk : Nat) : Int) : Int)), (16, .int .i64 ((((Globe.bitsL kk p).length : Nat) : Int) : Int)), (18, .slice a9 i c9), (19, .int .i64 (((i : Nat) : Int) : Int)), (20, .pointer (some ⟨O88, 0, none⟩)), (21, .int .i64 0)]) (by kernel_rfl) ⟨B92, k93, O88, rfl, hE, hX25, hX31, hX60, hX66, hX70, v94, bO88_0, (Nat.le_trans hs74 (Nat.le_trans hs90 (Nat.le_trans hs97 hs100))), (Nat.le_trans (Nat.le_trans hs74 hs90) hn95), (Nat.le_trans hs74 (Nat.le_of_eq hzO88)), Lib.hid (Nat.ne_of_gt (Nat.lt_of_lt_of_le lt91 hn95))⟩
          ·
            clear hE hX25 hX31 hX60 hX66 hX70
            rintro L ws Y101 ⟨B75, k76, O82, rfl, hE, hX25, hX31, hX60, hX66, hX70, v77, bO82_0, hn102, hn103, hn104, hn105⟩
            have lt106 := v77.lt
            have lt107 := bO82_0.lt
            refine qw_then ?_
            refine cw_seq ?_
            refine cw_seq ?_
            refine cw_plain ?_
            refine pl_take (.int .i64 0) rfl (by kernel_rfl) (by kernel_rfl) (by kernel_rfl) (by kernel_rfl) ?_
            refine pl_take (.bool false) rfl (by kernel_rfl) (by kernel_rfl) (by kernel_rfl) (by kernel_rfl) ?_
            refine pl_take (.bool false) rfl (by kernel_rfl) (by kernel_rfl) (by kernel_rfl) (by kernel_rfl) ?_
            refine pl_take (.agg #[.slice (some ⟨B75, 0, none⟩) 24 k76]) rfl (by kernel_rfl) (by kernel_rfl) (by kernel_rfl) (ex_load rfl (by kernel_rfl) (ld25 (bO82_0.1))) ?_
            refine pl_step rfl (by kernel_rfl) (by kernel_rfl) (by kernel_rfl) (sn_call (f := 29) (args := #[.agg #[.slice (some ⟨B75, 0, none⟩) 24 k76]]) (by kernel_rfl) ((Count_v _ _ v77 (Ext.refl _) (hT.ext hE)).mono ?_))
            rintro e w108 ⟨rfl, hb⟩
            replace hE := hE.trans hb
            replace hX25 := hX25.trans hb
            replace hX31 := hX31.trans hb
            replace hX60 := hX60.trans hb
            replace hX66 := hX66.trans hb
            replace hX70 := hX70.trans hb
            replace v77 := v77.ext hb
            replace bO82_0 := BoxAt.ext hb bO82_0
            have hs109 := hb.size
            clear hb
            refine ⟨_, rfl, ?_⟩
            refine pl_take (.bool false) rfl (by kernel_rfl) (by kernel_rfl) (by kernel_rfl) (ev_neq (show _ = Result.ok (Next.value (Value.bool (((((Globe.cellsTo (Globe.meetL (areaL q0 n0) s.1) 24).length : Nat) : Int) : Int) == (0 : Int)))) _ from by kernel_rfl) (by omega)) ?_
            refine pl_take (.bool false) rfl (by kernel_rfl) (by kernel_rfl) (by kernel_rfl) (by kernel_rfl) ?_
            refine pl_nil ?_
            refine qw_then ?_
            refine cw_clean [7, 8, 9, 15, 16, 18, 19, 142] (ws' := [(7, .pointer (some ⟨O10, 0, none⟩)), (8, .slice (some ⟨sb, so, none⟩) t17 lc19), (9, .slice (some ⟨fb, fo, none⟩) few.length fc27), (15, .int .i64 (((kk : Nat) : Int) : Int)), (16, .int .i64 ((((Globe.bitsL kk p).length : Nat) : Int) : Int)), (18, .slice a9 i c9), (19, .int .i64 (((i : Nat) : Int) : Int)), (142, .bool false)]) (by kernel_rfl) (fun L => ?_)
            refine cw_f (by kernel_rfl) ?_
            refine cw_skip ?_
            refine qw_then ?_
            refine cw_plain ?_
            refine pl_take (.slice a9 i c9) rfl (by kernel_rfl) (by kernel_rfl) (by kernel_rfl) (by kernel_rfl) ?_
            refine pl_take (.slice (some ⟨sb, so, none⟩) t17 lc19) rfl (by kernel_rfl) (by kernel_rfl) (by kernel_rfl) (by kernel_rfl) ?_
            refine pl_take (.slice (some ⟨fb, fo, none⟩) few.length fc27) rfl (by kernel_rfl) (by kernel_rfl) (by kernel_rfl) (by kernel_rfl) ?_
            refine pl_take (.int .i64 (((i : Nat) : Int) : Int)) rfl (by kernel_rfl) (by kernel_rfl) (by kernel_rfl) (by kernel_rfl) ?_
            refine pl_take (.pointer (some ⟨fb, fo + i, none⟩)) rfl (by kernel_rfl) (by kernel_rfl) (by kernel_rfl) (ex_index (p := .slice (some ⟨fb, fo, none⟩) few.length fc27) (i := .int .i64 ((i : Nat) : Int)) rfl (by kernel_rfl) (by kernel_rfl) (ix23 (by omega))) ?_
            refine pl_take (.int .i64 (((D : Nat) : Int) : Int)) rfl (by kernel_rfl) (by kernel_rfl) (by kernel_rfl) (ex_load rfl (by kernel_rfl) (ld3 ((hX31.cell fc0)))) ?_
            refine pl_take (.pointer (some ⟨sb, so + D * 2, none⟩)) rfl (by kernel_rfl) (by kernel_rfl) (by kernel_rfl) (ex_index (p := .slice (some ⟨sb, so, none⟩) t17 lc19) (i := .int .i64 ((D : Nat) : Int)) rfl (by kernel_rfl) (by kernel_rfl) (ix26 (by omega))) ?_
            refine pl_take (.agg #[.slice (some ⟨S1, s1, none⟩) 24 e1, .slice (some ⟨S2, s2, none⟩) 24 e2]) rfl (by kernel_rfl) (by kernel_rfl) (by kernel_rfl) (ex_load rfl (by kernel_rfl) (ld28 ((hX25.cell d1)) ((hX25.cell d2)))) ?_
            refine pl_step rfl (by kernel_rfl) (by kernel_rfl) (by kernel_rfl) (sn_newS (us := #[.slice (some ⟨S1, s1, none⟩) 24 e1, .slice (some ⟨S2, s2, none⟩) 24 e2]) (t := 28) (k := 1) (c := 1) (by kernel_rfl) ?_)
            intro O110 X111 hO hOs hb hbx
            have hzO110 := hO; have hyO110 := hOs; clear hO hOs
            have bO110_0 : BoxAt X111 O110 0 (.slice (some ⟨S1, s1, none⟩) 24 e1) := hbx 0 _ rfl
            have bO110_1 : BoxAt X111 O110 1 (.slice (some ⟨S2, s2, none⟩) 24 e2) := hbx 1 _ rfl
            clear hbx
            replace hE := hE.trans hb
            replace hX25 := hX25.trans hb
            replace hX31 := hX31.trans hb
            replace hX60 := hX60.trans hb
            replace hX66 := hX66.trans hb
            replace hX70 := hX70.trans hb
            replace v77 := v77.ext hb
            replace bO82_0 := BoxAt.ext hb bO82_0
            have hs112 := hb.size
            clear hb
            have lt113 := bO110_0.lt
            obtain ⟨g114, cap115, w116, hrun117, own118, hgr119⟩ := own_app1 (P := Tryd.prog) (ty := 26) stripT (own9.ext hX70) (Nat.le_trans hs67 (Nat.le_trans hs72 (Nat.le_trans hn102 (Nat.le_trans hs109 hs112)))) (k := i) hlen9 (O := O110) (c := 1) (x := s) (d := [.slice (some ⟨S1, s1, none⟩) 24 e1, .slice (some ⟨S2, s2, none⟩) 24 e2]) rfl (cells2 bO110_0.1 bO110_1.1) (by simp [Value.oneCell']) (⟨_, _, _, _, _, _, rfl, (g1.ext hX25), (g2.ext hX25), rfl⟩) (below2 hnb (Nat.lt_of_lt_of_le lg1 (Nat.le_trans hs30 (Nat.le_trans hs43 (Nat.le_trans hs48 (Nat.le_trans hs52 (Nat.le_trans hs55 (Nat.le_trans hs57 (Nat.le_trans hs59 hs61)))))))) (Nat.lt_of_lt_of_le lg2 (Nat.le_trans hs30 (Nat.le_trans hs43 (Nat.le_trans hs48 (Nat.le_trans hs52 (Nat.le_trans hs55 (Nat.le_trans hs57 (Nat.le_trans hs59 hs61))))))))) (by omega) (by omega)
            refine pl_step rfl (by kernel_rfl) (by kernel_rfl) (by kernel_rfl) (sn_eff (v := .slice (some ⟨g114, 0, none⟩) (i + 1) cap115) (w' := w116) (ex_append rfl (by kernel_rfl) (by kernel_rfl) hrun117) ?_)
            replace hE := hgr119.ext _ hE (Nat.le_trans hs2 (Nat.le_trans hs8 (Nat.le_trans hs12 (Nat.le_trans hs15 (Nat.le_trans hs24 (Nat.le_trans hs30 (Nat.le_trans hs43 (Nat.le_trans hs48 (Nat.le_trans hs52 (Nat.le_trans hs55 (Nat.le_trans hs57 (Nat.le_trans hs59 hs61))))))))))))
            replace hX25 := hgr119.ext _ hX25 (Nat.le_trans hs30 (Nat.le_trans hs43 (Nat.le_trans hs48 (Nat.le_trans hs52 (Nat.le_trans hs55 (Nat.le_trans hs57 (Nat.le_trans hs59 hs61)))))))
            replace hX31 := hgr119.ext _ hX31 (Nat.le_trans hs43 (Nat.le_trans hs48 (Nat.le_trans hs52 (Nat.le_trans hs55 (Nat.le_trans hs57 (Nat.le_trans hs59 hs61))))))
            replace hX60 := hgr119.ext _ hX60 hs61
            replace hX66 := hgr119.ext _ hX66 (Nat.le_refl _)
            have hs120 := hgr119.size
            rw [show (Globe.chS ss16 (few.take i)) ++ [s] = (Globe.chS ss16 (few.take (i + 1))) from (Globe.chS_snoc hD hs).symm] at own118
            refine pl_take (.slice (some ⟨g114, 0, none⟩) (i + 1) cap115) rfl (by kernel_rfl) (by kernel_rfl) (by kernel_rfl) (by kernel_rfl) ?_
            refine pl_nil ?_
            refine qw_block ?_
            refine qw_then ?_
            refine cw_clean [7, 8, 9, 15, 16, 18, 19] (ws' := [(7, .pointer (some ⟨O10, 0, none⟩)), (8, .slice (some ⟨sb, so, none⟩) t17 lc19), (9, .slice (some ⟨fb, fo, none⟩) few.length fc27), (15, .int .i64 (((kk : Nat) : Int) : Int)), (16, .int .i64 ((((Globe.bitsL kk p).length : Nat) : Int) : Int)), (18, .slice (some ⟨g114, 0, none⟩) (i + 1) cap115), (19, .int .i64 (((i : Nat) : Int) : Int))]) (by kernel_rfl) (fun L => ?_)
            refine cw_plain ?_
            refine pl_take (.int .i64 (((i : Nat) : Int) : Int)) rfl (by kernel_rfl) (by kernel_rfl) (by kernel_rfl) (by kernel_rfl) ?_
            refine pl_take (.int .i64 (((i + 1 : Nat) : Int) : Int)) rfl (by kernel_rfl) (by kernel_rfl) (by kernel_rfl) (ev_wrap (by kernel_rfl) (by omega) (by omega)) ?_
            refine pl_take (.int .i64 (((i + 1 : Nat) : Int) : Int)) rfl (by kernel_rfl) (by kernel_rfl) (by kernel_rfl) (by kernel_rfl) ?_
            refine pl_nil ?_
            refine qw_round [7, 8, 9, 15, 16, 18, 19] (ws' := [(7, .pointer (some ⟨O10, 0, none⟩)), (8, .slice (some ⟨sb, so, none⟩) t17 lc19), (9, .slice (some ⟨fb, fo, none⟩) few.length fc27), (15, .int .i64 (((kk : Nat) : Int) : Int)), (16, .int .i64 ((((Globe.bitsL kk p).length : Nat) : Int) : Int)), (18, .slice (some ⟨g114, 0, none⟩) (i + 1) cap115), (19, .int .i64 (((i + 1 : Nat) : Int) : Int))]) (by kernel_rfl) _ ?_ ⟨(some ⟨g114, 0, none⟩), (i + 1), cap115, rfl, rfl, (Nat.le_trans hs67 (Nat.le_trans hs72 (Nat.le_trans hn102 (Nat.le_trans hs109 (Nat.le_trans hs112 hs120))))), hE, hX25, hX31, hX60, hX66, own118, by omega⟩
            omega
        ·
          obtain ⟨D1, hD1⟩ : ∃ D, few[i - 1]? = some D := ⟨_, List.getElem?_eq_getElem (by omega)⟩
          have fc1 := hF (i - 1) D1 hD1
          have hDD := Globe.asc_step f2 (i - 1) D1 D hD1 (by rw [show i - 1 + 1 = i by omega]; exact hD)
          refine cw_draw [(some 93, [9], []), (some 94, [19], []), (some 95, [93, 94], [0, 1]), (some 96, [95], [2]), (some 97, [96], [3]), (some 98, [97], [4]), (some 99, [9, 98], [5]), (some 100, [19, 98], [5]), (some 101, [99, 100, 98], [6, 7, 5]), (some 102, [101, 98], [8, 5]), (some 103, [8, 98], [5]), (some 104, [103, 98], [10, 5]), (some 105, [102, 104, 98], [9, 11, 5]), (some 106, [98, 105], [5, 12]), (some 107, [106], [13, 5]), (some 108, [19, 107], [14]), (some 109, [108, 107], [15, 14]), (some 110, [109, 107], [16, 14, 14]), (some 111, [9, 110], [17]), (some 112, [19, 110], [17]), (some 113, [111, 112, 110], [18, 19, 17]), (some 114, [113, 110], [20, 17]), (some 115, [9, 110], [17]), (some 116, [19, 110], [17]), (some 117, [116, 110], [23, 17]), (some 118, [115, 117, 110], [22, 24, 17]), (some 119, [118, 110], [25, 17]), (some 120, [114, 119, 110], [21, 26, 17]), (some 121, [110, 120, 107], [17, 27, 14]), (some 122, [107, 121], [14, 28])] (fun w' => w'.cell? ⟨fb, fo + i, none⟩ = some (.int .i64 (((D : Nat) : Int) : Int)) ∧ w'.cell? ⟨fb, fo + (i - 1), none⟩ = some (.int .i64 (((D1 : Nat) : Int) : Int))) (by kernel_rfl) (by kernel_rfl) (by kernel_rfl) (by kernel_rfl) ((calm_then (calm_then (calm_block (calm_then (calm_then (calm_block (calm_then calm_body)))))))) (⟨(hX31.cell fc0), (hX31.cell fc1)⟩) (fun ops Q X121 hb hL hR hK => ?_)
          replace hE := hE.trans hb
          replace hX25 := hX25.trans hb
          replace hX31 := hX31.trans hb
          replace hX60 := hX60.trans hb
          replace hX66 := hX66.trans hb
          replace hX70 := hX70.trans hb
          have hs122 := hb.size
          clear hb
          refine wd_take 0 (.slice (some ⟨fb, fo, none⟩) few.length fc27) hR rfl (by kernel_rfl) rfl (by kernel_rfl) (fun w _ => by kernel_rfl) (⟨(hX31.cell fc0), (hX31.cell fc1)⟩) ?_
          refine wd_take 1 (.int .i64 (((i : Nat) : Int) : Int)) hR rfl (by kernel_rfl) rfl (by kernel_rfl) (fun w _ => by kernel_rfl) (⟨(hX31.cell fc0), (hX31.cell fc1)⟩) ?_
          refine wd_take 2 (.pointer (some ⟨fb, fo + i, none⟩)) hR rfl (by kernel_rfl) rfl (by kernel_rfl) (fun w _ => ex_index (p := .slice (some ⟨fb, fo, none⟩) few.length fc27) (i := .int .i64 ((i : Nat) : Int)) rfl (by kernel_rfl) (by kernel_rfl) (ix23 (by omega))) (⟨(hX31.cell fc0), (hX31.cell fc1)⟩) ?_
          refine wd_take 3 (.int .i64 (((D : Nat) : Int) : Int)) hR rfl (by kernel_rfl) rfl (by kernel_rfl) (fun w hS => ex_load rfl (by kernel_rfl) (ld3 (hS.1))) (⟨(hX31.cell fc0), (hX31.cell fc1)⟩) ?_
          refine wd_take 4 (.bool false) hR rfl (by kernel_rfl) rfl (by kernel_rfl) (fun w _ => ev_ndec (show _ = Result.ok (Next.value (Value.bool (decide ((((D : Nat) : Int) : Int) < (0 : Int))))) _ from by kernel_rfl) (by omega)) (⟨(hX31.cell fc0), (hX31.cell fc1)⟩) ?_
          refine wd_take 5 (.bool false) hR rfl (by kernel_rfl) rfl (by kernel_rfl) (fun w _ => by kernel_rfl) (⟨(hX31.cell fc0), (hX31.cell fc1)⟩) ?_
          refine wd_take 6 (.slice (some ⟨fb, fo, none⟩) few.length fc27) hR rfl (by kernel_rfl) rfl (by kernel_rfl) (fun w _ => by kernel_rfl) (⟨(hX31.cell fc0), (hX31.cell fc1)⟩) ?_
          refine wd_take 7 (.int .i64 (((i : Nat) : Int) : Int)) hR rfl (by kernel_rfl) rfl (by kernel_rfl) (fun w _ => by kernel_rfl) (⟨(hX31.cell fc0), (hX31.cell fc1)⟩) ?_
          refine wd_take 8 (.pointer (some ⟨fb, fo + i, none⟩)) hR rfl (by kernel_rfl) rfl (by kernel_rfl) (fun w _ => ex_index (p := .slice (some ⟨fb, fo, none⟩) few.length fc27) (i := .int .i64 ((i : Nat) : Int)) rfl (by kernel_rfl) (by kernel_rfl) (ix23 (by omega))) (⟨(hX31.cell fc0), (hX31.cell fc1)⟩) ?_
          refine wd_take 9 (.int .i64 (((D : Nat) : Int) : Int)) hR rfl (by kernel_rfl) rfl (by kernel_rfl) (fun w hS => ex_load rfl (by kernel_rfl) (ld3 (hS.1))) (⟨(hX31.cell fc0), (hX31.cell fc1)⟩) ?_
          refine wd_take 10 (.slice (some ⟨sb, so, none⟩) t17 lc19) hR rfl (by kernel_rfl) rfl (by kernel_rfl) (fun w _ => by kernel_rfl) (⟨(hX31.cell fc0), (hX31.cell fc1)⟩) ?_
          refine wd_take 11 (.int .i64 (((t17 : Nat) : Int) : Int)) hR rfl (by kernel_rfl) rfl (by kernel_rfl) (fun w _ => by kernel_rfl) (⟨(hX31.cell fc0), (hX31.cell fc1)⟩) ?_
          refine wd_take 12 (.bool false) hR rfl (by kernel_rfl) rfl (by kernel_rfl) (fun w _ => ev_ndec (show _ = Result.ok (Next.value (Value.bool (decide ((((D : Nat) : Int) : Int) ≥ (((t17 : Nat) : Int) : Int))))) _ from by kernel_rfl) (by omega)) (⟨(hX31.cell fc0), (hX31.cell fc1)⟩) ?_
          refine wd_take 13 (.bool false) hR rfl (by kernel_rfl) rfl (by kernel_rfl) (fun w _ => by kernel_rfl) (⟨(hX31.cell fc0), (hX31.cell fc1)⟩) ?_
          refine wd_take 14 (.bool false) hR rfl (by kernel_rfl) rfl (by kernel_rfl) (fun w _ => by kernel_rfl) (⟨(hX31.cell fc0), (hX31.cell fc1)⟩) ?_
          refine wd_take 15 (.int .i64 (((i : Nat) : Int) : Int)) hR rfl (by kernel_rfl) rfl (by kernel_rfl) (fun w _ => by kernel_rfl) (⟨(hX31.cell fc0), (hX31.cell fc1)⟩) ?_
          refine wd_take 16 (.bool true) hR rfl (by kernel_rfl) rfl (by kernel_rfl) (fun w _ => ev_dec (show _ = Result.ok (Next.value (Value.bool (decide ((((i : Nat) : Int) : Int) > (0 : Int))))) _ from by kernel_rfl) (by omega)) (⟨(hX31.cell fc0), (hX31.cell fc1)⟩) ?_
          refine wd_take 17 (.bool true) hR rfl (by kernel_rfl) rfl (by kernel_rfl) (fun w _ => by kernel_rfl) (⟨(hX31.cell fc0), (hX31.cell fc1)⟩) ?_
          refine wd_take 18 (.slice (some ⟨fb, fo, none⟩) few.length fc27) hR rfl (by kernel_rfl) rfl (by kernel_rfl) (fun w _ => by kernel_rfl) (⟨(hX31.cell fc0), (hX31.cell fc1)⟩) ?_
          refine wd_take 19 (.int .i64 (((i : Nat) : Int) : Int)) hR rfl (by kernel_rfl) rfl (by kernel_rfl) (fun w _ => by kernel_rfl) (⟨(hX31.cell fc0), (hX31.cell fc1)⟩) ?_
          refine wd_take 20 (.pointer (some ⟨fb, fo + i, none⟩)) hR rfl (by kernel_rfl) rfl (by kernel_rfl) (fun w _ => ex_index (p := .slice (some ⟨fb, fo, none⟩) few.length fc27) (i := .int .i64 ((i : Nat) : Int)) rfl (by kernel_rfl) (by kernel_rfl) (ix23 (by omega))) (⟨(hX31.cell fc0), (hX31.cell fc1)⟩) ?_
          refine wd_take 21 (.int .i64 (((D : Nat) : Int) : Int)) hR rfl (by kernel_rfl) rfl (by kernel_rfl) (fun w hS => ex_load rfl (by kernel_rfl) (ld3 (hS.1))) (⟨(hX31.cell fc0), (hX31.cell fc1)⟩) ?_
          refine wd_take 22 (.slice (some ⟨fb, fo, none⟩) few.length fc27) hR rfl (by kernel_rfl) rfl (by kernel_rfl) (fun w _ => by kernel_rfl) (⟨(hX31.cell fc0), (hX31.cell fc1)⟩) ?_
          refine wd_take 23 (.int .i64 (((i : Nat) : Int) : Int)) hR rfl (by kernel_rfl) rfl (by kernel_rfl) (fun w _ => by kernel_rfl) (⟨(hX31.cell fc0), (hX31.cell fc1)⟩) ?_
          refine wd_take 24 (.int .i64 ((((i - 1) : Nat) : Int) : Int)) hR rfl (by kernel_rfl) rfl (by kernel_rfl) (fun w _ => ev_int (ev_wrap (a := (i : Int) - 1) (by kernel_rfl) (by omega) (by omega)) (by omega)) (⟨(hX31.cell fc0), (hX31.cell fc1)⟩) ?_
          refine wd_take 25 (.pointer (some ⟨fb, fo + (i - 1), none⟩)) hR rfl (by kernel_rfl) rfl (by kernel_rfl) (fun w _ => ex_index (p := .slice (some ⟨fb, fo, none⟩) few.length fc27) (i := .int .i64 (((i - 1) : Nat) : Int)) rfl (by kernel_rfl) (by kernel_rfl) (ix23 (by omega))) (⟨(hX31.cell fc0), (hX31.cell fc1)⟩) ?_
          refine wd_take 26 (.int .i64 (((D1 : Nat) : Int) : Int)) hR rfl (by kernel_rfl) rfl (by kernel_rfl) (fun w hS => ex_load rfl (by kernel_rfl) (ld3 (hS.2))) (⟨(hX31.cell fc0), (hX31.cell fc1)⟩) ?_
          refine wd_take 27 (.bool false) hR rfl (by kernel_rfl) rfl (by kernel_rfl) (fun w _ => ev_ndec (show _ = Result.ok (Next.value (Value.bool (decide ((((D : Nat) : Int) : Int) ≤ (((D1 : Nat) : Int) : Int))))) _ from by kernel_rfl) (by omega)) (⟨(hX31.cell fc0), (hX31.cell fc1)⟩) ?_
          refine wd_take 28 (.bool false) hR rfl (by kernel_rfl) rfl (by kernel_rfl) (fun w _ => by kernel_rfl) (⟨(hX31.cell fc0), (hX31.cell fc1)⟩) ?_
          refine wd_take 29 (.bool false) hR rfl (by kernel_rfl) rfl (by kernel_rfl) (fun w _ => by kernel_rfl) (⟨(hX31.cell fc0), (hX31.cell fc1)⟩) ?_
          refine wd_end hL hR hK (by kernel_rfl) ?_
          refine qw_then ?_
          refine cw_clean [7, 8, 9, 15, 16, 18, 19, 122] (ws' := [(7, .pointer (some ⟨O10, 0, none⟩)), (8, .slice (some ⟨sb, so, none⟩) t17 lc19), (9, .slice (some ⟨fb, fo, none⟩) few.length fc27), (15, .int .i64 (((kk : Nat) : Int) : Int)), (16, .int .i64 ((((Globe.bitsL kk p).length : Nat) : Int) : Int)), (18, .slice a9 i c9), (19, .int .i64 (((i : Nat) : Int) : Int)), (122, .bool false)]) (by kernel_rfl) (fun L => ?_)
          refine cw_f (by kernel_rfl) ?_
          refine cw_skip ?_
          refine qw_then ?_
          refine cw_seq ?_
          refine cw_join (fun ws' Y => ∃ B125 : Nat, ∃ k126 : Nat, ∃ O132 : Nat, ws' = [(7, .pointer (some ⟨O10, 0, none⟩)), (8, .slice (some ⟨sb, so, none⟩) t17 lc19), (9, .slice (some ⟨fb, fo, none⟩) few.length fc27), (15, .int .i64 (((kk : Nat) : Int) : Int)), (16, .int .i64 ((((Globe.bitsL kk p).length : Nat) : Int) : Int)), (18, .slice a9 i c9), (19, .int .i64 (((i : Nat) : Int) : Int)), (20, .pointer (some ⟨O132, 0, none⟩)), (21, .int .i64 0)] ∧ Ext w Y ∧ Ext w23 Y ∧ Ext w29 Y ∧ Ext w58 Y ∧ Ext w62 Y ∧ Ext w68 Y ∧ VA Y B125 0 (Globe.meetL (areaL q0 n0) s.1) ∧ BoxAt Y O132 0 (.slice (some ⟨B125, 0, none⟩) 24 k126) ∧ X121.heap.size ≤ Y.heap.size ∧ X121.heap.size ≤ B125 ∧ X121.heap.size ≤ O132 ∧ Hid (B125 ≠ O132)) (fun hJ => ?_) ?_
          ·
            refine cw_draw [(some 124, [7], []), (some 125, [8], []), (some 126, [9], []), (some 127, [19], []), (some 128, [126, 127], [2, 3]), (some 129, [128], [4]), (some 130, [125, 129], [1, 5]), (some 131, [130], [6]), (some 132, [131], [7]), (some 133, [124, 132], [0, 8]), (some 123, [133], [9]), (some 134, [123], [10]), (some 135, [123], [10]), (some 20, [], []), (none, [20, 134], [13, 11, 9, 0, 1, 2, 3, 4, 5, 6, 7, 8, 9, 10, 11, 13]), (some 21, [135], [12, 14, 0, 1, 2, 3, 4, 5, 6, 7, 8, 9, 10, 11, 12, 13, 14])] (fun w' => w'.cell? ⟨O10, 0, none⟩ = some (.slice (some ⟨B3, 0, none⟩) 24 k4) ∧ w'.cell? ⟨fb, fo + i, none⟩ = some (.int .i64 (((D : Nat) : Int) : Int)) ∧ w'.cell? ⟨sb, so + D * 2, none⟩ = some (.slice (some ⟨S1, s1, none⟩) 24 e1)) (by kernel_rfl) (by kernel_rfl) (by kernel_rfl) (by kernel_rfl) ((calm_then (calm_block (calm_then (calm_then (calm_block (calm_then calm_body))))))) (⟨(BoxAt.ext hX60 bO10_0).1, (hX31.cell fc0), (hX25.cell d1)⟩) (fun ops Q X123 hb hL hR hK => ?_)
            replace hE := hE.trans hb
            replace hX25 := hX25.trans hb
            replace hX31 := hX31.trans hb
            replace hX60 := hX60.trans hb
            replace hX66 := hX66.trans hb
            replace hX70 := hX70.trans hb
            have hs124 := hb.size
            clear hb
            refine wd_take 0 (.agg #[.slice (some ⟨B3, 0, none⟩) 24 k4]) hR rfl (by kernel_rfl) rfl (by kernel_rfl) (fun w hS => ex_load rfl (by kernel_rfl) (ld25 (hS.1))) (⟨(BoxAt.ext hX60 bO10_0).1, (hX31.cell fc0), (hX25.cell d1)⟩) ?_
            refine wd_take 1 (.slice (some ⟨sb, so, none⟩) t17 lc19) hR rfl (by kernel_rfl) rfl (by kernel_rfl) (fun w _ => by kernel_rfl) (⟨(BoxAt.ext hX60 bO10_0).1, (hX31.cell fc0), (hX25.cell d1)⟩) ?_
            refine wd_take 2 (.slice (some ⟨fb, fo, none⟩) few.length fc27) hR rfl (by kernel_rfl) rfl (by kernel_rfl) (fun w _ => by kernel_rfl) (⟨(BoxAt.ext hX60 bO10_0).1, (hX31.cell fc0), (hX25.cell d1)⟩) ?_
            refine wd_take 3 (.int .i64 (((i : Nat) : Int) : Int)) hR rfl (by kernel_rfl) rfl (by kernel_rfl) (fun w _ => by kernel_rfl) (⟨(BoxAt.ext hX60 bO10_0).1, (hX31.cell fc0), (hX25.cell d1)⟩) ?_
            refine wd_take 4 (.pointer (some ⟨fb, fo + i, none⟩)) hR rfl (by kernel_rfl) rfl (by kernel_rfl) (fun w _ => ex_index (p := .slice (some ⟨fb, fo, none⟩) few.length fc27) (i := .int .i64 ((i : Nat) : Int)) rfl (by kernel_rfl) (by kernel_rfl) (ix23 (by omega))) (⟨(BoxAt.ext hX60 bO10_0).1, (hX31.cell fc0), (hX25.cell d1)⟩) ?_
            refine wd_take 5 (.int .i64 (((D : Nat) : Int) : Int)) hR rfl (by kernel_rfl) rfl (by kernel_rfl) (fun w hS => ex_load rfl (by kernel_rfl) (ld3 (hS.2.1))) (⟨(BoxAt.ext hX60 bO10_0).1, (hX31.cell fc0), (hX25.cell d1)⟩) ?_
            refine wd_take 6 (.pointer (some ⟨sb, so + D * 2, none⟩)) hR rfl (by kernel_rfl) rfl (by kernel_rfl) (fun w _ => ex_index (p := .slice (some ⟨sb, so, none⟩) t17 lc19) (i := .int .i64 ((D : Nat) : Int)) rfl (by kernel_rfl) (by kernel_rfl) (ix26 (by omega))) (⟨(BoxAt.ext hX60 bO10_0).1, (hX31.cell fc0), (hX25.cell d1)⟩) ?_
            refine wd_take 7 (.pointer (some ⟨sb, so + D * 2, none⟩)) hR rfl (by kernel_rfl) rfl (by kernel_rfl) (fun w _ => by kernel_rfl) (⟨(BoxAt.ext hX60 bO10_0).1, (hX31.cell fc0), (hX25.cell d1)⟩) ?_
            refine wd_take 8 (.agg #[.slice (some ⟨S1, s1, none⟩) 24 e1]) hR rfl (by kernel_rfl) rfl (by kernel_rfl) (fun w hS => ex_load rfl (by kernel_rfl) (ld25 (hS.2.2))) (⟨(BoxAt.ext hX60 bO10_0).1, (hX31.cell fc0), (hX25.cell d1)⟩) ?_
            refine wd_two 9 13 hR rfl rfl (by kernel_rfl) (by kernel_rfl) (by kernel_rfl) (by kernel_rfl) ?_ ?_
            ·
              refine sn_call (f := 28) (args := #[.agg #[.slice (some ⟨B3, 0, none⟩) 24 k4], .agg #[.slice (some ⟨S1, s1, none⟩) 24 e1]]) (by kernel_rfl) ((Meet_v _ _ _ (v5.ext hX60) (Ext.refl _) (g1.ext hX25) (Ext.refl _)).mono ?_)
              rintro e w129 ⟨B125, k126, rfl, hn128, -, v127, hb⟩
              replace hE := hE.trans hb
              replace hX25 := hX25.trans hb
              replace hX31 := hX31.trans hb
              replace hX60 := hX60.trans hb
              replace hX66 := hX66.trans hb
              replace hX70 := hX70.trans hb
              have hs130 := hb.size
              clear hb
              have lt131 := v127.lt
              refine ⟨_, rfl, ⟨(BoxAt.ext hX60 bO10_0).1, (hX31.cell fc0), (hX25.cell d1)⟩, ?_⟩
              refine wd_take 10 (.tuple #[.agg #[.slice (some ⟨B125, 0, none⟩) 24 k126], .int .i64 0]) hR rfl (by kernel_rfl) rfl (by kernel_rfl) (fun w _ => by kernel_rfl) (⟨(BoxAt.ext hX60 bO10_0).1, (hX31.cell fc0), (hX25.cell d1)⟩) ?_
              refine wd_take 11 (.agg #[.slice (some ⟨B125, 0, none⟩) 24 k126]) hR rfl (by kernel_rfl) rfl (by kernel_rfl) (fun w _ => by kernel_rfl) (⟨(BoxAt.ext hX60 bO10_0).1, (hX31.cell fc0), (hX25.cell d1)⟩) ?_
              refine wd_take 12 (.int .i64 0) hR rfl (by kernel_rfl) rfl (by kernel_rfl) (fun w _ => by kernel_rfl) (⟨(BoxAt.ext hX60 bO10_0).1, (hX31.cell fc0), (hX25.cell d1)⟩) ?_
              refine wd_step 13 hR rfl (by kernel_rfl) (by kernel_rfl) (by kernel_rfl) (sn_new (us := #[.slice none 0 0]) (t := 25) (by kernel_rfl) ?_)
              intro O132 X133 hO hOs hb hbx
              have hzO132 := hO; have hyO132 := hOs; clear hO hOs
              have bO132_0 : BoxAt X133 O132 0 (.slice none 0 0) := hbx 0 _ rfl
              clear hbx
              replace hE := hE.trans hb
              replace hX25 := hX25.trans hb
              replace hX31 := hX31.trans hb
              replace hX60 := hX60.trans hb
              replace hX66 := hX66.trans hb
              replace hX70 := hX70.trans hb
              replace v127 := v127.ext hb
              have hs134 := hb.size
              clear hb
              have lt135 := bO132_0.lt
              refine ⟨⟨(BoxAt.ext hX60 bO10_0).1, (hX31.cell fc0), (hX25.cell d1)⟩, ?_⟩
              refine wd_step 14 hR rfl (by kernel_rfl) (by kernel_rfl) (by kernel_rfl) (sn_set (O := O132) (j := 0) (v := .slice (some ⟨B125, 0, none⟩) 24 k126) (ex_store (p := .pointer (some ⟨O132, 0, none⟩)) (v := .agg #[.slice (some ⟨B125, 0, none⟩) 24 k126]) rfl (by kernel_rfl) (by kernel_rfl) (st25 bO132_0.1 bO132_0.2)) bO132_0 ?_)
              intro X136 ho hv0 hk
              replace hE := ho.ext hE (Nat.le_trans (Nat.le_trans hs2 (Nat.le_trans hs8 (Nat.le_trans hs12 (Nat.le_trans hs15 (Nat.le_trans hs24 (Nat.le_trans hs30 (Nat.le_trans hs43 (Nat.le_trans hs48 (Nat.le_trans hs52 (Nat.le_trans hs55 (Nat.le_trans hs57 (Nat.le_trans hs59 (Nat.le_trans hs61 (Nat.le_trans hs67 (Nat.le_trans hs122 (Nat.le_trans hs124 hs130)))))))))))))))) (Nat.le_of_eq hzO132))
              replace hX25 := ho.ext hX25 (Nat.le_trans (Nat.le_trans hs30 (Nat.le_trans hs43 (Nat.le_trans hs48 (Nat.le_trans hs52 (Nat.le_trans hs55 (Nat.le_trans hs57 (Nat.le_trans hs59 (Nat.le_trans hs61 (Nat.le_trans hs67 (Nat.le_trans hs122 (Nat.le_trans hs124 hs130))))))))))) (Nat.le_of_eq hzO132))
              replace hX31 := ho.ext hX31 (Nat.le_trans (Nat.le_trans hs43 (Nat.le_trans hs48 (Nat.le_trans hs52 (Nat.le_trans hs55 (Nat.le_trans hs57 (Nat.le_trans hs59 (Nat.le_trans hs61 (Nat.le_trans hs67 (Nat.le_trans hs122 (Nat.le_trans hs124 hs130)))))))))) (Nat.le_of_eq hzO132))
              replace hX60 := ho.ext hX60 (Nat.le_trans (Nat.le_trans hs61 (Nat.le_trans hs67 (Nat.le_trans hs122 (Nat.le_trans hs124 hs130)))) (Nat.le_of_eq hzO132))
              replace hX66 := ho.ext hX66 (Nat.le_trans (Nat.le_trans hs67 (Nat.le_trans hs122 (Nat.le_trans hs124 hs130))) (Nat.le_of_eq hzO132))
              replace hX70 := ho.ext hX70 (Nat.le_trans (Nat.le_trans hs122 (Nat.le_trans hs124 hs130)) (Nat.le_of_eq hzO132))
              replace v127 := ho.va (Nat.ne_of_gt (Nat.lt_of_lt_of_le lt131 (Nat.le_of_eq hzO132))) v127
              have hs137 : X133.heap.size ≤ X136.heap.size := Nat.le_of_eq ho.size.symm
              clear ho hk bO132_0
              have bO132_0 := hv0; clear hv0
              refine ⟨⟨(BoxAt.ext hX60 bO10_0).1, (hX31.cell fc0), (hX25.cell d1)⟩, ?_⟩
              refine wd_take 15 (.int .i64 0) hR rfl (by kernel_rfl) rfl (by kernel_rfl) (fun w _ => by kernel_rfl) (⟨(BoxAt.ext hX60 bO10_0).1, (hX31.cell fc0), (hX25.cell d1)⟩) ?_
              refine wd_end hL hR hK (by kernel_rfl) ?_
              exact qw_leaf hJ [7, 8, 9, 15, 16, 18, 19, 20, 21] (ws' := [(7, .pointer (some ⟨O10, 0, none⟩)), (8, .slice (some ⟨sb, so, none⟩) t17 lc19), (9, .slice (some ⟨fb, fo, none⟩) few.length fc27), (15, .int .i64 (((kk : Nat) : Int) : Int)), (16, .int .i64 ((((Globe.bitsL kk p).length : Nat) : Int) : Int)), (18, .slice a9 i c9), (19, .int .i64 (((i : Nat) : Int) : Int)), (20, .pointer (some ⟨O132, 0, none⟩)), (21, .int .i64 0)]) (by kernel_rfl) ⟨B125, k126, O132, rfl, hE, hX25, hX31, hX60, hX66, hX70, v127, bO132_0, (Nat.le_trans hs124 (Nat.le_trans hs130 (Nat.le_trans hs134 hs137))), (Nat.le_trans hs124 hn128), (Nat.le_trans (Nat.le_trans hs124 hs130) (Nat.le_of_eq hzO132)), Lib.hid (Nat.ne_of_lt (Nat.lt_of_lt_of_le lt131 (Nat.le_of_eq hzO132)))⟩
            ·
              refine sn_new (us := #[.slice none 0 0]) (t := 25) (by kernel_rfl) ?_
              intro O138 X139 hO hOs hb hbx
              have hzO138 := hO; have hyO138 := hOs; clear hO hOs
              have bO138_0 : BoxAt X139 O138 0 (.slice none 0 0) := hbx 0 _ rfl
              clear hbx
              replace hE := hE.trans hb
              replace hX25 := hX25.trans hb
              replace hX31 := hX31.trans hb
              replace hX60 := hX60.trans hb
              replace hX66 := hX66.trans hb
              replace hX70 := hX70.trans hb
              have hs140 := hb.size
              clear hb
              have lt141 := bO138_0.lt
              refine ⟨⟨(BoxAt.ext hX60 bO10_0).1, (hX31.cell fc0), (hX25.cell d1)⟩, ?_⟩
              refine wd_step 9 hR rfl (by kernel_rfl) (by kernel_rfl) (by kernel_rfl) (sn_call (f := 28) (args := #[.agg #[.slice (some ⟨B3, 0, none⟩) 24 k4], .agg #[.slice (some ⟨S1, s1, none⟩) 24 e1]]) (by kernel_rfl) ((Meet_v _ _ _ (v5.ext hX60) (Ext.refl _) (g1.ext hX25) (Ext.refl _)).mono ?_))
              rintro e w146 ⟨B142, k143, rfl, hn145, -, v144, hb⟩
              replace hE := hE.trans hb
              replace hX25 := hX25.trans hb
              replace hX31 := hX31.trans hb
              replace hX60 := hX60.trans hb
              replace hX66 := hX66.trans hb
              replace hX70 := hX70.trans hb
              replace bO138_0 := BoxAt.ext hb bO138_0
              have hs147 := hb.size
              clear hb
              have lt148 := v144.lt
              refine ⟨_, rfl, ⟨(BoxAt.ext hX60 bO10_0).1, (hX31.cell fc0), (hX25.cell d1)⟩, ?_⟩
              refine wd_take 10 (.tuple #[.agg #[.slice (some ⟨B142, 0, none⟩) 24 k143], .int .i64 0]) hR rfl (by kernel_rfl) rfl (by kernel_rfl) (fun w _ => by kernel_rfl) (⟨(BoxAt.ext hX60 bO10_0).1, (hX31.cell fc0), (hX25.cell d1)⟩) ?_
              refine wd_take 11 (.agg #[.slice (some ⟨B142, 0, none⟩) 24 k143]) hR rfl (by kernel_rfl) rfl (by kernel_rfl) (fun w _ => by kernel_rfl) (⟨(BoxAt.ext hX60 bO10_0).1, (hX31.cell fc0), (hX25.cell d1)⟩) ?_
              refine wd_take 12 (.int .i64 0) hR rfl (by kernel_rfl) rfl (by kernel_rfl) (fun w _ => by kernel_rfl) (⟨(BoxAt.ext hX60 bO10_0).1, (hX31.cell fc0), (hX25.cell d1)⟩) ?_
              refine wd_step 14 hR rfl (by kernel_rfl) (by kernel_rfl) (by kernel_rfl) (sn_set (O := O138) (j := 0) (v := .slice (some ⟨B142, 0, none⟩) 24 k143) (ex_store (p := .pointer (some ⟨O138, 0, none⟩)) (v := .agg #[.slice (some ⟨B142, 0, none⟩) 24 k143]) rfl (by kernel_rfl) (by kernel_rfl) (st25 bO138_0.1 bO138_0.2)) bO138_0 ?_)
              intro X149 ho hv0 hk
              replace hE := ho.ext hE (Nat.le_trans (Nat.le_trans hs2 (Nat.le_trans hs8 (Nat.le_trans hs12 (Nat.le_trans hs15 (Nat.le_trans hs24 (Nat.le_trans hs30 (Nat.le_trans hs43 (Nat.le_trans hs48 (Nat.le_trans hs52 (Nat.le_trans hs55 (Nat.le_trans hs57 (Nat.le_trans hs59 (Nat.le_trans hs61 (Nat.le_trans hs67 (Nat.le_trans hs122 hs124))))))))))))))) (Nat.le_of_eq hzO138))
              replace hX25 := ho.ext hX25 (Nat.le_trans (Nat.le_trans hs30 (Nat.le_trans hs43 (Nat.le_trans hs48 (Nat.le_trans hs52 (Nat.le_trans hs55 (Nat.le_trans hs57 (Nat.le_trans hs59 (Nat.le_trans hs61 (Nat.le_trans hs67 (Nat.le_trans hs122 hs124)))))))))) (Nat.le_of_eq hzO138))
              replace hX31 := ho.ext hX31 (Nat.le_trans (Nat.le_trans hs43 (Nat.le_trans hs48 (Nat.le_trans hs52 (Nat.le_trans hs55 (Nat.le_trans hs57 (Nat.le_trans hs59 (Nat.le_trans hs61 (Nat.le_trans hs67 (Nat.le_trans hs122 hs124))))))))) (Nat.le_of_eq hzO138))
              replace hX60 := ho.ext hX60 (Nat.le_trans (Nat.le_trans hs61 (Nat.le_trans hs67 (Nat.le_trans hs122 hs124))) (Nat.le_of_eq hzO138))
              replace hX66 := ho.ext hX66 (Nat.le_trans (Nat.le_trans hs67 (Nat.le_trans hs122 hs124)) (Nat.le_of_eq hzO138))
              replace hX70 := ho.ext hX70 (Nat.le_trans (Nat.le_trans hs122 hs124) (Nat.le_of_eq hzO138))
              replace v144 := ho.va (Nat.ne_of_lt (Nat.lt_of_lt_of_le lt141 hn145)) v144
              have hs150 : w146.heap.size ≤ X149.heap.size := Nat.le_of_eq ho.size.symm
              clear ho hk bO138_0
              have bO138_0 := hv0; clear hv0
              refine ⟨⟨(BoxAt.ext hX60 bO10_0).1, (hX31.cell fc0), (hX25.cell d1)⟩, ?_⟩
              refine wd_take 15 (.int .i64 0) hR rfl (by kernel_rfl) rfl (by kernel_rfl) (fun w _ => by kernel_rfl) (⟨(BoxAt.ext hX60 bO10_0).1, (hX31.cell fc0), (hX25.cell d1)⟩) ?_
              refine wd_end hL hR hK (by kernel_rfl) ?_
              exact qw_leaf hJ [7, 8, 9, 15, 16, 18, 19, 20, 21] (ws' := [(7, .pointer (some ⟨O10, 0, none⟩)), (8, .slice (some ⟨sb, so, none⟩) t17 lc19), (9, .slice (some ⟨fb, fo, none⟩) few.length fc27), (15, .int .i64 (((kk : Nat) : Int) : Int)), (16, .int .i64 ((((Globe.bitsL kk p).length : Nat) : Int) : Int)), (18, .slice a9 i c9), (19, .int .i64 (((i : Nat) : Int) : Int)), (20, .pointer (some ⟨O138, 0, none⟩)), (21, .int .i64 0)]) (by kernel_rfl) ⟨B142, k143, O138, rfl, hE, hX25, hX31, hX60, hX66, hX70, v144, bO138_0, (Nat.le_trans hs124 (Nat.le_trans hs140 (Nat.le_trans hs147 hs150))), (Nat.le_trans (Nat.le_trans hs124 hs140) hn145), (Nat.le_trans hs124 (Nat.le_of_eq hzO138)), Lib.hid (Nat.ne_of_gt (Nat.lt_of_lt_of_le lt141 hn145))⟩
          ·
            clear hE hX25 hX31 hX60 hX66 hX70
            rintro L ws Y151 ⟨B125, k126, O132, rfl, hE, hX25, hX31, hX60, hX66, hX70, v127, bO132_0, hn152, hn153, hn154, hn155⟩
            have lt156 := v127.lt
            have lt157 := bO132_0.lt
            refine qw_then ?_
            refine cw_seq ?_
            refine cw_seq ?_
            refine cw_plain ?_
            refine pl_take (.int .i64 0) rfl (by kernel_rfl) (by kernel_rfl) (by kernel_rfl) (by kernel_rfl) ?_
            refine pl_take (.bool false) rfl (by kernel_rfl) (by kernel_rfl) (by kernel_rfl) (by kernel_rfl) ?_
            refine pl_take (.bool false) rfl (by kernel_rfl) (by kernel_rfl) (by kernel_rfl) (by kernel_rfl) ?_
            refine pl_take (.agg #[.slice (some ⟨B125, 0, none⟩) 24 k126]) rfl (by kernel_rfl) (by kernel_rfl) (by kernel_rfl) (ex_load rfl (by kernel_rfl) (ld25 (bO132_0.1))) ?_
            refine pl_step rfl (by kernel_rfl) (by kernel_rfl) (by kernel_rfl) (sn_call (f := 29) (args := #[.agg #[.slice (some ⟨B125, 0, none⟩) 24 k126]]) (by kernel_rfl) ((Count_v _ _ v127 (Ext.refl _) (hT.ext hE)).mono ?_))
            rintro e w158 ⟨rfl, hb⟩
            replace hE := hE.trans hb
            replace hX25 := hX25.trans hb
            replace hX31 := hX31.trans hb
            replace hX60 := hX60.trans hb
            replace hX66 := hX66.trans hb
            replace hX70 := hX70.trans hb
            replace v127 := v127.ext hb
            replace bO132_0 := BoxAt.ext hb bO132_0
            have hs159 := hb.size
            clear hb
            refine ⟨_, rfl, ?_⟩
            refine pl_take (.bool false) rfl (by kernel_rfl) (by kernel_rfl) (by kernel_rfl) (ev_neq (show _ = Result.ok (Next.value (Value.bool (((((Globe.cellsTo (Globe.meetL (areaL q0 n0) s.1) 24).length : Nat) : Int) : Int) == (0 : Int)))) _ from by kernel_rfl) (by omega)) ?_
            refine pl_take (.bool false) rfl (by kernel_rfl) (by kernel_rfl) (by kernel_rfl) (by kernel_rfl) ?_
            refine pl_nil ?_
            refine qw_then ?_
            refine cw_clean [7, 8, 9, 15, 16, 18, 19, 142] (ws' := [(7, .pointer (some ⟨O10, 0, none⟩)), (8, .slice (some ⟨sb, so, none⟩) t17 lc19), (9, .slice (some ⟨fb, fo, none⟩) few.length fc27), (15, .int .i64 (((kk : Nat) : Int) : Int)), (16, .int .i64 ((((Globe.bitsL kk p).length : Nat) : Int) : Int)), (18, .slice a9 i c9), (19, .int .i64 (((i : Nat) : Int) : Int)), (142, .bool false)]) (by kernel_rfl) (fun L => ?_)
            refine cw_f (by kernel_rfl) ?_
            refine cw_skip ?_
            refine qw_then ?_
            refine cw_plain ?_
            refine pl_take (.slice a9 i c9) rfl (by kernel_rfl) (by kernel_rfl) (by kernel_rfl) (by kernel_rfl) ?_
            refine pl_take (.slice (some ⟨sb, so, none⟩) t17 lc19) rfl (by kernel_rfl) (by kernel_rfl) (by kernel_rfl) (by kernel_rfl) ?_
            refine pl_take (.slice (some ⟨fb, fo, none⟩) few.length fc27) rfl (by kernel_rfl) (by kernel_rfl) (by kernel_rfl) (by kernel_rfl) ?_
            refine pl_take (.int .i64 (((i : Nat) : Int) : Int)) rfl (by kernel_rfl) (by kernel_rfl) (by kernel_rfl) (by kernel_rfl) ?_
            refine pl_take (.pointer (some ⟨fb, fo + i, none⟩)) rfl (by kernel_rfl) (by kernel_rfl) (by kernel_rfl) (ex_index (p := .slice (some ⟨fb, fo, none⟩) few.length fc27) (i := .int .i64 ((i : Nat) : Int)) rfl (by kernel_rfl) (by kernel_rfl) (ix23 (by omega))) ?_
            refine pl_take (.int .i64 (((D : Nat) : Int) : Int)) rfl (by kernel_rfl) (by kernel_rfl) (by kernel_rfl) (ex_load rfl (by kernel_rfl) (ld3 ((hX31.cell fc0)))) ?_
            refine pl_take (.pointer (some ⟨sb, so + D * 2, none⟩)) rfl (by kernel_rfl) (by kernel_rfl) (by kernel_rfl) (ex_index (p := .slice (some ⟨sb, so, none⟩) t17 lc19) (i := .int .i64 ((D : Nat) : Int)) rfl (by kernel_rfl) (by kernel_rfl) (ix26 (by omega))) ?_
            refine pl_take (.agg #[.slice (some ⟨S1, s1, none⟩) 24 e1, .slice (some ⟨S2, s2, none⟩) 24 e2]) rfl (by kernel_rfl) (by kernel_rfl) (by kernel_rfl) (ex_load rfl (by kernel_rfl) (ld28 ((hX25.cell d1)) ((hX25.cell d2)))) ?_
            refine pl_step rfl (by kernel_rfl) (by kernel_rfl) (by kernel_rfl) (sn_newS (us := #[.slice (some ⟨S1, s1, none⟩) 24 e1, .slice (some ⟨S2, s2, none⟩) 24 e2]) (t := 28) (k := 1) (c := 1) (by kernel_rfl) ?_)
            intro O160 X161 hO hOs hb hbx
            have hzO160 := hO; have hyO160 := hOs; clear hO hOs
            have bO160_0 : BoxAt X161 O160 0 (.slice (some ⟨S1, s1, none⟩) 24 e1) := hbx 0 _ rfl
            have bO160_1 : BoxAt X161 O160 1 (.slice (some ⟨S2, s2, none⟩) 24 e2) := hbx 1 _ rfl
            clear hbx
            replace hE := hE.trans hb
            replace hX25 := hX25.trans hb
            replace hX31 := hX31.trans hb
            replace hX60 := hX60.trans hb
            replace hX66 := hX66.trans hb
            replace hX70 := hX70.trans hb
            replace v127 := v127.ext hb
            replace bO132_0 := BoxAt.ext hb bO132_0
            have hs162 := hb.size
            clear hb
            have lt163 := bO160_0.lt
            obtain ⟨g164, cap165, w166, hrun167, own168, hgr169⟩ := own_app1 (P := Tryd.prog) (ty := 26) stripT (own9.ext hX70) (Nat.le_trans hs67 (Nat.le_trans hs122 (Nat.le_trans hn152 (Nat.le_trans hs159 hs162)))) (k := i) hlen9 (O := O160) (c := 1) (x := s) (d := [.slice (some ⟨S1, s1, none⟩) 24 e1, .slice (some ⟨S2, s2, none⟩) 24 e2]) rfl (cells2 bO160_0.1 bO160_1.1) (by simp [Value.oneCell']) (⟨_, _, _, _, _, _, rfl, (g1.ext hX25), (g2.ext hX25), rfl⟩) (below2 hnb (Nat.lt_of_lt_of_le lg1 (Nat.le_trans hs30 (Nat.le_trans hs43 (Nat.le_trans hs48 (Nat.le_trans hs52 (Nat.le_trans hs55 (Nat.le_trans hs57 (Nat.le_trans hs59 hs61)))))))) (Nat.lt_of_lt_of_le lg2 (Nat.le_trans hs30 (Nat.le_trans hs43 (Nat.le_trans hs48 (Nat.le_trans hs52 (Nat.le_trans hs55 (Nat.le_trans hs57 (Nat.le_trans hs59 hs61))))))))) (by omega) (by omega)
            refine pl_step rfl (by kernel_rfl) (by kernel_rfl) (by kernel_rfl) (sn_eff (v := .slice (some ⟨g164, 0, none⟩) (i + 1) cap165) (w' := w166) (ex_append rfl (by kernel_rfl) (by kernel_rfl) hrun167) ?_)
            replace hE := hgr169.ext _ hE (Nat.le_trans hs2 (Nat.le_trans hs8 (Nat.le_trans hs12 (Nat.le_trans hs15 (Nat.le_trans hs24 (Nat.le_trans hs30 (Nat.le_trans hs43 (Nat.le_trans hs48 (Nat.le_trans hs52 (Nat.le_trans hs55 (Nat.le_trans hs57 (Nat.le_trans hs59 hs61))))))))))))
            replace hX25 := hgr169.ext _ hX25 (Nat.le_trans hs30 (Nat.le_trans hs43 (Nat.le_trans hs48 (Nat.le_trans hs52 (Nat.le_trans hs55 (Nat.le_trans hs57 (Nat.le_trans hs59 hs61)))))))
            replace hX31 := hgr169.ext _ hX31 (Nat.le_trans hs43 (Nat.le_trans hs48 (Nat.le_trans hs52 (Nat.le_trans hs55 (Nat.le_trans hs57 (Nat.le_trans hs59 hs61))))))
            replace hX60 := hgr169.ext _ hX60 hs61
            replace hX66 := hgr169.ext _ hX66 (Nat.le_refl _)
            have hs170 := hgr169.size
            rw [show (Globe.chS ss16 (few.take i)) ++ [s] = (Globe.chS ss16 (few.take (i + 1))) from (Globe.chS_snoc hD hs).symm] at own168
            refine pl_take (.slice (some ⟨g164, 0, none⟩) (i + 1) cap165) rfl (by kernel_rfl) (by kernel_rfl) (by kernel_rfl) (by kernel_rfl) ?_
            refine pl_nil ?_
            refine qw_block ?_
            refine qw_then ?_
            refine cw_clean [7, 8, 9, 15, 16, 18, 19] (ws' := [(7, .pointer (some ⟨O10, 0, none⟩)), (8, .slice (some ⟨sb, so, none⟩) t17 lc19), (9, .slice (some ⟨fb, fo, none⟩) few.length fc27), (15, .int .i64 (((kk : Nat) : Int) : Int)), (16, .int .i64 ((((Globe.bitsL kk p).length : Nat) : Int) : Int)), (18, .slice (some ⟨g164, 0, none⟩) (i + 1) cap165), (19, .int .i64 (((i : Nat) : Int) : Int))]) (by kernel_rfl) (fun L => ?_)
            refine cw_plain ?_
            refine pl_take (.int .i64 (((i : Nat) : Int) : Int)) rfl (by kernel_rfl) (by kernel_rfl) (by kernel_rfl) (by kernel_rfl) ?_
            refine pl_take (.int .i64 (((i + 1 : Nat) : Int) : Int)) rfl (by kernel_rfl) (by kernel_rfl) (by kernel_rfl) (ev_wrap (by kernel_rfl) (by omega) (by omega)) ?_
            refine pl_take (.int .i64 (((i + 1 : Nat) : Int) : Int)) rfl (by kernel_rfl) (by kernel_rfl) (by kernel_rfl) (by kernel_rfl) ?_
            refine pl_nil ?_
            refine qw_round [7, 8, 9, 15, 16, 18, 19] (ws' := [(7, .pointer (some ⟨O10, 0, none⟩)), (8, .slice (some ⟨sb, so, none⟩) t17 lc19), (9, .slice (some ⟨fb, fo, none⟩) few.length fc27), (15, .int .i64 (((kk : Nat) : Int) : Int)), (16, .int .i64 ((((Globe.bitsL kk p).length : Nat) : Int) : Int)), (18, .slice (some ⟨g164, 0, none⟩) (i + 1) cap165), (19, .int .i64 (((i + 1 : Nat) : Int) : Int))]) (by kernel_rfl) _ ?_ ⟨(some ⟨g164, 0, none⟩), (i + 1), cap165, rfl, rfl, (Nat.le_trans hs67 (Nat.le_trans hs122 (Nat.le_trans hn152 (Nat.le_trans hs159 (Nat.le_trans hs162 hs170))))), hE, hX25, hX31, hX60, hX66, own168, by omega⟩
            omega
      ·
        have hit : few.length = i := by omega
        have sM := own9.strips (hlen0 i hi) (by omega)
        rw [← hit, List.take_length] at sM
        have okM := Globe.chS_ok hok21 f2 (by rw [sS20.1]; exact f3) sS20.1
        have eM : (Globe.chS ss16 few).map (fun s => s.1) = few.map (Globe.sureAt (ss16.map fun s => s.1)) := Globe.chS_fst _ _
        have hleft : (Globe.cellsTo (Globe.leftL (areaL q0 n0) ((Globe.chS ss16 few).map fun s => s.1)) 24).length = 0 := by rw [eM]; exact of_decide_eq_true f1
        subst hit
        refine cw_seq ?_
        refine cw_seq ?_
        refine cw_plain ?_
        refine pl_take (.int .i64 (((few.length : Nat) : Int) : Int)) rfl (by kernel_rfl) (by kernel_rfl) (by kernel_rfl) (by kernel_rfl) ?_
        refine pl_take (.slice fa26 few.length fc27) rfl (by kernel_rfl) (by kernel_rfl) (by kernel_rfl) (by kernel_rfl) ?_
        refine pl_take (.int .i64 (((few.length : Nat) : Int) : Int)) rfl (by kernel_rfl) (by kernel_rfl) (by kernel_rfl) (by kernel_rfl) ?_
        refine pl_take (.bool false) rfl (by kernel_rfl) (by kernel_rfl) (by kernel_rfl) (ev_ndec (show _ = Result.ok (Next.value (Value.bool (decide ((((few.length : Nat) : Int) : Int) < (((few.length : Nat) : Int) : Int))))) _ from by kernel_rfl) (by omega)) ?_
        refine pl_nil ?_
        refine qw_then ?_
        refine cw_f (by kernel_rfl) ?_
        refine cw_exit ?_
        refine qw_then_exit ?_
        refine qw_then_exit ?_
        refine qw_block_out ?_
        refine qw_then ?_
        refine cw_seq ?_
        refine cw_plain ?_
        refine pl_take (.agg #[.slice (some ⟨B3, 0, none⟩) 24 k4]) rfl (by kernel_rfl) (by kernel_rfl) (by kernel_rfl) (ex_load rfl (by kernel_rfl) (ld25 ((BoxAt.ext hX60 bO10_0).1))) ?_
        refine pl_take (.slice a9 few.length c9) rfl (by kernel_rfl) (by kernel_rfl) (by kernel_rfl) (by kernel_rfl) ?_
        refine pl_step rfl (by kernel_rfl) (by kernel_rfl) (by kernel_rfl) (sn_call (f := 17) (args := #[.agg #[.slice (some ⟨B3, 0, none⟩) 24 k4], .slice a9 few.length c9]) (by kernel_rfl) ((Decompose_s _ _ _ (v5.ext hX60) (Ext.refl _) sM (Ext.refl _) okM).mono ?_))
        rintro e w179 ⟨pa171, pc172, B173, o174, k175, rfl, hpc176, hP177, v178, hb⟩
        replace hE := hE.trans hb
        replace hX25 := hX25.trans hb
        replace hX31 := hX31.trans hb
        replace hX60 := hX60.trans hb
        replace hX66 := hX66.trans hb
        replace hX70 := hX70.trans hb
        have hs180 := hb.size
        clear hb
        have hX181 : Ext w179 w179 := Ext.refl _
        have lt182 := v178.lt
        refine ⟨_, rfl, ?_⟩
        refine pl_take (.tuple #[.slice pa171 few.length pc172, .agg #[.slice (some ⟨B173, o174, none⟩) 24 k175], .int .i64 0]) rfl (by kernel_rfl) (by kernel_rfl) (by kernel_rfl) (by kernel_rfl) ?_
        refine pl_take (.slice pa171 few.length pc172) rfl (by kernel_rfl) (by kernel_rfl) (by kernel_rfl) (by kernel_rfl) ?_
        refine pl_take (.agg #[.slice (some ⟨B173, o174, none⟩) 24 k175]) rfl (by kernel_rfl) (by kernel_rfl) (by kernel_rfl) (by kernel_rfl) ?_
        refine pl_take (.int .i64 0) rfl (by kernel_rfl) (by kernel_rfl) (by kernel_rfl) (by kernel_rfl) ?_
        refine pl_step rfl (by kernel_rfl) (by kernel_rfl) (by kernel_rfl) (sn_new (us := #[.slice none 0 0]) (t := 25) (by kernel_rfl) ?_)
        intro O183 X184 hO hOs hb hbx
        have hzO183 := hO; have hyO183 := hOs; clear hO hOs
        have bO183_0 : BoxAt X184 O183 0 (.slice none 0 0) := hbx 0 _ rfl
        clear hbx
        replace hE := hE.trans hb
        replace hX25 := hX25.trans hb
        replace hX31 := hX31.trans hb
        replace hX60 := hX60.trans hb
        replace hX66 := hX66.trans hb
        replace hX70 := hX70.trans hb
        replace hX181 := hX181.trans hb
        replace v178 := v178.ext hb
        have hs185 := hb.size
        clear hb
        have lt186 := bO183_0.lt
        refine pl_take (.slice pa171 few.length pc172) rfl (by kernel_rfl) (by kernel_rfl) (by kernel_rfl) (by kernel_rfl) ?_
        refine pl_put rfl (by kernel_rfl) (by kernel_rfl) (sn_set (O := O183) (j := 0) (v := .slice (some ⟨B173, o174, none⟩) 24 k175) (ex_store (p := .pointer (some ⟨O183, 0, none⟩)) (v := .agg #[.slice (some ⟨B173, o174, none⟩) 24 k175]) rfl (by kernel_rfl) (by kernel_rfl) (st25 bO183_0.1 bO183_0.2)) bO183_0 ?_)
        intro X187 ho hv0 hk
        replace hE := ho.ext hE (Nat.le_trans (Nat.le_trans hs2 (Nat.le_trans hs8 (Nat.le_trans hs12 (Nat.le_trans hs15 (Nat.le_trans hs24 (Nat.le_trans hs30 (Nat.le_trans hs43 (Nat.le_trans hs48 (Nat.le_trans hs52 (Nat.le_trans hs55 (Nat.le_trans hs57 (Nat.le_trans hs59 (Nat.le_trans hs61 (Nat.le_trans hs67 hs180)))))))))))))) (Nat.le_of_eq hzO183))
        replace hX25 := ho.ext hX25 (Nat.le_trans (Nat.le_trans hs30 (Nat.le_trans hs43 (Nat.le_trans hs48 (Nat.le_trans hs52 (Nat.le_trans hs55 (Nat.le_trans hs57 (Nat.le_trans hs59 (Nat.le_trans hs61 (Nat.le_trans hs67 hs180))))))))) (Nat.le_of_eq hzO183))
        replace hX31 := ho.ext hX31 (Nat.le_trans (Nat.le_trans hs43 (Nat.le_trans hs48 (Nat.le_trans hs52 (Nat.le_trans hs55 (Nat.le_trans hs57 (Nat.le_trans hs59 (Nat.le_trans hs61 (Nat.le_trans hs67 hs180)))))))) (Nat.le_of_eq hzO183))
        replace hX60 := ho.ext hX60 (Nat.le_trans (Nat.le_trans hs61 (Nat.le_trans hs67 hs180)) (Nat.le_of_eq hzO183))
        replace hX66 := ho.ext hX66 (Nat.le_trans (Nat.le_trans hs67 hs180) (Nat.le_of_eq hzO183))
        replace hX70 := ho.ext hX70 (Nat.le_trans hs180 (Nat.le_of_eq hzO183))
        replace hX181 := ho.ext hX181 (Nat.le_of_eq hzO183)
        replace v178 := ho.va (Nat.ne_of_gt (Nat.lt_of_lt_of_le lt182 (Nat.le_of_eq hzO183))) v178
        have hs188 : X184.heap.size ≤ X187.heap.size := Nat.le_of_eq ho.size.symm
        clear ho hk bO183_0
        have bO183_0 := hv0; clear hv0
        refine pl_take (.int .i64 0) rfl (by kernel_rfl) (by kernel_rfl) (by kernel_rfl) (by kernel_rfl) ?_
        refine pl_nil ?_
        refine qw_then ?_
        refine cw_clean [7, 8, 9, 15, 16, 18, 22, 23, 24] (ws' := [(7, .pointer (some ⟨O10, 0, none⟩)), (8, .slice la18 t17 lc19), (9, .slice fa26 few.length fc27), (15, .int .i64 (((kk : Nat) : Int) : Int)), (16, .int .i64 ((((Globe.bitsL kk p).length : Nat) : Int) : Int)), (18, .slice a9 few.length c9), (22, .slice pa171 few.length pc172), (23, .pointer (some ⟨O183, 0, none⟩)), (24, .int .i64 0)]) (by kernel_rfl) (fun L => ?_)
        refine cw_seq ?_
        refine cw_plain ?_
        refine pl_take (.int .i64 0) rfl (by kernel_rfl) (by kernel_rfl) (by kernel_rfl) (by kernel_rfl) ?_
        refine pl_take (.bool true) rfl (by kernel_rfl) (by kernel_rfl) (by kernel_rfl) (by kernel_rfl) ?_
        refine pl_take (.bool true) rfl (by kernel_rfl) (by kernel_rfl) (by kernel_rfl) (by kernel_rfl) ?_
        refine pl_take (.agg #[.slice (some ⟨B173, o174, none⟩) 24 k175]) rfl (by kernel_rfl) (by kernel_rfl) (by kernel_rfl) (ex_load rfl (by kernel_rfl) (ld25 (bO183_0.1))) ?_
        refine pl_step rfl (by kernel_rfl) (by kernel_rfl) (by kernel_rfl) (sn_call (f := 29) (args := #[.agg #[.slice (some ⟨B173, o174, none⟩) 24 k175]]) (by kernel_rfl) ((Count_v _ _ v178 (Ext.refl _) (hT.ext hE)).mono ?_))
        rintro e w189 ⟨rfl, hb⟩
        replace hE := hE.trans hb
        replace hX25 := hX25.trans hb
        replace hX31 := hX31.trans hb
        replace hX60 := hX60.trans hb
        replace hX66 := hX66.trans hb
        replace hX70 := hX70.trans hb
        replace hX181 := hX181.trans hb
        replace v178 := v178.ext hb
        replace bO183_0 := BoxAt.ext hb bO183_0
        have hs190 := hb.size
        clear hb
        refine ⟨_, rfl, ?_⟩
        refine pl_take (.bool true) rfl (by kernel_rfl) (by kernel_rfl) (by kernel_rfl) (ev_eq (show _ = Result.ok (Next.value (Value.bool (((((Globe.cellsTo (Globe.leftL (areaL q0 n0) ((Globe.chS ss16 few).map fun s => s.1)) 24).length : Nat) : Int) : Int) == (0 : Int)))) _ from by kernel_rfl) (by omega)) ?_
        refine pl_take (.bool true) rfl (by kernel_rfl) (by kernel_rfl) (by kernel_rfl) (by kernel_rfl) ?_
        refine pl_take (.bool true) rfl (by kernel_rfl) (by kernel_rfl) (by kernel_rfl) (by kernel_rfl) ?_
        refine pl_take (.agg #[.slice (some ⟨B3, 0, none⟩) 24 k4]) rfl (by kernel_rfl) (by kernel_rfl) (by kernel_rfl) (ex_load rfl (by kernel_rfl) (ld25 ((BoxAt.ext hX60 bO10_0).1))) ?_
        refine pl_take (.slice a9 few.length c9) rfl (by kernel_rfl) (by kernel_rfl) (by kernel_rfl) (by kernel_rfl) ?_
        refine pl_take (.slice pa171 few.length pc172) rfl (by kernel_rfl) (by kernel_rfl) (by kernel_rfl) (by kernel_rfl) ?_
        refine pl_step rfl (by kernel_rfl) (by kernel_rfl) (by kernel_rfl) (sn_call (f := 23) (args := #[.agg #[.slice (some ⟨B3, 0, none⟩) 24 k4], .slice a9 few.length c9, .slice pa171 few.length pc172]) (by kernel_rfl) ((Check_r (r := true) _ _ _ _ (v5.ext hX60).aa (Ext.refl _) sM hX70 hP177 hX181 (hT.ext hE) (check_self v5.2 okM hleft)).mono ?_))
        rintro e w191 ⟨rfl, hb⟩
        replace hE := hE.trans hb
        replace hX25 := hX25.trans hb
        replace hX31 := hX31.trans hb
        replace hX60 := hX60.trans hb
        replace hX66 := hX66.trans hb
        replace hX70 := hX70.trans hb
        replace hX181 := hX181.trans hb
        replace v178 := v178.ext hb
        replace bO183_0 := BoxAt.ext hb bO183_0
        have hs192 := hb.size
        clear hb
        refine ⟨_, rfl, ?_⟩
        refine pl_take (.bool true) rfl (by kernel_rfl) (by kernel_rfl) (by kernel_rfl) (by kernel_rfl) ?_
        refine pl_take (.bool true) rfl (by kernel_rfl) (by kernel_rfl) (by kernel_rfl) (by kernel_rfl) ?_
        refine pl_take (.int .i64 ((((Globe.bitsL kk p).length : Nat) : Int) : Int)) rfl (by kernel_rfl) (by kernel_rfl) (by kernel_rfl) (by kernel_rfl) ?_
        refine pl_take (.slice fa26 few.length fc27) rfl (by kernel_rfl) (by kernel_rfl) (by kernel_rfl) (by kernel_rfl) ?_
        refine pl_take (.int .i64 (((few.length : Nat) : Int) : Int)) rfl (by kernel_rfl) (by kernel_rfl) (by kernel_rfl) (by kernel_rfl) ?_
        by_cases hc193 : ((((Globe.bitsL kk p).length : Nat) : Int) : Int) ≥ (((few.length : Nat) : Int) : Int)
        ·
          refine pl_take (.bool true) rfl (by kernel_rfl) (by kernel_rfl) (by kernel_rfl) (ev_dec (show _ = Result.ok (Next.value (Value.bool (decide (((((Globe.bitsL kk p).length : Nat) : Int) : Int) ≥ (((few.length : Nat) : Int) : Int))))) _ from by kernel_rfl) (hc193)) ?_
          refine pl_take (.bool true) rfl (by kernel_rfl) (by kernel_rfl) (by kernel_rfl) (by kernel_rfl) ?_
          refine pl_skip rfl (by kernel_rfl) (by kernel_rfl) (by kernel_rfl) ?_
          refine pl_skip rfl (by kernel_rfl) (by kernel_rfl) (by kernel_rfl) ?_
          refine pl_skip rfl (by kernel_rfl) (by kernel_rfl) (by kernel_rfl) ?_
          refine pl_skip rfl (by kernel_rfl) (by kernel_rfl) (by kernel_rfl) ?_
          refine pl_skip rfl (by kernel_rfl) (by kernel_rfl) (by kernel_rfl) ?_
          refine pl_take (.bool true) rfl (by kernel_rfl) (by kernel_rfl) (by kernel_rfl) (by kernel_rfl) ?_
          refine pl_take (.bool true) rfl (by kernel_rfl) (by kernel_rfl) (by kernel_rfl) (by kernel_rfl) ?_
          refine pl_take (.bool true) rfl (by kernel_rfl) (by kernel_rfl) (by kernel_rfl) (by kernel_rfl) ?_
          refine pl_nil ?_
          refine qw_then ?_
          refine cw_clean [6] (ws' := [(6, .bool true)]) (by kernel_rfl) (fun L => ?_)
          refine cw_ret ?_
          refine qw_ret [.bool true] rfl ⟨(by kernel_rfl), trivial⟩ ?_
          exact ⟨rfl, hE⟩
        ·
          have hcv : Globe.coversB (areaL q0 n0) (ss16.map fun s => s.1) kk t17 = false := by
            rw [Globe.covers_enough v5.2]
            cases hq : Globe.enough (areaL q0 n0) (ss16.map fun s => s.1) (Globe.bitsL kk t17)
            · rfl
            · have := f4 _ (Globe.bits_asc _ _) hq; rw [← hit0] at this; omega
          refine pl_take (.bool false) rfl (by kernel_rfl) (by kernel_rfl) (by kernel_rfl) (ev_ndec (show _ = Result.ok (Next.value (Value.bool (decide (((((Globe.bitsL kk p).length : Nat) : Int) : Int) ≥ (((few.length : Nat) : Int) : Int))))) _ from by kernel_rfl) (hc193)) ?_
          refine pl_take (.bool false) rfl (by kernel_rfl) (by kernel_rfl) (by kernel_rfl) (by kernel_rfl) ?_
          refine pl_take (.agg #[.slice (some ⟨B3, 0, none⟩) 24 k4]) rfl (by kernel_rfl) (by kernel_rfl) (by kernel_rfl) (ex_load rfl (by kernel_rfl) (ld25 ((BoxAt.ext hX60 bO10_0).1))) ?_
          refine pl_take (.slice la18 t17 lc19) rfl (by kernel_rfl) (by kernel_rfl) (by kernel_rfl) (by kernel_rfl) ?_
          refine pl_take (.int .i64 (((kk : Nat) : Int) : Int)) rfl (by kernel_rfl) (by kernel_rfl) (by kernel_rfl) (by kernel_rfl) ?_
          refine pl_step rfl (by kernel_rfl) (by kernel_rfl) (by kernel_rfl) (sn_call (f := 30) (args := #[.agg #[.slice (some ⟨B3, 0, none⟩) 24 k4], .slice la18 t17 lc19, .int .i64 (((kk : Nat) : Int) : Int)]) (by kernel_rfl) ((Covers_r (r := false) _ _ _ (v5.ext hX60) (Ext.refl _) sS20 hX25 hok21 (by omega) hcv).mono ?_))
          rintro e w194 ⟨rfl, hb⟩
          replace hE := hE.trans hb
          replace hX25 := hX25.trans hb
          replace hX31 := hX31.trans hb
          replace hX60 := hX60.trans hb
          replace hX66 := hX66.trans hb
          replace hX70 := hX70.trans hb
          replace hX181 := hX181.trans hb
          replace v178 := v178.ext hb
          replace bO183_0 := BoxAt.ext hb bO183_0
          have hs195 := hb.size
          clear hb
          refine ⟨_, rfl, ?_⟩
          refine pl_take (.bool true) rfl (by kernel_rfl) (by kernel_rfl) (by kernel_rfl) (by kernel_rfl) ?_
          refine pl_take (.bool true) rfl (by kernel_rfl) (by kernel_rfl) (by kernel_rfl) (by kernel_rfl) ?_
          refine pl_take (.bool true) rfl (by kernel_rfl) (by kernel_rfl) (by kernel_rfl) (by kernel_rfl) ?_
          refine pl_take (.bool true) rfl (by kernel_rfl) (by kernel_rfl) (by kernel_rfl) (by kernel_rfl) ?_
          refine pl_nil ?_
          refine qw_then ?_
          refine cw_clean [6] (ws' := [(6, .bool true)]) (by kernel_rfl) (fun L => ?_)
          refine cw_ret ?_
          refine qw_ret [.bool true] rfl ⟨(by kernel_rfl), trivial⟩ ?_
          exact ⟨rfl, hE⟩

end Go.Proofs.YtglfoglkdbbmmaaDoor

/- The statement CoverFewest: for every input the law returns true, and every argument reads as it read before; the two tables of package math/bits that the row lists are tied to the program's text. -/
namespace Go.Proofs.YtglfoglkdbbmmaaDoor
open Go.ChangeShapes Go.WideShapes Go.ChangeAt Go.RowKit

set_option maxRecDepth 100000 in
theorem CoverFewest_lifted (os : Os) (started : os.Started) (H : Type) (enc : TypeId × Value → H) :
    ReturnsInHanded {} Tryd.checked os 5 .any (fun w args => (Rows.coverFewestSpec.pre enc Tryd.prog Tryd.f5 [] false w args ∧ laidMetH Tryd.prog laidTabs w) ∧ sizedMet enc Tryd.prog Tryd.f5 (OpenSpec.ofChange Rows.coverFewestSpec) false w args)
      (Rows.coverFewestSpec.post enc Tryd.prog Tryd.f5 false true false false) := by
  refine returnsInHanded_of_change_and (C := Tryd.checked) (X := fun w _ => laidMetH Tryd.prog laidTabs w) (fun _ _ _ hh h => h.of_heap hh) own started (by kernel_rfl) Tryd.func5
    (ChangeSpec.witness_shaped (enc := enc) (C := Tryd.checked) (os := os) (X := fun w _ => laidMetH Tryd.prog laidTabs w) false (World.doorLaid Tryd.prog 19 os) #[.slice none 0 0, .slice none 0 0, .int .i64 0] 8 rfl (World.shaped_of_RefB (by kernel_rfl) (by kernel_rfl)) (by kernel_rfl) (by kernel_rfl) (by kernel_rfl) (door_met os _)) ?_
  intro W base args ds gs before hval0 hW _ hsz hL _
  have hval : ∀ (j : Nat) t v, Tryd.f5.params[j]? = some t → args[j]? = some v → Value.okWide Tryd.prog W .any base t v := hval0
  have hW' := hW
  obtain ⟨p, q, hA0, hV, rfl, hfz, hnd⟩ := hW
  have hA : DataW.TrodAll enc Tryd.prog W 0 (fun _ => true) true Tryd.f5.params.toList args.toList ds p := hA0
  rw [Tryd.params5] at hA hval
  obtain ⟨v0, vs0, d0, ds0, p0, q0, hargs, rfl, rfl, h0, r0⟩ := trodAll_cons hA
  obtain ⟨v1, vs1, d1, ds1, p1, q1, rfl, rfl, rfl, h1, r1⟩ := trodAll_cons r0
  obtain ⟨v2, vs2, d2, ds2, p2, q2, rfl, rfl, rfl, h2, r2⟩ := trodAll_cons r1
  obtain ⟨rfl, rfl, rfl⟩ := trodAll_nil r2
  obtain rfl : args = #[v0, v1, v2] := by cases args; simp_all
  obtain ⟨rfl, rfl⟩ := trodVars_none hV
  have k0 := h0
  have lt0 : ∀ x ∈ p0, x.block < W.heap.size := by obtain ⟨m, hm⟩ := k0; exact DataW.trod_lt m _ _ _ hm
  have op0 := open_quads (hval 0 _ v0 rfl rfl) h0
  have k1 := h1
  have lt1 : ∀ x ∈ p1, x.block < W.heap.size := by obtain ⟨m, hm⟩ := k1; exact DataW.trod_lt m _ _ _ hm
  have op1 := open_quads (hval 1 _ v1 rfl rfl) h1
  obtain ⟨a2, rfl, rfl, rfl, w2⟩ := open_int Tryd.underlying3 (hval 2 3 v2 rfl rfl) h2
  clear hA0 hval0
  refine (CoverFewest_walk W v0 op0 v1 op1 a2 (isI_of_wf w2) (tab_of_laid hL)).mono fun e W' ⟨he, hE⟩ => ?_
  subst he
  have bel : Below W.heap.size W W' := hE
  exact ⟨_, rfl, _, _, _, [], _, [], hW', trodAll_mk1 (shut_bool Tryd.underlying4 _), (trodAll_cons_mk (Below.trod laidOut (by kernel_rfl) (of_decide_eq_true (by kernel_rfl)) k0 bel lt0) (trodAll_cons_mk (Below.trod laidOut (by kernel_rfl) (of_decide_eq_true (by kernel_rfl)) k1 bel lt1) (trodAll_cons_mk (shut_int Tryd.underlying3 w2) trodAll_mk0))), rfl, bel.frame _, fun h => by cases h⟩

theorem CoverFewest_over : Rows.CoverFewestSaid :=
  OpenClaim.holds_of_wide 5 Tryd.f5 rfl rfl rfl rfl rfl rfl rfl ⟨rfl, rfl, rfl, rfl, rfl⟩ rfl rfl rfl rfl rfl (by kernel_rfl) Tryd.func5 (by kernel_rfl)
    (of_decide_eq_true (by kernel_rfl)) (by unfold Func.isWrapper; first | (rw [if_pos (by decide +kernel)]; kernel_rfl) | (rw [if_neg (by decide +kernel)]; exact ⟨rfl, rfl⟩))
    (fun os started H enc _ => CoverFewest_lifted os started H enc)

/-- The tied card. -/
theorem CoverFewest_holds : Rows.CoverFewestCardSaid :=
  Claim7.holds_tied_plain_at .later [] [.data, .data] true (true, "f3c7cfc24bd30fe2366dd98a5567a6f2f4e716248d39bc96b650dc6c6e3eb102") false
    CoverFewest_over (fun _ h => by cases h) (by kernel_rfl) (fun _ h => by cases h) coverFewest_row_tie rfl ⟨rfl, rfl⟩ (by kernel_rfl) rfl
    (fun f fn hf hfn => by
      obtain rfl : f = 5 := Option.some.inj ((show Tryd.prog.funcNamed "nadir/nadirlaw16.CoverFewest" = some 5 by kernel_rfl).symm.trans hf) |>.symm
      obtain rfl : fn = Tryd.f5 := (Option.some.inj (Tryd.func5.symm.trans hfn)).symm
      exact ⟨by kernel_rfl, fun j t ht => by
        rw [Tryd.params5] at ht
        have hm : t ∈ [22, 22, 3] := by simpa using Array.mem_of_getElem? ht
        have hall : ([22, 22, 3].all fun u => !Tryd.prog.wantsStandIn u) = true := by kernel_rfl
        exact (show Tryd.prog.wantsStandIn t = false by simpa using List.all_eq_true.1 hall t hm)⟩)
    (by kernel_rfl)
#print axioms CoverFewest_holds
end Go.Proofs.YtglfoglkdbbmmaaDoor
