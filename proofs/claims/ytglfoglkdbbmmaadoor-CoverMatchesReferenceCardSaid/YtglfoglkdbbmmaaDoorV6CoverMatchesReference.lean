/- Part 6 of what the proof of CoverMatchesReference stands on. -/
import Derived.Test.YtglfoglkdbbmmaaDoorV5CoverMatchesReference
/- Contracts of the reference of package cover: before, Fewest. -/
namespace Go.Proofs.YtglfoglkdbbmmaaDoor
open Go.RowKit Go.Shelf

theorem nats_at {w : World} {a : Option Addr} {l : List Nat} (h : IntsAt w a (intsN l)) (hl : 0 < l.length) : ∃ b o, a = some ⟨b, o, none⟩ ∧ ∀ (i D : Nat), l[i]? = some D → w.cell? ⟨b, o + i, none⟩ = some (.int .i64 (D : Int)) := by
  rcases h with h | ⟨b, o, rfl, h⟩
  · have := congrArg List.length h; simp [intsN] at this; rw [this] at hl; simp at hl
  · refine ⟨b, o, rfl, fun i D hD => ?_⟩
    have hi := (List.getElem?_eq_some_iff.1 hD).1
    rw [h i (by simpa [intsN] using hi), Globe.nth_lt (by simpa [intsN] using hi)]
    obtain ⟨h1, h2⟩ := List.getElem?_eq_some_iff.1 hD
    simp [intsN, h2]
/-- A natural number in a cell. -/
def natR : Rep Nat where
  rel _ c x F := c = [.int .i64 (x : Int)] ∧ F = []
  keep := fun h _ => h
  lt := by rintro w c x F ⟨_, rfl⟩ b hb; cases hb
theorem OwnL.nats {n₀ : Nat} {e : TypeId} {w : World} {a : Option Addr} {n c : Nat} {l : List Nat} (h : OwnL natR n₀ e 1 (.slice a n c) w l) (hl : l.length = n) : IntsAt w a (intsN l) := by
  subst hl
  obtain ⟨cs, h1, h2, h3, h4⟩ := h
  rcases h3.2 with ⟨_, q⟩ | ⟨g, cap, cur, hv, _⟩
  · left; rw [List.eq_nil_of_length_eq_zero q]; rfl
  · cases hv
    refine .inr ⟨g, 0, rfl, fun i hi => ?_⟩
    have hi' : i < l.length := by simpa [intsN] using hi
    obtain ⟨d, hd⟩ : ∃ d, cs[i]? = some d := ⟨_, List.getElem?_eq_getElem (by rw [h1]; exact hi')⟩
    obtain ⟨F, ⟨rfl, rfl⟩, _⟩ := h4 i _ d (List.getElem?_eq_getElem hi') hd
    have := own_cell h3 (j := i) (by omega) (by simpa using flatten_get h2 i hd 0 (by omega))
    rw [this, Globe.nth_lt (by simpa [intsN] using hi)]
    simp [intsN]
theorem bits_yes {S i : Nat} (h : S / 2 ^ i % 2 = 1) : Globe.bitsL S (i + 1) = Globe.bitsL S i ++ [i] := by
  unfold Globe.bitsL; rw [List.range_succ, List.filter_append]; simp [Globe.bit_of_one h]
theorem bits_no {S i : Nat} (h : ¬ S / 2 ^ i % 2 = 1) : Globe.bitsL S (i + 1) = Globe.bitsL S i := by
  unfold Globe.bitsL; rw [List.range_succ, List.filter_append]
  have : S.testBit i = false := by
    cases hq : S.testBit i
    · rfl
    · exact absurd (Globe.bit_one hq) h
  simp [this]
theorem less4 (x b : List Nat) : (b.length < x.length ∧ ¬ Globe.less2 x b) ∨ (x.length < b.length ∧ Globe.less2 x b) ∨ (x.length = b.length ∧ Globe.ltB x b = false ∧ ¬ Globe.less2 x b) ∨ (x.length = b.length ∧ Globe.ltB x b = true ∧ Globe.less2 x b) := by
  rcases Nat.lt_trichotomy x.length b.length with q | q | q
  · exact .inr (.inl ⟨q, .inl q⟩)
  · cases hl : Globe.ltB x b
    · exact .inr (.inr (.inl ⟨q, rfl, fun e => by rcases e with e | ⟨_, e⟩; omega; rw [hl] at e; cases e⟩))
    · exact .inr (.inr (.inr ⟨q, rfl, .inr ⟨q, hl⟩⟩))
  · exact .inl ⟨q, fun e => by rcases e with e | ⟨e, _⟩ <;> omega⟩
theorem lt_drop {x y : List Nat} {i D1 D2 : Nat} (h1 : x[i]? = some D1) (h2 : y[i]? = some D2) : Globe.ltB (x.drop i) (y.drop i) = if D1 = D2 then Globe.ltB (x.drop (i + 1)) (y.drop (i + 1)) else decide (D1 < D2) := by
  obtain ⟨q1, e1⟩ := List.getElem?_eq_some_iff.1 h1
  obtain ⟨q2, e2⟩ := List.getElem?_eq_some_iff.1 h2
  rw [List.drop_eq_getElem_cons q1, List.drop_eq_getElem_cons q2, e1, e2]; rfl
theorem b5 {n : Nat} {v r : Bool} (h : (decide (n ≤ 12) && (v && r)) = false) : v = false ∨ (v = true ∧ r = false) ∨ (v = true ∧ r = true ∧ 12 < n) := by
  cases v
  · exact .inl rfl
  · cases r
    · exact .inr (.inl ⟨rfl, rfl⟩)
    · refine .inr (.inr ⟨rfl, rfl, ?_⟩)
      by_cases e : n ≤ 12
      · rw [decide_eq_true e] at h; cases h
      · omega
def FewErr (w : World) (e : Ending) (w' : World) : Prop := e = .returned (.tuple #[.slice none 0 0, .bool false, .int .i64 160]) ∧ Ext w w'
set_option maxRecDepth 1000000 in
set_option maxHeartbeats 4000000 in
theorem before_c {w1 w2 : World} {a b : Option Addr} {n : Nat} {x y : List Nat} (c1 c2 : Nat) (w : World) (h1 : IntsAt w1 a (intsN x)) (e1 : Ext w1 w) (h2 : IntsAt w2 b (intsN y)) (e2 : Ext w2 w) (hx : x.length = n) (hy : y.length = n) (hn : n ≤ 1000) :
    Calls Tryd.prog 55 #[.slice a n c1, .slice b n c2] w fun e w' => e = .returned (.bool (Globe.ltB x y)) ∧ Ext w w' := by
  have hA := h1.ext e1; have hB := h2.ext e2
  refine calls_cw 30 [(1, .slice b n c2), (0, .slice a n c1)] Tryd.func55 rfl Tryd.ntmps55 (by kernel_rfl) (by kernel_rfl) (fun L => ?_)
  have hE : Ext w w := Ext.refl w
  refine cw_seq ?_
  refine cw_plain ?_
  refine pl_take (.bool false) rfl (by kernel_rfl) (by kernel_rfl) (by kernel_rfl) (by kernel_rfl) ?_
  refine pl_nil ?_
  refine qw_then ?_
  refine cw_seq ?_
  refine cw_seq ?_
  refine cw_plain ?_
  refine pl_take (.int .i64 0) rfl (by kernel_rfl) (by kernel_rfl) (by kernel_rfl) (by kernel_rfl) ?_
  refine pl_nil ?_
  refine qw_then ?_
  refine cw_block ?_
  refine cw_loop [0, 1, 5] (fun ws' wr m => ∃ i : Nat, ws' = [(0, .slice a n c1), (1, .slice b n c2), (5, .int .i64 (((i : Nat) : Int) : Int))] ∧ m = n - i ∧ w.heap.size ≤ wr.heap.size ∧ Ext w wr ∧ i ≤ n ∧ Globe.ltB x y = Globe.ltB (x.drop i) (y.drop i)) (ws0 := [(0, .slice a n c1), (1, .slice b n c2), (5, .int .i64 0)]) (by kernel_rfl) _ ⟨0, rfl, rfl, Nat.le_refl _, hE, by omega, rfl⟩ ?_
  clear hE
  rintro m3 L ws w2 ⟨i, rfl, rfl, hs1, hE, hi, Hl⟩
  by_cases hlt : i < n
  ·
    obtain ⟨D1, hD1⟩ : ∃ D, x[i]? = some D := ⟨_, List.getElem?_eq_getElem (by omega)⟩
    obtain ⟨D2, hD2⟩ : ∃ D, y[i]? = some D := ⟨_, List.getElem?_eq_getElem (by omega)⟩
    obtain ⟨b1, o1, rfl, F1⟩ := nats_at hA (by omega)
    obtain ⟨b2, o2, rfl, F2⟩ := nats_at hB (by omega)
    have f1 := F1 i D1 hD1; have f2 := F2 i D2 hD2
    have hdr := lt_drop hD1 hD2
    refine cw_seq ?_
    refine cw_seq ?_
    refine cw_plain ?_
    refine pl_take (.int .i64 (((i : Nat) : Int) : Int)) rfl (by kernel_rfl) (by kernel_rfl) (by kernel_rfl) (by kernel_rfl) ?_
    refine pl_take (.slice (some ⟨b1, o1, none⟩) n c1) rfl (by kernel_rfl) (by kernel_rfl) (by kernel_rfl) (by kernel_rfl) ?_
    refine pl_take (.int .i64 (((n : Nat) : Int) : Int)) rfl (by kernel_rfl) (by kernel_rfl) (by kernel_rfl) (by kernel_rfl) ?_
    refine pl_take (.bool true) rfl (by kernel_rfl) (by kernel_rfl) (by kernel_rfl) (ev_dec (show _ = Result.ok (Next.value (Value.bool (decide ((((i : Nat) : Int) : Int) < (((n : Nat) : Int) : Int))))) _ from by kernel_rfl) (by omega)) ?_
    refine pl_nil ?_
    refine qw_then ?_
    refine cw_t (by kernel_rfl) ?_
    refine cw_skip ?_
    refine qw_then ?_
    refine cw_seq ?_
    refine cw_block ?_
    refine cw_seq ?_
    rcases Nat.lt_trichotomy D1 D2 with hd | hd | hd
    ·
      refine cw_draw [(some 12, [0], []), (some 13, [5], []), (some 14, [12, 13], [0, 1]), (some 15, [14], [2]), (some 16, [1], []), (some 17, [5], []), (some 18, [16, 17], [4, 5]), (some 19, [18], [6]), (some 20, [15, 19], [3, 7])] (fun w' => w'.cell? ⟨b1, o1 + i, none⟩ = some (.int .i64 (((D1 : Nat) : Int) : Int)) ∧ w'.cell? ⟨b2, o2 + i, none⟩ = some (.int .i64 (((D2 : Nat) : Int) : Int))) (by kernel_rfl) (by kernel_rfl) (by kernel_rfl) (by kernel_rfl) ((calm_then (calm_block (calm_then (calm_then (calm_block (calm_then calm_body))))))) (⟨(hE.cell f1), (hE.cell f2)⟩) (fun ops Q X4 hb hL hR hK => ?_)
      replace hE := hE.trans hb
      have hs5 := hb.size
      clear hb
      refine wd_take 0 (.slice (some ⟨b1, o1, none⟩) n c1) hR rfl (by kernel_rfl) rfl (by kernel_rfl) (fun w _ => by kernel_rfl) (⟨(hE.cell f1), (hE.cell f2)⟩) ?_
      refine wd_take 1 (.int .i64 (((i : Nat) : Int) : Int)) hR rfl (by kernel_rfl) rfl (by kernel_rfl) (fun w _ => by kernel_rfl) (⟨(hE.cell f1), (hE.cell f2)⟩) ?_
      refine wd_take 2 (.pointer (some ⟨b1, o1 + i, none⟩)) hR rfl (by kernel_rfl) rfl (by kernel_rfl) (fun w _ => ex_index (p := .slice (some ⟨b1, o1, none⟩) n c1) (i := .int .i64 ((i : Nat) : Int)) rfl (by kernel_rfl) (by kernel_rfl) (ix23 (k := i) (by omega))) (⟨(hE.cell f1), (hE.cell f2)⟩) ?_
      refine wd_take 3 (.int .i64 (((D1 : Nat) : Int) : Int)) hR rfl (by kernel_rfl) rfl (by kernel_rfl) (fun w hS => ex_load rfl (by kernel_rfl) (ld3 (hS.1))) (⟨(hE.cell f1), (hE.cell f2)⟩) ?_
      refine wd_take 4 (.slice (some ⟨b2, o2, none⟩) n c2) hR rfl (by kernel_rfl) rfl (by kernel_rfl) (fun w _ => by kernel_rfl) (⟨(hE.cell f1), (hE.cell f2)⟩) ?_
      refine wd_take 5 (.int .i64 (((i : Nat) : Int) : Int)) hR rfl (by kernel_rfl) rfl (by kernel_rfl) (fun w _ => by kernel_rfl) (⟨(hE.cell f1), (hE.cell f2)⟩) ?_
      refine wd_take 6 (.pointer (some ⟨b2, o2 + i, none⟩)) hR rfl (by kernel_rfl) rfl (by kernel_rfl) (fun w _ => ex_index (p := .slice (some ⟨b2, o2, none⟩) n c2) (i := .int .i64 ((i : Nat) : Int)) rfl (by kernel_rfl) (by kernel_rfl) (ix23 (k := i) (by omega))) (⟨(hE.cell f1), (hE.cell f2)⟩) ?_
      refine wd_take 7 (.int .i64 (((D2 : Nat) : Int) : Int)) hR rfl (by kernel_rfl) rfl (by kernel_rfl) (fun w hS => ex_load rfl (by kernel_rfl) (ld3 (hS.2))) (⟨(hE.cell f1), (hE.cell f2)⟩) ?_
      refine wd_take 8 (.bool true) hR rfl (by kernel_rfl) rfl (by kernel_rfl) (fun w _ => ev_ne (show _ = Result.ok (Next.value (Value.bool ((((D1 : Nat) : Int) : Int) != (((D2 : Nat) : Int) : Int)))) _ from by kernel_rfl) (by omega)) (⟨(hE.cell f1), (hE.cell f2)⟩) ?_
      refine wd_end hL hR hK (by kernel_rfl) ?_
      refine qw_then ?_
      refine cw_clean [0, 1, 5, 20] (ws' := [(0, .slice (some ⟨b1, o1, none⟩) n c1), (1, .slice (some ⟨b2, o2, none⟩) n c2), (5, .int .i64 (((i : Nat) : Int) : Int)), (20, .bool true)]) (by kernel_rfl) (fun L => ?_)
      refine cw_t (by kernel_rfl) ?_
      refine cw_seq ?_
      refine cw_draw [(some 21, [0], []), (some 22, [5], []), (some 23, [21, 22], [0, 1]), (some 24, [23], [2]), (some 25, [1], []), (some 26, [5], []), (some 27, [25, 26], [4, 5]), (some 28, [27], [6]), (some 29, [24, 28], [3, 7]), (some 4, [29], [8, 0, 1, 2, 3, 4, 5, 6, 7, 8])] (fun w' => w'.cell? ⟨b1, o1 + i, none⟩ = some (.int .i64 (((D1 : Nat) : Int) : Int)) ∧ w'.cell? ⟨b2, o2 + i, none⟩ = some (.int .i64 (((D2 : Nat) : Int) : Int))) (by kernel_rfl) (by kernel_rfl) (by kernel_rfl) (by kernel_rfl) ((calm_then (calm_block (calm_then (calm_then (calm_block (calm_then calm_body))))))) (⟨(hE.cell f1), (hE.cell f2)⟩) (fun ops Q X6 hb hL hR hK => ?_)
      replace hE := hE.trans hb
      have hs7 := hb.size
      clear hb
      refine wd_take 0 (.slice (some ⟨b1, o1, none⟩) n c1) hR rfl (by kernel_rfl) rfl (by kernel_rfl) (fun w _ => by kernel_rfl) (⟨(hE.cell f1), (hE.cell f2)⟩) ?_
      refine wd_take 1 (.int .i64 (((i : Nat) : Int) : Int)) hR rfl (by kernel_rfl) rfl (by kernel_rfl) (fun w _ => by kernel_rfl) (⟨(hE.cell f1), (hE.cell f2)⟩) ?_
      refine wd_take 2 (.pointer (some ⟨b1, o1 + i, none⟩)) hR rfl (by kernel_rfl) rfl (by kernel_rfl) (fun w _ => ex_index (p := .slice (some ⟨b1, o1, none⟩) n c1) (i := .int .i64 ((i : Nat) : Int)) rfl (by kernel_rfl) (by kernel_rfl) (ix23 (k := i) (by omega))) (⟨(hE.cell f1), (hE.cell f2)⟩) ?_
      refine wd_take 3 (.int .i64 (((D1 : Nat) : Int) : Int)) hR rfl (by kernel_rfl) rfl (by kernel_rfl) (fun w hS => ex_load rfl (by kernel_rfl) (ld3 (hS.1))) (⟨(hE.cell f1), (hE.cell f2)⟩) ?_
      refine wd_take 4 (.slice (some ⟨b2, o2, none⟩) n c2) hR rfl (by kernel_rfl) rfl (by kernel_rfl) (fun w _ => by kernel_rfl) (⟨(hE.cell f1), (hE.cell f2)⟩) ?_
      refine wd_take 5 (.int .i64 (((i : Nat) : Int) : Int)) hR rfl (by kernel_rfl) rfl (by kernel_rfl) (fun w _ => by kernel_rfl) (⟨(hE.cell f1), (hE.cell f2)⟩) ?_
      refine wd_take 6 (.pointer (some ⟨b2, o2 + i, none⟩)) hR rfl (by kernel_rfl) rfl (by kernel_rfl) (fun w _ => ex_index (p := .slice (some ⟨b2, o2, none⟩) n c2) (i := .int .i64 ((i : Nat) : Int)) rfl (by kernel_rfl) (by kernel_rfl) (ix23 (k := i) (by omega))) (⟨(hE.cell f1), (hE.cell f2)⟩) ?_
      refine wd_take 7 (.int .i64 (((D2 : Nat) : Int) : Int)) hR rfl (by kernel_rfl) rfl (by kernel_rfl) (fun w hS => ex_load rfl (by kernel_rfl) (ld3 (hS.2))) (⟨(hE.cell f1), (hE.cell f2)⟩) ?_
      refine wd_take 8 (.bool true) hR rfl (by kernel_rfl) rfl (by kernel_rfl) (fun w _ => ev_dec (show _ = Result.ok (Next.value (Value.bool (decide ((((D1 : Nat) : Int) : Int) < (((D2 : Nat) : Int) : Int))))) _ from by kernel_rfl) (by omega)) (⟨(hE.cell f1), (hE.cell f2)⟩) ?_
      refine wd_take 9 (.bool true) hR rfl (by kernel_rfl) rfl (by kernel_rfl) (fun w _ => by kernel_rfl) (⟨(hE.cell f1), (hE.cell f2)⟩) ?_
      refine wd_end hL hR hK (by kernel_rfl) ?_
      refine qw_then ?_
      refine cw_ret ?_
      refine qw_block_ret ?_
      refine qw_then_ret ?_
      refine qw_then_ret ?_
      refine qw_block_ret ?_
      refine qw_then_ret ?_
      refine qw_ret [.bool true] rfl ⟨(by kernel_rfl), trivial⟩ ?_
      exact ⟨congrArg (fun b => Ending.returned (Value.bool b)) (by rw [Hl, hdr, if_neg (by omega)]; exact (decide_eq_true (by omega)).symm), hE⟩
    ·
      refine cw_draw [(some 12, [0], []), (some 13, [5], []), (some 14, [12, 13], [0, 1]), (some 15, [14], [2]), (some 16, [1], []), (some 17, [5], []), (some 18, [16, 17], [4, 5]), (some 19, [18], [6]), (some 20, [15, 19], [3, 7])] (fun w' => w'.cell? ⟨b1, o1 + i, none⟩ = some (.int .i64 (((D1 : Nat) : Int) : Int)) ∧ w'.cell? ⟨b2, o2 + i, none⟩ = some (.int .i64 (((D2 : Nat) : Int) : Int))) (by kernel_rfl) (by kernel_rfl) (by kernel_rfl) (by kernel_rfl) ((calm_then (calm_block (calm_then (calm_then (calm_block (calm_then calm_body))))))) (⟨(hE.cell f1), (hE.cell f2)⟩) (fun ops Q X8 hb hL hR hK => ?_)
      replace hE := hE.trans hb
      have hs9 := hb.size
      clear hb
      refine wd_take 0 (.slice (some ⟨b1, o1, none⟩) n c1) hR rfl (by kernel_rfl) rfl (by kernel_rfl) (fun w _ => by kernel_rfl) (⟨(hE.cell f1), (hE.cell f2)⟩) ?_
      refine wd_take 1 (.int .i64 (((i : Nat) : Int) : Int)) hR rfl (by kernel_rfl) rfl (by kernel_rfl) (fun w _ => by kernel_rfl) (⟨(hE.cell f1), (hE.cell f2)⟩) ?_
      refine wd_take 2 (.pointer (some ⟨b1, o1 + i, none⟩)) hR rfl (by kernel_rfl) rfl (by kernel_rfl) (fun w _ => ex_index (p := .slice (some ⟨b1, o1, none⟩) n c1) (i := .int .i64 ((i : Nat) : Int)) rfl (by kernel_rfl) (by kernel_rfl) (ix23 (k := i) (by omega))) (⟨(hE.cell f1), (hE.cell f2)⟩) ?_
      refine wd_take 3 (.int .i64 (((D1 : Nat) : Int) : Int)) hR rfl (by kernel_rfl) rfl (by kernel_rfl) (fun w hS => ex_load rfl (by kernel_rfl) (ld3 (hS.1))) (⟨(hE.cell f1), (hE.cell f2)⟩) ?_
      refine wd_take 4 (.slice (some ⟨b2, o2, none⟩) n c2) hR rfl (by kernel_rfl) rfl (by kernel_rfl) (fun w _ => by kernel_rfl) (⟨(hE.cell f1), (hE.cell f2)⟩) ?_
      refine wd_take 5 (.int .i64 (((i : Nat) : Int) : Int)) hR rfl (by kernel_rfl) rfl (by kernel_rfl) (fun w _ => by kernel_rfl) (⟨(hE.cell f1), (hE.cell f2)⟩) ?_
      refine wd_take 6 (.pointer (some ⟨b2, o2 + i, none⟩)) hR rfl (by kernel_rfl) rfl (by kernel_rfl) (fun w _ => ex_index (p := .slice (some ⟨b2, o2, none⟩) n c2) (i := .int .i64 ((i : Nat) : Int)) rfl (by kernel_rfl) (by kernel_rfl) (ix23 (k := i) (by omega))) (⟨(hE.cell f1), (hE.cell f2)⟩) ?_
      refine wd_take 7 (.int .i64 (((D2 : Nat) : Int) : Int)) hR rfl (by kernel_rfl) rfl (by kernel_rfl) (fun w hS => ex_load rfl (by kernel_rfl) (ld3 (hS.2))) (⟨(hE.cell f1), (hE.cell f2)⟩) ?_
      refine wd_take 8 (.bool false) hR rfl (by kernel_rfl) rfl (by kernel_rfl) (fun w _ => ev_nne (show _ = Result.ok (Next.value (Value.bool ((((D1 : Nat) : Int) : Int) != (((D2 : Nat) : Int) : Int)))) _ from by kernel_rfl) (by omega)) (⟨(hE.cell f1), (hE.cell f2)⟩) ?_
      refine wd_end hL hR hK (by kernel_rfl) ?_
      refine qw_then ?_
      refine cw_clean [0, 1, 5, 20] (ws' := [(0, .slice (some ⟨b1, o1, none⟩) n c1), (1, .slice (some ⟨b2, o2, none⟩) n c2), (5, .int .i64 (((i : Nat) : Int) : Int)), (20, .bool false)]) (by kernel_rfl) (fun L => ?_)
      refine cw_f (by kernel_rfl) ?_
      refine cw_skip ?_
      refine qw_block ?_
      refine qw_then ?_
      refine cw_plain ?_
      refine pl_take (.int .i64 (((i : Nat) : Int) : Int)) rfl (by kernel_rfl) (by kernel_rfl) (by kernel_rfl) (by kernel_rfl) ?_
      refine pl_take (.int .i64 (((i + 1 : Nat) : Int) : Int)) rfl (by kernel_rfl) (by kernel_rfl) (by kernel_rfl) (ev_wrap (by kernel_rfl) (by omega) (by omega)) ?_
      refine pl_take (.int .i64 (((i + 1 : Nat) : Int) : Int)) rfl (by kernel_rfl) (by kernel_rfl) (by kernel_rfl) (by kernel_rfl) ?_
      refine pl_nil ?_
      refine qw_round [0, 1, 5] (ws' := [(0, .slice (some ⟨b1, o1, none⟩) n c1), (1, .slice (some ⟨b2, o2, none⟩) n c2), (5, .int .i64 (((i + 1 : Nat) : Int) : Int))]) (by kernel_rfl) _ ?_ ⟨(i + 1), rfl, rfl, (Nat.le_trans hs1 hs9), hE, by omega, (by rw [Hl, hdr, if_pos hd])⟩
      omega
    ·
      refine cw_draw [(some 12, [0], []), (some 13, [5], []), (some 14, [12, 13], [0, 1]), (some 15, [14], [2]), (some 16, [1], []), (some 17, [5], []), (some 18, [16, 17], [4, 5]), (some 19, [18], [6]), (some 20, [15, 19], [3, 7])] (fun w' => w'.cell? ⟨b1, o1 + i, none⟩ = some (.int .i64 (((D1 : Nat) : Int) : Int)) ∧ w'.cell? ⟨b2, o2 + i, none⟩ = some (.int .i64 (((D2 : Nat) : Int) : Int))) (by kernel_rfl) (by kernel_rfl) (by kernel_rfl) (by kernel_rfl) ((calm_then (calm_block (calm_then (calm_then (calm_block (calm_then calm_body))))))) (⟨(hE.cell f1), (hE.cell f2)⟩) (fun ops Q X10 hb hL hR hK => ?_)
      replace hE := hE.trans hb
      have hs11 := hb.size
      clear hb
      refine wd_take 0 (.slice (some ⟨b1, o1, none⟩) n c1) hR rfl (by kernel_rfl) rfl (by kernel_rfl) (fun w _ => by kernel_rfl) (⟨(hE.cell f1), (hE.cell f2)⟩) ?_
      refine wd_take 1 (.int .i64 (((i : Nat) : Int) : Int)) hR rfl (by kernel_rfl) rfl (by kernel_rfl) (fun w _ => by kernel_rfl) (⟨(hE.cell f1), (hE.cell f2)⟩) ?_
      refine wd_take 2 (.pointer (some ⟨b1, o1 + i, none⟩)) hR rfl (by kernel_rfl) rfl (by kernel_rfl) (fun w _ => ex_index (p := .slice (some ⟨b1, o1, none⟩) n c1) (i := .int .i64 ((i : Nat) : Int)) rfl (by kernel_rfl) (by kernel_rfl) (ix23 (k := i) (by omega))) (⟨(hE.cell f1), (hE.cell f2)⟩) ?_
      refine wd_take 3 (.int .i64 (((D1 : Nat) : Int) : Int)) hR rfl (by kernel_rfl) rfl (by kernel_rfl) (fun w hS => ex_load rfl (by kernel_rfl) (ld3 (hS.1))) (⟨(hE.cell f1), (hE.cell f2)⟩) ?_
      refine wd_take 4 (.slice (some ⟨b2, o2, none⟩) n c2) hR rfl (by kernel_rfl) rfl (by kernel_rfl) (fun w _ => by kernel_rfl) (⟨(hE.cell f1), (hE.cell f2)⟩) ?_
      refine wd_take 5 (.int .i64 (((i : Nat) : Int) : Int)) hR rfl (by kernel_rfl) rfl (by kernel_rfl) (fun w _ => by kernel_rfl) (⟨(hE.cell f1), (hE.cell f2)⟩) ?_
      refine wd_take 6 (.pointer (some ⟨b2, o2 + i, none⟩)) hR rfl (by kernel_rfl) rfl (by kernel_rfl) (fun w _ => ex_index (p := .slice (some ⟨b2, o2, none⟩) n c2) (i := .int .i64 ((i : Nat) : Int)) rfl (by kernel_rfl) (by kernel_rfl) (ix23 (k := i) (by omega))) (⟨(hE.cell f1), (hE.cell f2)⟩) ?_
      refine wd_take 7 (.int .i64 (((D2 : Nat) : Int) : Int)) hR rfl (by kernel_rfl) rfl (by kernel_rfl) (fun w hS => ex_load rfl (by kernel_rfl) (ld3 (hS.2))) (⟨(hE.cell f1), (hE.cell f2)⟩) ?_
      refine wd_take 8 (.bool true) hR rfl (by kernel_rfl) rfl (by kernel_rfl) (fun w _ => ev_ne (show _ = Result.ok (Next.value (Value.bool ((((D1 : Nat) : Int) : Int) != (((D2 : Nat) : Int) : Int)))) _ from by kernel_rfl) (by omega)) (⟨(hE.cell f1), (hE.cell f2)⟩) ?_
      refine wd_end hL hR hK (by kernel_rfl) ?_
      refine qw_then ?_
      refine cw_clean [0, 1, 5, 20] (ws' := [(0, .slice (some ⟨b1, o1, none⟩) n c1), (1, .slice (some ⟨b2, o2, none⟩) n c2), (5, .int .i64 (((i : Nat) : Int) : Int)), (20, .bool true)]) (by kernel_rfl) (fun L => ?_)
      refine cw_t (by kernel_rfl) ?_
      refine cw_seq ?_
      refine cw_draw [(some 21, [0], []), (some 22, [5], []), (some 23, [21, 22], [0, 1]), (some 24, [23], [2]), (some 25, [1], []), (some 26, [5], []), (some 27, [25, 26], [4, 5]), (some 28, [27], [6]), (some 29, [24, 28], [3, 7]), (some 4, [29], [8, 0, 1, 2, 3, 4, 5, 6, 7, 8])] (fun w' => w'.cell? ⟨b1, o1 + i, none⟩ = some (.int .i64 (((D1 : Nat) : Int) : Int)) ∧ w'.cell? ⟨b2, o2 + i, none⟩ = some (.int .i64 (((D2 : Nat) : Int) : Int))) (by kernel_rfl) (by kernel_rfl) (by kernel_rfl) (by kernel_rfl) ((calm_then (calm_block (calm_then (calm_then (calm_block (calm_then calm_body))))))) (⟨(hE.cell f1), (hE.cell f2)⟩) (fun ops Q X12 hb hL hR hK => ?_)
      replace hE := hE.trans hb
      have hs13 := hb.size
      clear hb
      refine wd_take 0 (.slice (some ⟨b1, o1, none⟩) n c1) hR rfl (by kernel_rfl) rfl (by kernel_rfl) (fun w _ => by kernel_rfl) (⟨(hE.cell f1), (hE.cell f2)⟩) ?_
      refine wd_take 1 (.int .i64 (((i : Nat) : Int) : Int)) hR rfl (by kernel_rfl) rfl (by kernel_rfl) (fun w _ => by kernel_rfl) (⟨(hE.cell f1), (hE.cell f2)⟩) ?_
      refine wd_take 2 (.pointer (some ⟨b1, o1 + i, none⟩)) hR rfl (by kernel_rfl) rfl (by kernel_rfl) (fun w _ => ex_index (p := .slice (some ⟨b1, o1, none⟩) n c1) (i := .int .i64 ((i : Nat) : Int)) rfl (by kernel_rfl) (by kernel_rfl) (ix23 (k := i) (by omega))) (⟨(hE.cell f1), (hE.cell f2)⟩) ?_
      refine wd_take 3 (.int .i64 (((D1 : Nat) : Int) : Int)) hR rfl (by kernel_rfl) rfl (by kernel_rfl) (fun w hS => ex_load rfl (by kernel_rfl) (ld3 (hS.1))) (⟨(hE.cell f1), (hE.cell f2)⟩) ?_
      refine wd_take 4 (.slice (some ⟨b2, o2, none⟩) n c2) hR rfl (by kernel_rfl) rfl (by kernel_rfl) (fun w _ => by kernel_rfl) (⟨(hE.cell f1), (hE.cell f2)⟩) ?_
      refine wd_take 5 (.int .i64 (((i : Nat) : Int) : Int)) hR rfl (by kernel_rfl) rfl (by kernel_rfl) (fun w _ => by kernel_rfl) (⟨(hE.cell f1), (hE.cell f2)⟩) ?_
      refine wd_take 6 (.pointer (some ⟨b2, o2 + i, none⟩)) hR rfl (by kernel_rfl) rfl (by kernel_rfl) (fun w _ => ex_index (p := .slice (some ⟨b2, o2, none⟩) n c2) (i := .int .i64 ((i : Nat) : Int)) rfl (by kernel_rfl) (by kernel_rfl) (ix23 (k := i) (by omega))) (⟨(hE.cell f1), (hE.cell f2)⟩) ?_
      refine wd_take 7 (.int .i64 (((D2 : Nat) : Int) : Int)) hR rfl (by kernel_rfl) rfl (by kernel_rfl) (fun w hS => ex_load rfl (by kernel_rfl) (ld3 (hS.2))) (⟨(hE.cell f1), (hE.cell f2)⟩) ?_
      refine wd_take 8 (.bool false) hR rfl (by kernel_rfl) rfl (by kernel_rfl) (fun w _ => ev_ndec (show _ = Result.ok (Next.value (Value.bool (decide ((((D1 : Nat) : Int) : Int) < (((D2 : Nat) : Int) : Int))))) _ from by kernel_rfl) (by omega)) (⟨(hE.cell f1), (hE.cell f2)⟩) ?_
      refine wd_take 9 (.bool false) hR rfl (by kernel_rfl) rfl (by kernel_rfl) (fun w _ => by kernel_rfl) (⟨(hE.cell f1), (hE.cell f2)⟩) ?_
      refine wd_end hL hR hK (by kernel_rfl) ?_
      refine qw_then ?_
      refine cw_ret ?_
      refine qw_block_ret ?_
      refine qw_then_ret ?_
      refine qw_then_ret ?_
      refine qw_block_ret ?_
      refine qw_then_ret ?_
      refine qw_ret [.bool false] rfl ⟨(by kernel_rfl), trivial⟩ ?_
      exact ⟨congrArg (fun b => Ending.returned (Value.bool b)) (by rw [Hl, hdr, if_neg (by omega)]; exact (decide_eq_false (by omega)).symm), hE⟩
  ·
    have hin : i = n := by omega
    refine cw_seq ?_
    refine cw_seq ?_
    refine cw_plain ?_
    refine pl_take (.int .i64 (((i : Nat) : Int) : Int)) rfl (by kernel_rfl) (by kernel_rfl) (by kernel_rfl) (by kernel_rfl) ?_
    refine pl_take (.slice a n c1) rfl (by kernel_rfl) (by kernel_rfl) (by kernel_rfl) (by kernel_rfl) ?_
    refine pl_take (.int .i64 (((n : Nat) : Int) : Int)) rfl (by kernel_rfl) (by kernel_rfl) (by kernel_rfl) (by kernel_rfl) ?_
    refine pl_take (.bool false) rfl (by kernel_rfl) (by kernel_rfl) (by kernel_rfl) (ev_ndec (show _ = Result.ok (Next.value (Value.bool (decide ((((i : Nat) : Int) : Int) < (((n : Nat) : Int) : Int))))) _ from by kernel_rfl) (by omega)) ?_
    refine pl_nil ?_
    refine qw_then ?_
    refine cw_f (by kernel_rfl) ?_
    refine cw_exit ?_
    refine qw_then_exit ?_
    refine qw_then_exit ?_
    refine qw_block_out ?_
    refine qw_then ?_
    refine cw_seq ?_
    refine cw_plain ?_
    refine pl_take (.bool false) rfl (by kernel_rfl) (by kernel_rfl) (by kernel_rfl) (by kernel_rfl) ?_
    refine pl_nil ?_
    refine qw_then ?_
    refine cw_ret ?_
    refine qw_ret [.bool false] rfl ⟨(by kernel_rfl), trivial⟩ ?_
    exact ⟨congrArg (fun b => Ending.returned (Value.bool b)) (by rw [Hl, List.drop_of_length_le (by omega)]; rfl), hE⟩
set_option maxRecDepth 1000000 in
set_option maxHeartbeats 4000000 in
theorem before_r {w1 w2 : World} {a b : Option Addr} {n : Nat} {x y : List Nat} {r : Bool} (c1 c2 : Nat) (w : World) (h1 : IntsAt w1 a (intsN x)) (e1 : Ext w1 w) (h2 : IntsAt w2 b (intsN y)) (e2 : Ext w2 w) (hx : x.length = n) (hy : y.length = n) (hn : n ≤ 1000) (hr : Globe.ltB x y = r) :
    Calls Tryd.prog 55 #[.slice a x.length c1, .slice b n c2] w fun e w' => e = .returned (.bool r) ∧ Ext w w' := by subst hx; exact hr ▸ before_c c1 c2 w h1 e1 h2 e2 rfl hy hn
set_option maxRecDepth 1000000 in
set_option maxHeartbeats 4000000 in
theorem rFewest_v {w1 w2 : World} {a : Option Addr} {n : Nat} {ss : List (List Int × List Int)} {b o : Nat} (c k : Nat) {l : List Int} (w : World) (hl : VA w1 b o l) (e1 : Ext w1 w) (h : StripsAt w2 a n ss) (e2 : Ext w2 w) (hok : Globe.stripsOk ss = true) (h12 : n ≤ 12) :
    Calls Tryd.prog 26 #[.agg #[.slice (some ⟨b, o, none⟩) 24 k], .slice a n c] w (FewRes w (Globe.fewestL (Globe.enough l (ss.map fun s => s.1)) n)) := by
  have hA := hl.ext e1; have hS := h.ext e2; have hln := h.1; have hnb := h.2.1; have h24 : n ≤ 24 := by have := (Globe.stripsOk_t.1 hok).1; omega
  have hp2 : 2 ^ n ≤ 4096 := Nat.pow_le_pow_right (n := 2) (by decide) h12
  refine calls_cw 75 [(1, .slice a n c), (0, .agg #[.slice (some ⟨b, o, none⟩) 24 k])] Tryd.func26 rfl Tryd.ntmps26 (by kernel_rfl) (by kernel_rfl) (fun L => ?_)
  have hE : Ext w w := Ext.refl w
  refine cw_seq ?_
  refine cw_plain ?_
  refine pl_step rfl (by kernel_rfl) (by kernel_rfl) (by kernel_rfl) (sn_new (us := #[.slice (some ⟨b, o, none⟩) 24 k]) (t := 25) (by kernel_rfl) ?_)
  intro O1 X2 hO hOs hb hbx
  have hzO1 := hO; have hyO1 := hOs; clear hO hOs
  have bO1_0 : BoxAt X2 O1 0 (.slice (some ⟨b, o, none⟩) 24 k) := hbx 0 _ rfl
  clear hbx
  replace hE := hE.trans hb
  have hs3 := hb.size
  clear hb
  have lt4 := bO1_0.lt
  refine pl_take (.slice none 0 0) rfl (by kernel_rfl) (by kernel_rfl) (by kernel_rfl) (by kernel_rfl) ?_
  refine pl_take (.bool false) rfl (by kernel_rfl) (by kernel_rfl) (by kernel_rfl) (by kernel_rfl) ?_
  refine pl_take (.int .i64 0) rfl (by kernel_rfl) (by kernel_rfl) (by kernel_rfl) (by kernel_rfl) ?_
  refine pl_nil ?_
  refine qw_then ?_
  refine cw_seq ?_
  refine cw_seq ?_
  refine cw_plain ?_
  refine pl_take (.agg #[.slice (some ⟨b, o, none⟩) 24 k]) rfl (by kernel_rfl) (by kernel_rfl) (by kernel_rfl) (ex_load rfl (by kernel_rfl) (ld25 (bO1_0.1))) ?_
  refine pl_step rfl (by kernel_rfl) (by kernel_rfl) (by kernel_rfl) (sn_call (f := 44) (args := #[.agg #[.slice (some ⟨b, o, none⟩) 24 k]]) (by kernel_rfl) ((rValid_c _ _ (hA.ext hE).aa (Ext.refl _)).mono ?_))
  rintro e w5 ⟨rfl, hb⟩
  replace hE := hE.trans hb
  replace bO1_0 := BoxAt.ext hb bO1_0
  have hs6 := hb.size
  clear hb
  refine ⟨_, rfl, ?_⟩
  refine pl_take (.bool false) rfl (by kernel_rfl) (by kernel_rfl) (by kernel_rfl) (by kernel_rfl) ?_
  refine pl_take (.bool false) rfl (by kernel_rfl) (by kernel_rfl) (by kernel_rfl) (by kernel_rfl) ?_
  refine pl_take (.slice a n c) rfl (by kernel_rfl) (by kernel_rfl) (by kernel_rfl) (by kernel_rfl) ?_
  refine pl_step rfl (by kernel_rfl) (by kernel_rfl) (by kernel_rfl) (sn_call (f := 20) (args := #[.slice a n c]) (by kernel_rfl) ((rValidS_r (r := true) _ _ hS hE (hok)).mono ?_))
  rintro e w7 ⟨rfl, hb⟩
  replace hE := hE.trans hb
  replace bO1_0 := BoxAt.ext hb bO1_0
  have hs8 := hb.size
  clear hb
  refine ⟨_, rfl, ?_⟩
  refine pl_take (.bool false) rfl (by kernel_rfl) (by kernel_rfl) (by kernel_rfl) (by kernel_rfl) ?_
  refine pl_take (.bool false) rfl (by kernel_rfl) (by kernel_rfl) (by kernel_rfl) (by kernel_rfl) ?_
  refine pl_take (.bool false) rfl (by kernel_rfl) (by kernel_rfl) (by kernel_rfl) (by kernel_rfl) ?_
  refine pl_take (.slice a n c) rfl (by kernel_rfl) (by kernel_rfl) (by kernel_rfl) (by kernel_rfl) ?_
  refine pl_take (.int .i64 (((n : Nat) : Int) : Int)) rfl (by kernel_rfl) (by kernel_rfl) (by kernel_rfl) (by kernel_rfl) ?_
  refine pl_take (.bool false) rfl (by kernel_rfl) (by kernel_rfl) (by kernel_rfl) (ev_ndec (show _ = Result.ok (Next.value (Value.bool (decide ((((n : Nat) : Int) : Int) > (12 : Int))))) _ from by kernel_rfl) (by omega)) ?_
  refine pl_take (.bool false) rfl (by kernel_rfl) (by kernel_rfl) (by kernel_rfl) (by kernel_rfl) ?_
  refine pl_nil ?_
  refine qw_then ?_
  refine cw_clean [1, 2, 24] (ws' := [(1, .slice a n c), (2, .pointer (some ⟨O1, 0, none⟩)), (24, .bool false)]) (by kernel_rfl) (fun L => ?_)
  refine cw_f (by kernel_rfl) ?_
  refine cw_skip ?_
  refine qw_then ?_
  refine cw_seq ?_
  refine cw_plain ?_
  refine pl_take (.slice none 0 0) rfl (by kernel_rfl) (by kernel_rfl) (by kernel_rfl) (by kernel_rfl) ?_
  refine pl_nil ?_
  refine qw_then ?_
  refine cw_seq ?_
  refine cw_plain ?_
  refine pl_take (.bool false) rfl (by kernel_rfl) (by kernel_rfl) (by kernel_rfl) (by kernel_rfl) ?_
  refine pl_nil ?_
  refine qw_then ?_
  refine cw_seq ?_
  refine cw_seq ?_
  refine cw_plain ?_
  refine pl_take (.int .i64 0) rfl (by kernel_rfl) (by kernel_rfl) (by kernel_rfl) (by kernel_rfl) ?_
  refine pl_nil ?_
  refine qw_then ?_
  refine cw_block ?_
  have hX9 : Ext w7 w7 := Ext.refl _
  refine cw_loop [1, 2, 7, 8, 9] (fun ws' wr m => ∃ r : Option (List Nat), ∃ ab : Option Addr, ∃ cb : Nat, ∃ k9 : Nat, ws' = [(1, .slice a n c), (2, .pointer (some ⟨O1, 0, none⟩)), (7, .slice ab ((r.getD []).length) cb), (8, .bool r.isSome), (9, .int .i64 (((k9 : Nat) : Int) : Int))] ∧ m = 2 ^ n - k9 ∧ w7.heap.size ≤ wr.heap.size ∧ Ext w wr ∧ Ext w7 wr ∧ IntsAt wr ab (intsN (r.getD [])) ∧ k9 ≤ 2 ^ n ∧ Globe.BestP (Globe.enough l (ss.map fun s => s.1)) n k9 r) (ws0 := [(1, .slice a n c), (2, .pointer (some ⟨O1, 0, none⟩)), (7, .slice none 0 0), (8, .bool false), (9, .int .i64 0)]) (by kernel_rfl) _ ⟨none, none, 0, 0, rfl, rfl, Nat.le_refl _, hE, hX9, .inl rfl, Nat.zero_le _, Globe.best_0 _ _⟩ ?_
  clear hE hX9
  rintro m12 L ws w11 ⟨r, ab, cb, k9, rfl, rfl, hs10, hE, hX9, hI, hk, Hb⟩
  have hX13 : Ext w11 w11 := Ext.refl _
  by_cases hlt : k9 < 2 ^ n
  ·
    refine cw_seq ?_
    refine cw_seq ?_
    refine cw_plain ?_
    refine pl_take (.int .i64 (((k9 : Nat) : Int) : Int)) rfl (by kernel_rfl) (by kernel_rfl) (by kernel_rfl) (by kernel_rfl) ?_
    refine pl_take (.slice a n c) rfl (by kernel_rfl) (by kernel_rfl) (by kernel_rfl) (by kernel_rfl) ?_
    refine pl_take (.int .i64 (((n : Nat) : Int) : Int)) rfl (by kernel_rfl) (by kernel_rfl) (by kernel_rfl) (by kernel_rfl) ?_
    refine pl_take (.int .i64 (((2 ^ n : Nat) : Int) : Int)) rfl (by kernel_rfl) (by kernel_rfl) (by kernel_rfl) (ex_bin rfl (by kernel_rfl) (by kernel_rfl) (bin_shl1 (by omega))) ?_
    refine pl_take (.bool true) rfl (by kernel_rfl) (by kernel_rfl) (by kernel_rfl) (ev_dec (show _ = Result.ok (Next.value (Value.bool (decide ((((k9 : Nat) : Int) : Int) < (((2 ^ n : Nat) : Int) : Int))))) _ from by kernel_rfl) (by omega)) ?_
    refine pl_nil ?_
    refine qw_then ?_
    refine cw_t (by kernel_rfl) ?_
    refine cw_skip ?_
    refine qw_then ?_
    refine cw_seq ?_
    refine cw_block ?_
    refine cw_seq ?_
    refine cw_plain ?_
    refine pl_take (.slice none 0 0) rfl (by kernel_rfl) (by kernel_rfl) (by kernel_rfl) (by kernel_rfl) ?_
    refine pl_nil ?_
    refine qw_then ?_
    refine cw_seq ?_
    refine cw_seq ?_
    refine cw_plain ?_
    refine pl_take (.int .i64 0) rfl (by kernel_rfl) (by kernel_rfl) (by kernel_rfl) (by kernel_rfl) ?_
    refine pl_nil ?_
    refine qw_then ?_
    refine cw_block ?_
    refine cw_loop [1, 2, 7, 8, 9, 10, 11] (fun ws' wr m => ∃ ac : Option Addr, ∃ cc : Nat, ∃ i : Nat, ws' = [(1, .slice a n c), (2, .pointer (some ⟨O1, 0, none⟩)), (7, .slice ab ((r.getD []).length) cb), (8, .bool r.isSome), (9, .int .i64 (((k9 : Nat) : Int) : Int)), (10, .slice ac ((Globe.bitsL k9 i).length) cc), (11, .int .i64 (((i : Nat) : Int) : Int))] ∧ m = n - i ∧ w11.heap.size ≤ wr.heap.size ∧ Ext w wr ∧ Ext w7 wr ∧ Ext w11 wr ∧ OwnL natR w11.heap.size 3 1 (.slice ac (Globe.bitsL k9 i).length cc) wr (Globe.bitsL k9 i) ∧ i ≤ n) (ws0 := [(1, .slice a n c), (2, .pointer (some ⟨O1, 0, none⟩)), (7, .slice ab ((r.getD []).length) cb), (8, .bool r.isSome), (9, .int .i64 (((k9 : Nat) : Int) : Int)), (10, .slice none 0 0), (11, .int .i64 0)]) (by kernel_rfl) _ ⟨none, 0, 0, rfl, rfl, Nat.le_refl _, hE, hX9, hX13, OwnL.nil _ _ _ _ _, by omega⟩ ?_
    clear hE hX9 hX13
    rintro m16 L ws w15 ⟨ac, cc, i, rfl, rfl, hs14, hE, hX9, hX13, own9, hi⟩
    have hX17 : Ext w15 w15 := Ext.refl _
    have hbl9 := Globe.bits_len k9 i
    by_cases hlt : i < n
    ·
      refine cw_seq ?_
      refine cw_seq ?_
      refine cw_plain ?_
      refine pl_take (.int .i64 (((i : Nat) : Int) : Int)) rfl (by kernel_rfl) (by kernel_rfl) (by kernel_rfl) (by kernel_rfl) ?_
      refine pl_take (.slice a n c) rfl (by kernel_rfl) (by kernel_rfl) (by kernel_rfl) (by kernel_rfl) ?_
      refine pl_take (.int .i64 (((n : Nat) : Int) : Int)) rfl (by kernel_rfl) (by kernel_rfl) (by kernel_rfl) (by kernel_rfl) ?_
      refine pl_take (.bool true) rfl (by kernel_rfl) (by kernel_rfl) (by kernel_rfl) (ev_dec (show _ = Result.ok (Next.value (Value.bool (decide ((((i : Nat) : Int) : Int) < (((n : Nat) : Int) : Int))))) _ from by kernel_rfl) (by omega)) ?_
      refine pl_nil ?_
      refine qw_then ?_
      refine cw_t (by kernel_rfl) ?_
      refine cw_skip ?_
      refine qw_then ?_
      refine cw_seq ?_
      refine cw_block ?_
      refine cw_seq ?_
      refine cw_plain ?_
      refine pl_take (.int .i64 (((k9 : Nat) : Int) : Int)) rfl (by kernel_rfl) (by kernel_rfl) (by kernel_rfl) (by kernel_rfl) ?_
      refine pl_take (.int .i64 (((i : Nat) : Int) : Int)) rfl (by kernel_rfl) (by kernel_rfl) (by kernel_rfl) (by kernel_rfl) ?_
      refine pl_take (.int .i64 (((k9 / 2 ^ i : Nat) : Int) : Int)) rfl (by kernel_rfl) (by kernel_rfl) (by kernel_rfl) (ex_bin rfl (by kernel_rfl) (by kernel_rfl) (bin_shr (by omega))) ?_
      refine pl_take (.int .i64 ((((k9 / 2 ^ i) % 2 : Nat) : Int) : Int)) rfl (by kernel_rfl) (by kernel_rfl) (by kernel_rfl) (ex_bin (a := ((k9 / 2 ^ i : Nat) : Int)) (b := ((2 : Nat) : Int)) rfl (by kernel_rfl) (by kernel_rfl) (bin_rem (by omega))) ?_
      by_cases hc18 : ((((k9 / 2 ^ i) % 2 : Nat) : Int) : Int) = (1 : Int)
      ·
        refine pl_take (.bool true) rfl (by kernel_rfl) (by kernel_rfl) (by kernel_rfl) (ev_eq (show _ = Result.ok (Next.value (Value.bool (((((k9 / 2 ^ i) % 2 : Nat) : Int) : Int) == (1 : Int)))) _ from by kernel_rfl) (hc18)) ?_
        refine pl_nil ?_
        refine qw_then ?_
        refine cw_clean [1, 2, 7, 8, 9, 10, 11, 42] (ws' := [(1, .slice a n c), (2, .pointer (some ⟨O1, 0, none⟩)), (7, .slice ab ((r.getD []).length) cb), (8, .bool r.isSome), (9, .int .i64 (((k9 : Nat) : Int) : Int)), (10, .slice ac ((Globe.bitsL k9 i).length) cc), (11, .int .i64 (((i : Nat) : Int) : Int)), (42, .bool true)]) (by kernel_rfl) (fun L => ?_)
        refine cw_t (by kernel_rfl) ?_
        refine cw_plain ?_
        refine pl_take (.slice ac ((Globe.bitsL k9 i).length) cc) rfl (by kernel_rfl) (by kernel_rfl) (by kernel_rfl) (by kernel_rfl) ?_
        refine pl_take (.int .i64 (((i : Nat) : Int) : Int)) rfl (by kernel_rfl) (by kernel_rfl) (by kernel_rfl) (by kernel_rfl) ?_
        refine pl_step rfl (by kernel_rfl) (by kernel_rfl) (by kernel_rfl) (sn_newS (us := #[.int .i64 (((i : Nat) : Int) : Int)]) (t := 3) (k := 1) (c := 1) (by kernel_rfl) ?_)
        intro O19 X20 hO hOs hb hbx
        have hzO19 := hO; have hyO19 := hOs; clear hO hOs
        have bO19_0 : BoxAt X20 O19 0 (.int .i64 (((i : Nat) : Int) : Int)) := hbx 0 _ rfl
        clear hbx
        replace hE := hE.trans hb
        replace hX9 := hX9.trans hb
        replace hX13 := hX13.trans hb
        replace hX17 := hX17.trans hb
        have hs21 := hb.size
        clear hb
        have lt22 := bO19_0.lt
        obtain ⟨g23, cap24, w25, hrun26, own27, hgr28⟩ := own_app1 (P := Tryd.prog) (ty := 23) intT (own9.ext hX17) (Nat.le_trans hs14 hs21) (k := ((Globe.bitsL k9 i).length)) rfl (O := O19) (c := 1) (x := i) (d := [.int .i64 (((i : Nat) : Int) : Int)]) rfl (cells1 bO19_0.1) (by simp [Value.oneCell']) (⟨rfl, rfl⟩) ((fun b hb => by cases hb)) (by omega) (by omega)
        refine pl_step rfl (by kernel_rfl) (by kernel_rfl) (by kernel_rfl) (sn_eff (v := .slice (some ⟨g23, 0, none⟩) (((Globe.bitsL k9 i).length) + 1) cap24) (w' := w25) (ex_append rfl (by kernel_rfl) (by kernel_rfl) hrun26) ?_)
        replace hE := hgr28.ext _ hE (Nat.le_trans hs3 (Nat.le_trans hs6 (Nat.le_trans hs8 hs10)))
        replace hX9 := hgr28.ext _ hX9 hs10
        replace hX13 := hgr28.ext _ hX13 (Nat.le_refl _)
        have hs29 := hgr28.size
        have hl30 := own27.base g23 rfl; have hh31 := own27.lt g23 rfl
        have hX32 : Ext w25 w25 := Ext.refl _
        refine pl_take (.slice (some ⟨g23, 0, none⟩) (((Globe.bitsL k9 i).length) + 1) cap24) rfl (by kernel_rfl) (by kernel_rfl) (by kernel_rfl) (by kernel_rfl) ?_
        refine pl_nil ?_
        refine qw_block ?_
        refine qw_then ?_
        refine cw_plain ?_
        refine pl_take (.int .i64 (((i : Nat) : Int) : Int)) rfl (by kernel_rfl) (by kernel_rfl) (by kernel_rfl) (by kernel_rfl) ?_
        refine pl_take (.int .i64 (((i + 1 : Nat) : Int) : Int)) rfl (by kernel_rfl) (by kernel_rfl) (by kernel_rfl) (ev_wrap (by kernel_rfl) (by omega) (by omega)) ?_
        refine pl_take (.int .i64 (((i + 1 : Nat) : Int) : Int)) rfl (by kernel_rfl) (by kernel_rfl) (by kernel_rfl) (by kernel_rfl) ?_
        refine pl_nil ?_
        have hby := bits_yes (S := k9) (i := i) (by have := hc18; omega)
        have hbl : (Globe.bitsL k9 (i + 1)).length = (Globe.bitsL k9 i).length + 1 := by rw [hby, List.length_append]; rfl
        refine qw_round [1, 2, 7, 8, 9, 10, 11] (ws' := [(1, .slice a n c), (2, .pointer (some ⟨O1, 0, none⟩)), (7, .slice ab ((r.getD []).length) cb), (8, .bool r.isSome), (9, .int .i64 (((k9 : Nat) : Int) : Int)), (10, .slice (some ⟨g23, 0, none⟩) (((Globe.bitsL k9 i).length) + 1) cap24), (11, .int .i64 (((i + 1 : Nat) : Int) : Int))]) (by kernel_rfl) _ ?_ ⟨(some ⟨g23, 0, none⟩), cap24, (i + 1), (by rw [hbl]), rfl, (Nat.le_trans hs14 (Nat.le_trans hs21 hs29)), hE, hX9, hX13, (by rw [hbl, hby]; exact own27), by omega⟩
        omega
      ·
        refine pl_take (.bool false) rfl (by kernel_rfl) (by kernel_rfl) (by kernel_rfl) (ev_neq (show _ = Result.ok (Next.value (Value.bool (((((k9 / 2 ^ i) % 2 : Nat) : Int) : Int) == (1 : Int)))) _ from by kernel_rfl) (hc18)) ?_
        refine pl_nil ?_
        refine qw_then ?_
        refine cw_clean [1, 2, 7, 8, 9, 10, 11, 42] (ws' := [(1, .slice a n c), (2, .pointer (some ⟨O1, 0, none⟩)), (7, .slice ab ((r.getD []).length) cb), (8, .bool r.isSome), (9, .int .i64 (((k9 : Nat) : Int) : Int)), (10, .slice ac ((Globe.bitsL k9 i).length) cc), (11, .int .i64 (((i : Nat) : Int) : Int)), (42, .bool false)]) (by kernel_rfl) (fun L => ?_)
        refine cw_f (by kernel_rfl) ?_
        refine cw_skip ?_
        refine qw_block ?_
        refine qw_then ?_
        refine cw_plain ?_
        refine pl_take (.int .i64 (((i : Nat) : Int) : Int)) rfl (by kernel_rfl) (by kernel_rfl) (by kernel_rfl) (by kernel_rfl) ?_
        refine pl_take (.int .i64 (((i + 1 : Nat) : Int) : Int)) rfl (by kernel_rfl) (by kernel_rfl) (by kernel_rfl) (ev_wrap (by kernel_rfl) (by omega) (by omega)) ?_
        refine pl_take (.int .i64 (((i + 1 : Nat) : Int) : Int)) rfl (by kernel_rfl) (by kernel_rfl) (by kernel_rfl) (by kernel_rfl) ?_
        refine pl_nil ?_
        have hbn := bits_no (S := k9) (i := i) (by have := hc18; omega)
        refine qw_round [1, 2, 7, 8, 9, 10, 11] (ws' := [(1, .slice a n c), (2, .pointer (some ⟨O1, 0, none⟩)), (7, .slice ab ((r.getD []).length) cb), (8, .bool r.isSome), (9, .int .i64 (((k9 : Nat) : Int) : Int)), (10, .slice ac ((Globe.bitsL k9 i).length) cc), (11, .int .i64 (((i + 1 : Nat) : Int) : Int))]) (by kernel_rfl) _ ?_ ⟨ac, cc, (i + 1), (by rw [hbn]), rfl, hs14, hE, hX9, hX13, (by rw [hbn]; exact own9), by omega⟩
        omega
    ·
      have hin : i = n := by omega
      subst hin
      refine cw_seq ?_
      refine cw_seq ?_
      refine cw_plain ?_
      refine pl_take (.int .i64 (((i : Nat) : Int) : Int)) rfl (by kernel_rfl) (by kernel_rfl) (by kernel_rfl) (by kernel_rfl) ?_
      refine pl_take (.slice a i c) rfl (by kernel_rfl) (by kernel_rfl) (by kernel_rfl) (by kernel_rfl) ?_
      refine pl_take (.int .i64 (((i : Nat) : Int) : Int)) rfl (by kernel_rfl) (by kernel_rfl) (by kernel_rfl) (by kernel_rfl) ?_
      refine pl_take (.bool false) rfl (by kernel_rfl) (by kernel_rfl) (by kernel_rfl) (ev_ndec (show _ = Result.ok (Next.value (Value.bool (decide ((((i : Nat) : Int) : Int) < (((i : Nat) : Int) : Int))))) _ from by kernel_rfl) (by omega)) ?_
      refine pl_nil ?_
      refine qw_then ?_
      refine cw_f (by kernel_rfl) ?_
      refine cw_exit ?_
      refine qw_then_exit ?_
      refine qw_then_exit ?_
      refine qw_block_out ?_
      refine qw_then ?_
      refine cw_seq ?_
      refine cw_seq ?_
      rcases r with _ | b9
      ·
        refine cw_plain ?_
        refine pl_take (.bool false) rfl (by kernel_rfl) (by kernel_rfl) (by kernel_rfl) (by kernel_rfl) ?_
        refine pl_take (.bool false) rfl (by kernel_rfl) (by kernel_rfl) (by kernel_rfl) (by kernel_rfl) ?_
        refine pl_skip rfl (by kernel_rfl) (by kernel_rfl) (by kernel_rfl) ?_
        refine pl_skip rfl (by kernel_rfl) (by kernel_rfl) (by kernel_rfl) ?_
        refine pl_skip rfl (by kernel_rfl) (by kernel_rfl) (by kernel_rfl) ?_
        refine pl_skip rfl (by kernel_rfl) (by kernel_rfl) (by kernel_rfl) ?_
        refine pl_skip rfl (by kernel_rfl) (by kernel_rfl) (by kernel_rfl) ?_
        refine pl_skip rfl (by kernel_rfl) (by kernel_rfl) (by kernel_rfl) ?_
        refine pl_skip rfl (by kernel_rfl) (by kernel_rfl) (by kernel_rfl) ?_
        refine pl_skip rfl (by kernel_rfl) (by kernel_rfl) (by kernel_rfl) ?_
        refine pl_skip rfl (by kernel_rfl) (by kernel_rfl) (by kernel_rfl) ?_
        refine pl_skip rfl (by kernel_rfl) (by kernel_rfl) (by kernel_rfl) ?_
        refine pl_skip rfl (by kernel_rfl) (by kernel_rfl) (by kernel_rfl) ?_
        refine pl_skip rfl (by kernel_rfl) (by kernel_rfl) (by kernel_rfl) ?_
        refine pl_skip rfl (by kernel_rfl) (by kernel_rfl) (by kernel_rfl) ?_
        refine pl_skip rfl (by kernel_rfl) (by kernel_rfl) (by kernel_rfl) ?_
        refine pl_skip rfl (by kernel_rfl) (by kernel_rfl) (by kernel_rfl) ?_
        refine pl_skip rfl (by kernel_rfl) (by kernel_rfl) (by kernel_rfl) ?_
        refine pl_skip rfl (by kernel_rfl) (by kernel_rfl) (by kernel_rfl) ?_
        refine pl_skip rfl (by kernel_rfl) (by kernel_rfl) (by kernel_rfl) ?_
        refine pl_take (.bool false) rfl (by kernel_rfl) (by kernel_rfl) (by kernel_rfl) (by kernel_rfl) ?_
        refine pl_nil ?_
        refine qw_then ?_
        refine cw_clean [1, 2, 7, 8, 9, 10, 67] (ws' := [(1, .slice a i c), (2, .pointer (some ⟨O1, 0, none⟩)), (7, .slice ab 0 cb), (8, .bool false), (9, .int .i64 (((k9 : Nat) : Int) : Int)), (10, .slice ac ((Globe.bitsL k9 i).length) cc), (67, .bool false)]) (by kernel_rfl) (fun L => ?_)
        refine cw_f (by kernel_rfl) ?_
        refine cw_skip ?_
        refine qw_then ?_
        refine cw_seq ?_
        rcases Bool.eq_false_or_eq_true (Globe.coversB l (ss.map fun s => s.1) k9 i) with hcv | hcv
        ·
          refine cw_plain ?_
          refine pl_take (.agg #[.slice (some ⟨b, o, none⟩) 24 k]) rfl (by kernel_rfl) (by kernel_rfl) (by kernel_rfl) (ex_load rfl (by kernel_rfl) (ld25 ((BoxAt.ext hX9 bO1_0).1))) ?_
          refine pl_take (.slice a i c) rfl (by kernel_rfl) (by kernel_rfl) (by kernel_rfl) (by kernel_rfl) ?_
          refine pl_take (.int .i64 (((k9 : Nat) : Int) : Int)) rfl (by kernel_rfl) (by kernel_rfl) (by kernel_rfl) (by kernel_rfl) ?_
          refine pl_step rfl (by kernel_rfl) (by kernel_rfl) (by kernel_rfl) (sn_call (f := 30) (args := #[.agg #[.slice (some ⟨b, o, none⟩) 24 k], .slice a i c, .int .i64 (((k9 : Nat) : Int) : Int)]) (by kernel_rfl) ((Covers_r (r := true) _ _ _ (hA.ext hE) (Ext.refl _) hS hE hok (by omega) hcv).mono ?_))
          rintro e w33 ⟨rfl, hb⟩
          replace hE := hE.trans hb
          replace hX9 := hX9.trans hb
          replace hX13 := hX13.trans hb
          replace hX17 := hX17.trans hb
          have hs34 := hb.size
          clear hb
          refine ⟨_, rfl, ?_⟩
          refine pl_nil ?_
          refine qw_then ?_
          refine cw_t (by kernel_rfl) ?_
          refine cw_seq ?_
          refine cw_plain ?_
          refine pl_take (.slice ac ((Globe.bitsL k9 i).length) cc) rfl (by kernel_rfl) (by kernel_rfl) (by kernel_rfl) (by kernel_rfl) ?_
          refine pl_take (.slice ac ((Globe.bitsL k9 i).length) cc) rfl (by kernel_rfl) (by kernel_rfl) (by kernel_rfl) (by kernel_rfl) ?_
          refine pl_nil ?_
          refine qw_then ?_
          refine cw_plain ?_
          refine pl_take (.bool true) rfl (by kernel_rfl) (by kernel_rfl) (by kernel_rfl) (by kernel_rfl) ?_
          refine pl_nil ?_
          refine qw_block ?_
          refine qw_then ?_
          refine cw_plain ?_
          refine pl_take (.int .i64 (((k9 : Nat) : Int) : Int)) rfl (by kernel_rfl) (by kernel_rfl) (by kernel_rfl) (by kernel_rfl) ?_
          refine pl_take (.int .i64 (((k9 + 1 : Nat) : Int) : Int)) rfl (by kernel_rfl) (by kernel_rfl) (by kernel_rfl) (ev_wrap (by kernel_rfl) (by omega) (by omega)) ?_
          refine pl_take (.int .i64 (((k9 + 1 : Nat) : Int) : Int)) rfl (by kernel_rfl) (by kernel_rfl) (by kernel_rfl) (by kernel_rfl) ?_
          refine pl_nil ?_
          refine qw_round [1, 2, 7, 8, 9] (ws' := [(1, .slice a i c), (2, .pointer (some ⟨O1, 0, none⟩)), (7, .slice ac ((Globe.bitsL k9 i).length) cc), (8, .bool true), (9, .int .i64 (((k9 + 1 : Nat) : Int) : Int))]) (by kernel_rfl) _ ?_ ⟨(some (Globe.bitsL k9 i)), ac, cc, (k9 + 1), rfl, rfl, (Nat.le_trans hs10 (Nat.le_trans hs14 hs34)), hE, hX9, (((own9.ext hX17)).nats rfl), by omega, (Globe.best_yes Hb (by rw [← Globe.covers_enough hA.2]; exact hcv) (fun b e => by cases e))⟩
          omega
        ·
          refine cw_plain ?_
          refine pl_take (.agg #[.slice (some ⟨b, o, none⟩) 24 k]) rfl (by kernel_rfl) (by kernel_rfl) (by kernel_rfl) (ex_load rfl (by kernel_rfl) (ld25 ((BoxAt.ext hX9 bO1_0).1))) ?_
          refine pl_take (.slice a i c) rfl (by kernel_rfl) (by kernel_rfl) (by kernel_rfl) (by kernel_rfl) ?_
          refine pl_take (.int .i64 (((k9 : Nat) : Int) : Int)) rfl (by kernel_rfl) (by kernel_rfl) (by kernel_rfl) (by kernel_rfl) ?_
          refine pl_step rfl (by kernel_rfl) (by kernel_rfl) (by kernel_rfl) (sn_call (f := 30) (args := #[.agg #[.slice (some ⟨b, o, none⟩) 24 k], .slice a i c, .int .i64 (((k9 : Nat) : Int) : Int)]) (by kernel_rfl) ((Covers_r (r := false) _ _ _ (hA.ext hE) (Ext.refl _) hS hE hok (by omega) hcv).mono ?_))
          rintro e w35 ⟨rfl, hb⟩
          replace hE := hE.trans hb
          replace hX9 := hX9.trans hb
          replace hX13 := hX13.trans hb
          replace hX17 := hX17.trans hb
          have hs36 := hb.size
          clear hb
          refine ⟨_, rfl, ?_⟩
          refine pl_nil ?_
          refine qw_then ?_
          refine cw_f (by kernel_rfl) ?_
          refine cw_skip ?_
          refine qw_block ?_
          refine qw_then ?_
          refine cw_plain ?_
          refine pl_take (.int .i64 (((k9 : Nat) : Int) : Int)) rfl (by kernel_rfl) (by kernel_rfl) (by kernel_rfl) (by kernel_rfl) ?_
          refine pl_take (.int .i64 (((k9 + 1 : Nat) : Int) : Int)) rfl (by kernel_rfl) (by kernel_rfl) (by kernel_rfl) (ev_wrap (by kernel_rfl) (by omega) (by omega)) ?_
          refine pl_take (.int .i64 (((k9 + 1 : Nat) : Int) : Int)) rfl (by kernel_rfl) (by kernel_rfl) (by kernel_rfl) (by kernel_rfl) ?_
          refine pl_nil ?_
          refine qw_round [1, 2, 7, 8, 9] (ws' := [(1, .slice a i c), (2, .pointer (some ⟨O1, 0, none⟩)), (7, .slice ab 0 cb), (8, .bool false), (9, .int .i64 (((k9 + 1 : Nat) : Int) : Int))]) (by kernel_rfl) _ ?_ ⟨none, ab, cb, (k9 + 1), rfl, rfl, (Nat.le_trans hs10 (Nat.le_trans hs14 hs36)), hE, hX9, (hI.ext hX13), by omega, (Globe.best_no Hb (by rw [← Globe.covers_enough hA.2]; exact hcv))⟩
          omega
      ·
        rcases less4 (Globe.bitsL k9 i) b9 with ⟨h9, hnl⟩ | ⟨h9, hls⟩ | ⟨h9, hlt9, hnl⟩ | ⟨h9, hlt9, hls⟩
        ·
          replace hI : IntsAt _ ab (intsN b9) := hI
          refine cw_plain ?_
          refine pl_take (.bool true) rfl (by kernel_rfl) (by kernel_rfl) (by kernel_rfl) (by kernel_rfl) ?_
          refine pl_take (.bool true) rfl (by kernel_rfl) (by kernel_rfl) (by kernel_rfl) (by kernel_rfl) ?_
          refine pl_take (.slice ac ((Globe.bitsL k9 i).length) cc) rfl (by kernel_rfl) (by kernel_rfl) (by kernel_rfl) (by kernel_rfl) ?_
          refine pl_take (.int .i64 ((((Globe.bitsL k9 i).length : Nat) : Int) : Int)) rfl (by kernel_rfl) (by kernel_rfl) (by kernel_rfl) (by kernel_rfl) ?_
          refine pl_take (.slice ab b9.length cb) rfl (by kernel_rfl) (by kernel_rfl) (by kernel_rfl) (by kernel_rfl) ?_
          refine pl_take (.int .i64 (((b9.length : Nat) : Int) : Int)) rfl (by kernel_rfl) (by kernel_rfl) (by kernel_rfl) (by kernel_rfl) ?_
          refine pl_take (.bool true) rfl (by kernel_rfl) (by kernel_rfl) (by kernel_rfl) (ev_dec (show _ = Result.ok (Next.value (Value.bool (decide (((((Globe.bitsL k9 i).length : Nat) : Int) : Int) > (((b9.length : Nat) : Int) : Int))))) _ from by kernel_rfl) (by omega)) ?_
          refine pl_take (.bool true) rfl (by kernel_rfl) (by kernel_rfl) (by kernel_rfl) (by kernel_rfl) ?_
          refine pl_skip rfl (by kernel_rfl) (by kernel_rfl) (by kernel_rfl) ?_
          refine pl_skip rfl (by kernel_rfl) (by kernel_rfl) (by kernel_rfl) ?_
          refine pl_skip rfl (by kernel_rfl) (by kernel_rfl) (by kernel_rfl) ?_
          refine pl_skip rfl (by kernel_rfl) (by kernel_rfl) (by kernel_rfl) ?_
          refine pl_skip rfl (by kernel_rfl) (by kernel_rfl) (by kernel_rfl) ?_
          refine pl_skip rfl (by kernel_rfl) (by kernel_rfl) (by kernel_rfl) ?_
          refine pl_skip rfl (by kernel_rfl) (by kernel_rfl) (by kernel_rfl) ?_
          refine pl_skip rfl (by kernel_rfl) (by kernel_rfl) (by kernel_rfl) ?_
          refine pl_skip rfl (by kernel_rfl) (by kernel_rfl) (by kernel_rfl) ?_
          refine pl_skip rfl (by kernel_rfl) (by kernel_rfl) (by kernel_rfl) ?_
          refine pl_skip rfl (by kernel_rfl) (by kernel_rfl) (by kernel_rfl) ?_
          refine pl_take (.bool true) rfl (by kernel_rfl) (by kernel_rfl) (by kernel_rfl) (by kernel_rfl) ?_
          refine pl_take (.bool true) rfl (by kernel_rfl) (by kernel_rfl) (by kernel_rfl) (by kernel_rfl) ?_
          refine pl_nil ?_
          refine qw_then ?_
          refine cw_clean [1, 2, 7, 8, 9, 10, 67] (ws' := [(1, .slice a i c), (2, .pointer (some ⟨O1, 0, none⟩)), (7, .slice ab b9.length cb), (8, .bool true), (9, .int .i64 (((k9 : Nat) : Int) : Int)), (10, .slice ac ((Globe.bitsL k9 i).length) cc), (67, .bool true)]) (by kernel_rfl) (fun L => ?_)
          refine cw_t (by kernel_rfl) ?_
          refine cw_exit ?_
          refine qw_then_exit ?_
          refine qw_block_out ?_
          refine qw_then ?_
          refine cw_plain ?_
          refine pl_take (.int .i64 (((k9 : Nat) : Int) : Int)) rfl (by kernel_rfl) (by kernel_rfl) (by kernel_rfl) (by kernel_rfl) ?_
          refine pl_take (.int .i64 (((k9 + 1 : Nat) : Int) : Int)) rfl (by kernel_rfl) (by kernel_rfl) (by kernel_rfl) (ev_wrap (by kernel_rfl) (by omega) (by omega)) ?_
          refine pl_take (.int .i64 (((k9 + 1 : Nat) : Int) : Int)) rfl (by kernel_rfl) (by kernel_rfl) (by kernel_rfl) (by kernel_rfl) ?_
          refine pl_nil ?_
          refine qw_round [1, 2, 7, 8, 9] (ws' := [(1, .slice a i c), (2, .pointer (some ⟨O1, 0, none⟩)), (7, .slice ab b9.length cb), (8, .bool true), (9, .int .i64 (((k9 + 1 : Nat) : Int) : Int))]) (by kernel_rfl) _ ?_ ⟨(some b9), ab, cb, (k9 + 1), rfl, rfl, (Nat.le_trans hs10 hs14), hE, hX9, (hI.ext hX13), by omega, (Globe.best_skip Hb hnl)⟩
          omega
        ·
          replace hI : IntsAt _ ab (intsN b9) := hI
          refine cw_plain ?_
          refine pl_take (.bool true) rfl (by kernel_rfl) (by kernel_rfl) (by kernel_rfl) (by kernel_rfl) ?_
          refine pl_take (.bool true) rfl (by kernel_rfl) (by kernel_rfl) (by kernel_rfl) (by kernel_rfl) ?_
          refine pl_take (.slice ac ((Globe.bitsL k9 i).length) cc) rfl (by kernel_rfl) (by kernel_rfl) (by kernel_rfl) (by kernel_rfl) ?_
          refine pl_take (.int .i64 ((((Globe.bitsL k9 i).length : Nat) : Int) : Int)) rfl (by kernel_rfl) (by kernel_rfl) (by kernel_rfl) (by kernel_rfl) ?_
          refine pl_take (.slice ab b9.length cb) rfl (by kernel_rfl) (by kernel_rfl) (by kernel_rfl) (by kernel_rfl) ?_
          refine pl_take (.int .i64 (((b9.length : Nat) : Int) : Int)) rfl (by kernel_rfl) (by kernel_rfl) (by kernel_rfl) (by kernel_rfl) ?_
          refine pl_take (.bool false) rfl (by kernel_rfl) (by kernel_rfl) (by kernel_rfl) (ev_ndec (show _ = Result.ok (Next.value (Value.bool (decide (((((Globe.bitsL k9 i).length : Nat) : Int) : Int) > (((b9.length : Nat) : Int) : Int))))) _ from by kernel_rfl) (by omega)) ?_
          refine pl_take (.bool false) rfl (by kernel_rfl) (by kernel_rfl) (by kernel_rfl) (by kernel_rfl) ?_
          refine pl_take (.slice ac ((Globe.bitsL k9 i).length) cc) rfl (by kernel_rfl) (by kernel_rfl) (by kernel_rfl) (by kernel_rfl) ?_
          refine pl_take (.int .i64 ((((Globe.bitsL k9 i).length : Nat) : Int) : Int)) rfl (by kernel_rfl) (by kernel_rfl) (by kernel_rfl) (by kernel_rfl) ?_
          refine pl_take (.slice ab b9.length cb) rfl (by kernel_rfl) (by kernel_rfl) (by kernel_rfl) (by kernel_rfl) ?_
          refine pl_take (.int .i64 (((b9.length : Nat) : Int) : Int)) rfl (by kernel_rfl) (by kernel_rfl) (by kernel_rfl) (by kernel_rfl) ?_
          refine pl_take (.bool false) rfl (by kernel_rfl) (by kernel_rfl) (by kernel_rfl) (ev_neq (show _ = Result.ok (Next.value (Value.bool (((((Globe.bitsL k9 i).length : Nat) : Int) : Int) == (((b9.length : Nat) : Int) : Int)))) _ from by kernel_rfl) (by omega)) ?_
          refine pl_take (.bool false) rfl (by kernel_rfl) (by kernel_rfl) (by kernel_rfl) (by kernel_rfl) ?_
          refine pl_skip rfl (by kernel_rfl) (by kernel_rfl) (by kernel_rfl) ?_
          refine pl_skip rfl (by kernel_rfl) (by kernel_rfl) (by kernel_rfl) ?_
          refine pl_skip rfl (by kernel_rfl) (by kernel_rfl) (by kernel_rfl) ?_
          refine pl_skip rfl (by kernel_rfl) (by kernel_rfl) (by kernel_rfl) ?_
          refine pl_take (.bool false) rfl (by kernel_rfl) (by kernel_rfl) (by kernel_rfl) (by kernel_rfl) ?_
          refine pl_take (.bool false) rfl (by kernel_rfl) (by kernel_rfl) (by kernel_rfl) (by kernel_rfl) ?_
          refine pl_take (.bool false) rfl (by kernel_rfl) (by kernel_rfl) (by kernel_rfl) (by kernel_rfl) ?_
          refine pl_nil ?_
          refine qw_then ?_
          refine cw_clean [1, 2, 7, 8, 9, 10, 67] (ws' := [(1, .slice a i c), (2, .pointer (some ⟨O1, 0, none⟩)), (7, .slice ab b9.length cb), (8, .bool true), (9, .int .i64 (((k9 : Nat) : Int) : Int)), (10, .slice ac ((Globe.bitsL k9 i).length) cc), (67, .bool false)]) (by kernel_rfl) (fun L => ?_)
          refine cw_f (by kernel_rfl) ?_
          refine cw_skip ?_
          refine qw_then ?_
          refine cw_seq ?_
          rcases Bool.eq_false_or_eq_true (Globe.coversB l (ss.map fun s => s.1) k9 i) with hcv | hcv
          ·
            refine cw_plain ?_
            refine pl_take (.agg #[.slice (some ⟨b, o, none⟩) 24 k]) rfl (by kernel_rfl) (by kernel_rfl) (by kernel_rfl) (ex_load rfl (by kernel_rfl) (ld25 ((BoxAt.ext hX9 bO1_0).1))) ?_
            refine pl_take (.slice a i c) rfl (by kernel_rfl) (by kernel_rfl) (by kernel_rfl) (by kernel_rfl) ?_
            refine pl_take (.int .i64 (((k9 : Nat) : Int) : Int)) rfl (by kernel_rfl) (by kernel_rfl) (by kernel_rfl) (by kernel_rfl) ?_
            refine pl_step rfl (by kernel_rfl) (by kernel_rfl) (by kernel_rfl) (sn_call (f := 30) (args := #[.agg #[.slice (some ⟨b, o, none⟩) 24 k], .slice a i c, .int .i64 (((k9 : Nat) : Int) : Int)]) (by kernel_rfl) ((Covers_r (r := true) _ _ _ (hA.ext hE) (Ext.refl _) hS hE hok (by omega) hcv).mono ?_))
            rintro e w37 ⟨rfl, hb⟩
            replace hE := hE.trans hb
            replace hX9 := hX9.trans hb
            replace hX13 := hX13.trans hb
            replace hX17 := hX17.trans hb
            have hs38 := hb.size
            clear hb
            refine ⟨_, rfl, ?_⟩
            refine pl_nil ?_
            refine qw_then ?_
            refine cw_t (by kernel_rfl) ?_
            refine cw_seq ?_
            refine cw_plain ?_
            refine pl_take (.slice ac ((Globe.bitsL k9 i).length) cc) rfl (by kernel_rfl) (by kernel_rfl) (by kernel_rfl) (by kernel_rfl) ?_
            refine pl_take (.slice ac ((Globe.bitsL k9 i).length) cc) rfl (by kernel_rfl) (by kernel_rfl) (by kernel_rfl) (by kernel_rfl) ?_
            refine pl_nil ?_
            refine qw_then ?_
            refine cw_plain ?_
            refine pl_take (.bool true) rfl (by kernel_rfl) (by kernel_rfl) (by kernel_rfl) (by kernel_rfl) ?_
            refine pl_nil ?_
            refine qw_block ?_
            refine qw_then ?_
            refine cw_plain ?_
            refine pl_take (.int .i64 (((k9 : Nat) : Int) : Int)) rfl (by kernel_rfl) (by kernel_rfl) (by kernel_rfl) (by kernel_rfl) ?_
            refine pl_take (.int .i64 (((k9 + 1 : Nat) : Int) : Int)) rfl (by kernel_rfl) (by kernel_rfl) (by kernel_rfl) (ev_wrap (by kernel_rfl) (by omega) (by omega)) ?_
            refine pl_take (.int .i64 (((k9 + 1 : Nat) : Int) : Int)) rfl (by kernel_rfl) (by kernel_rfl) (by kernel_rfl) (by kernel_rfl) ?_
            refine pl_nil ?_
            refine qw_round [1, 2, 7, 8, 9] (ws' := [(1, .slice a i c), (2, .pointer (some ⟨O1, 0, none⟩)), (7, .slice ac ((Globe.bitsL k9 i).length) cc), (8, .bool true), (9, .int .i64 (((k9 + 1 : Nat) : Int) : Int))]) (by kernel_rfl) _ ?_ ⟨(some (Globe.bitsL k9 i)), ac, cc, (k9 + 1), rfl, rfl, (Nat.le_trans hs10 (Nat.le_trans hs14 hs38)), hE, hX9, (((own9.ext hX17)).nats rfl), by omega, (Globe.best_yes Hb (by rw [← Globe.covers_enough hA.2]; exact hcv) (fun b e => by cases e; exact hls))⟩
            omega
          ·
            refine cw_plain ?_
            refine pl_take (.agg #[.slice (some ⟨b, o, none⟩) 24 k]) rfl (by kernel_rfl) (by kernel_rfl) (by kernel_rfl) (ex_load rfl (by kernel_rfl) (ld25 ((BoxAt.ext hX9 bO1_0).1))) ?_
            refine pl_take (.slice a i c) rfl (by kernel_rfl) (by kernel_rfl) (by kernel_rfl) (by kernel_rfl) ?_
            refine pl_take (.int .i64 (((k9 : Nat) : Int) : Int)) rfl (by kernel_rfl) (by kernel_rfl) (by kernel_rfl) (by kernel_rfl) ?_
            refine pl_step rfl (by kernel_rfl) (by kernel_rfl) (by kernel_rfl) (sn_call (f := 30) (args := #[.agg #[.slice (some ⟨b, o, none⟩) 24 k], .slice a i c, .int .i64 (((k9 : Nat) : Int) : Int)]) (by kernel_rfl) ((Covers_r (r := false) _ _ _ (hA.ext hE) (Ext.refl _) hS hE hok (by omega) hcv).mono ?_))
            rintro e w39 ⟨rfl, hb⟩
            replace hE := hE.trans hb
            replace hX9 := hX9.trans hb
            replace hX13 := hX13.trans hb
            replace hX17 := hX17.trans hb
            have hs40 := hb.size
            clear hb
            refine ⟨_, rfl, ?_⟩
            refine pl_nil ?_
            refine qw_then ?_
            refine cw_f (by kernel_rfl) ?_
            refine cw_skip ?_
            refine qw_block ?_
            refine qw_then ?_
            refine cw_plain ?_
            refine pl_take (.int .i64 (((k9 : Nat) : Int) : Int)) rfl (by kernel_rfl) (by kernel_rfl) (by kernel_rfl) (by kernel_rfl) ?_
            refine pl_take (.int .i64 (((k9 + 1 : Nat) : Int) : Int)) rfl (by kernel_rfl) (by kernel_rfl) (by kernel_rfl) (ev_wrap (by kernel_rfl) (by omega) (by omega)) ?_
            refine pl_take (.int .i64 (((k9 + 1 : Nat) : Int) : Int)) rfl (by kernel_rfl) (by kernel_rfl) (by kernel_rfl) (by kernel_rfl) ?_
            refine pl_nil ?_
            refine qw_round [1, 2, 7, 8, 9] (ws' := [(1, .slice a i c), (2, .pointer (some ⟨O1, 0, none⟩)), (7, .slice ab b9.length cb), (8, .bool true), (9, .int .i64 (((k9 + 1 : Nat) : Int) : Int))]) (by kernel_rfl) _ ?_ ⟨(some b9), ab, cb, (k9 + 1), rfl, rfl, (Nat.le_trans hs10 (Nat.le_trans hs14 hs40)), hE, hX9, (hI.ext hX13), by omega, (Globe.best_no Hb (by rw [← Globe.covers_enough hA.2]; exact hcv))⟩
            omega
        ·
          replace hI : IntsAt _ ab (intsN b9) := hI
          refine cw_plain ?_
          refine pl_take (.bool true) rfl (by kernel_rfl) (by kernel_rfl) (by kernel_rfl) (by kernel_rfl) ?_
          refine pl_take (.bool true) rfl (by kernel_rfl) (by kernel_rfl) (by kernel_rfl) (by kernel_rfl) ?_
          refine pl_take (.slice ac ((Globe.bitsL k9 i).length) cc) rfl (by kernel_rfl) (by kernel_rfl) (by kernel_rfl) (by kernel_rfl) ?_
          refine pl_take (.int .i64 ((((Globe.bitsL k9 i).length : Nat) : Int) : Int)) rfl (by kernel_rfl) (by kernel_rfl) (by kernel_rfl) (by kernel_rfl) ?_
          refine pl_take (.slice ab b9.length cb) rfl (by kernel_rfl) (by kernel_rfl) (by kernel_rfl) (by kernel_rfl) ?_
          refine pl_take (.int .i64 (((b9.length : Nat) : Int) : Int)) rfl (by kernel_rfl) (by kernel_rfl) (by kernel_rfl) (by kernel_rfl) ?_
          refine pl_take (.bool false) rfl (by kernel_rfl) (by kernel_rfl) (by kernel_rfl) (ev_ndec (show _ = Result.ok (Next.value (Value.bool (decide (((((Globe.bitsL k9 i).length : Nat) : Int) : Int) > (((b9.length : Nat) : Int) : Int))))) _ from by kernel_rfl) (by omega)) ?_
          refine pl_take (.bool false) rfl (by kernel_rfl) (by kernel_rfl) (by kernel_rfl) (by kernel_rfl) ?_
          refine pl_take (.slice ac ((Globe.bitsL k9 i).length) cc) rfl (by kernel_rfl) (by kernel_rfl) (by kernel_rfl) (by kernel_rfl) ?_
          refine pl_take (.int .i64 ((((Globe.bitsL k9 i).length : Nat) : Int) : Int)) rfl (by kernel_rfl) (by kernel_rfl) (by kernel_rfl) (by kernel_rfl) ?_
          refine pl_take (.slice ab b9.length cb) rfl (by kernel_rfl) (by kernel_rfl) (by kernel_rfl) (by kernel_rfl) ?_
          refine pl_take (.int .i64 (((b9.length : Nat) : Int) : Int)) rfl (by kernel_rfl) (by kernel_rfl) (by kernel_rfl) (by kernel_rfl) ?_
          refine pl_take (.bool true) rfl (by kernel_rfl) (by kernel_rfl) (by kernel_rfl) (ev_eq (show _ = Result.ok (Next.value (Value.bool (((((Globe.bitsL k9 i).length : Nat) : Int) : Int) == (((b9.length : Nat) : Int) : Int)))) _ from by kernel_rfl) (by omega)) ?_
          refine pl_take (.bool true) rfl (by kernel_rfl) (by kernel_rfl) (by kernel_rfl) (by kernel_rfl) ?_
          refine pl_take (.slice ac ((Globe.bitsL k9 i).length) cc) rfl (by kernel_rfl) (by kernel_rfl) (by kernel_rfl) (by kernel_rfl) ?_
          refine pl_take (.slice ab b9.length cb) rfl (by kernel_rfl) (by kernel_rfl) (by kernel_rfl) (by kernel_rfl) ?_
          refine pl_step rfl (by kernel_rfl) (by kernel_rfl) (by kernel_rfl) (sn_call (f := 55) (args := #[.slice ac ((Globe.bitsL k9 i).length) cc, .slice ab b9.length cb]) (by kernel_rfl) ((before_r (r := false) _ _ _ ((own9).nats rfl) (Ext.refl _) hI hX13 h9 rfl (by omega) hlt9).mono ?_))
          rintro e w41 ⟨rfl, hb⟩
          replace hE := hE.trans hb
          replace hX9 := hX9.trans hb
          replace hX13 := hX13.trans hb
          replace hX17 := hX17.trans hb
          have hs42 := hb.size
          clear hb
          refine ⟨_, rfl, ?_⟩
          refine pl_take (.bool true) rfl (by kernel_rfl) (by kernel_rfl) (by kernel_rfl) (by kernel_rfl) ?_
          refine pl_take (.bool true) rfl (by kernel_rfl) (by kernel_rfl) (by kernel_rfl) (by kernel_rfl) ?_
          refine pl_take (.bool true) rfl (by kernel_rfl) (by kernel_rfl) (by kernel_rfl) (by kernel_rfl) ?_
          refine pl_take (.bool true) rfl (by kernel_rfl) (by kernel_rfl) (by kernel_rfl) (by kernel_rfl) ?_
          refine pl_nil ?_
          refine qw_then ?_
          refine cw_clean [1, 2, 7, 8, 9, 10, 67] (ws' := [(1, .slice a i c), (2, .pointer (some ⟨O1, 0, none⟩)), (7, .slice ab b9.length cb), (8, .bool true), (9, .int .i64 (((k9 : Nat) : Int) : Int)), (10, .slice ac ((Globe.bitsL k9 i).length) cc), (67, .bool true)]) (by kernel_rfl) (fun L => ?_)
          refine cw_t (by kernel_rfl) ?_
          refine cw_exit ?_
          refine qw_then_exit ?_
          refine qw_block_out ?_
          refine qw_then ?_
          refine cw_plain ?_
          refine pl_take (.int .i64 (((k9 : Nat) : Int) : Int)) rfl (by kernel_rfl) (by kernel_rfl) (by kernel_rfl) (by kernel_rfl) ?_
          refine pl_take (.int .i64 (((k9 + 1 : Nat) : Int) : Int)) rfl (by kernel_rfl) (by kernel_rfl) (by kernel_rfl) (ev_wrap (by kernel_rfl) (by omega) (by omega)) ?_
          refine pl_take (.int .i64 (((k9 + 1 : Nat) : Int) : Int)) rfl (by kernel_rfl) (by kernel_rfl) (by kernel_rfl) (by kernel_rfl) ?_
          refine pl_nil ?_
          refine qw_round [1, 2, 7, 8, 9] (ws' := [(1, .slice a i c), (2, .pointer (some ⟨O1, 0, none⟩)), (7, .slice ab b9.length cb), (8, .bool true), (9, .int .i64 (((k9 + 1 : Nat) : Int) : Int))]) (by kernel_rfl) _ ?_ ⟨(some b9), ab, cb, (k9 + 1), rfl, rfl, (Nat.le_trans hs10 (Nat.le_trans hs14 hs42)), hE, hX9, (hI.ext hX13), by omega, (Globe.best_skip Hb hnl)⟩
          omega
        ·
          replace hI : IntsAt _ ab (intsN b9) := hI
          refine cw_plain ?_
          refine pl_take (.bool true) rfl (by kernel_rfl) (by kernel_rfl) (by kernel_rfl) (by kernel_rfl) ?_
          refine pl_take (.bool true) rfl (by kernel_rfl) (by kernel_rfl) (by kernel_rfl) (by kernel_rfl) ?_
          refine pl_take (.slice ac ((Globe.bitsL k9 i).length) cc) rfl (by kernel_rfl) (by kernel_rfl) (by kernel_rfl) (by kernel_rfl) ?_
          refine pl_take (.int .i64 ((((Globe.bitsL k9 i).length : Nat) : Int) : Int)) rfl (by kernel_rfl) (by kernel_rfl) (by kernel_rfl) (by kernel_rfl) ?_
          refine pl_take (.slice ab b9.length cb) rfl (by kernel_rfl) (by kernel_rfl) (by kernel_rfl) (by kernel_rfl) ?_
          refine pl_take (.int .i64 (((b9.length : Nat) : Int) : Int)) rfl (by kernel_rfl) (by kernel_rfl) (by kernel_rfl) (by kernel_rfl) ?_
          refine pl_take (.bool false) rfl (by kernel_rfl) (by kernel_rfl) (by kernel_rfl) (ev_ndec (show _ = Result.ok (Next.value (Value.bool (decide (((((Globe.bitsL k9 i).length : Nat) : Int) : Int) > (((b9.length : Nat) : Int) : Int))))) _ from by kernel_rfl) (by omega)) ?_
          refine pl_take (.bool false) rfl (by kernel_rfl) (by kernel_rfl) (by kernel_rfl) (by kernel_rfl) ?_
          refine pl_take (.slice ac ((Globe.bitsL k9 i).length) cc) rfl (by kernel_rfl) (by kernel_rfl) (by kernel_rfl) (by kernel_rfl) ?_
          refine pl_take (.int .i64 ((((Globe.bitsL k9 i).length : Nat) : Int) : Int)) rfl (by kernel_rfl) (by kernel_rfl) (by kernel_rfl) (by kernel_rfl) ?_
          refine pl_take (.slice ab b9.length cb) rfl (by kernel_rfl) (by kernel_rfl) (by kernel_rfl) (by kernel_rfl) ?_
          refine pl_take (.int .i64 (((b9.length : Nat) : Int) : Int)) rfl (by kernel_rfl) (by kernel_rfl) (by kernel_rfl) (by kernel_rfl) ?_
          refine pl_take (.bool true) rfl (by kernel_rfl) (by kernel_rfl) (by kernel_rfl) (ev_eq (show _ = Result.ok (Next.value (Value.bool (((((Globe.bitsL k9 i).length : Nat) : Int) : Int) == (((b9.length : Nat) : Int) : Int)))) _ from by kernel_rfl) (by omega)) ?_
          refine pl_take (.bool true) rfl (by kernel_rfl) (by kernel_rfl) (by kernel_rfl) (by kernel_rfl) ?_
          refine pl_take (.slice ac ((Globe.bitsL k9 i).length) cc) rfl (by kernel_rfl) (by kernel_rfl) (by kernel_rfl) (by kernel_rfl) ?_
          refine pl_take (.slice ab b9.length cb) rfl (by kernel_rfl) (by kernel_rfl) (by kernel_rfl) (by kernel_rfl) ?_
          refine pl_step rfl (by kernel_rfl) (by kernel_rfl) (by kernel_rfl) (sn_call (f := 55) (args := #[.slice ac ((Globe.bitsL k9 i).length) cc, .slice ab b9.length cb]) (by kernel_rfl) ((before_r (r := true) _ _ _ ((own9).nats rfl) (Ext.refl _) hI hX13 h9 rfl (by omega) hlt9).mono ?_))
          rintro e w43 ⟨rfl, hb⟩
          replace hE := hE.trans hb
          replace hX9 := hX9.trans hb
          replace hX13 := hX13.trans hb
          replace hX17 := hX17.trans hb
          have hs44 := hb.size
          clear hb
          refine ⟨_, rfl, ?_⟩
          refine pl_take (.bool false) rfl (by kernel_rfl) (by kernel_rfl) (by kernel_rfl) (by kernel_rfl) ?_
          refine pl_take (.bool false) rfl (by kernel_rfl) (by kernel_rfl) (by kernel_rfl) (by kernel_rfl) ?_
          refine pl_take (.bool false) rfl (by kernel_rfl) (by kernel_rfl) (by kernel_rfl) (by kernel_rfl) ?_
          refine pl_take (.bool false) rfl (by kernel_rfl) (by kernel_rfl) (by kernel_rfl) (by kernel_rfl) ?_
          refine pl_nil ?_
          refine qw_then ?_
          refine cw_clean [1, 2, 7, 8, 9, 10, 67] (ws' := [(1, .slice a i c), (2, .pointer (some ⟨O1, 0, none⟩)), (7, .slice ab b9.length cb), (8, .bool true), (9, .int .i64 (((k9 : Nat) : Int) : Int)), (10, .slice ac ((Globe.bitsL k9 i).length) cc), (67, .bool false)]) (by kernel_rfl) (fun L => ?_)
          refine cw_f (by kernel_rfl) ?_
          refine cw_skip ?_
          refine qw_then ?_
          refine cw_seq ?_
          rcases Bool.eq_false_or_eq_true (Globe.coversB l (ss.map fun s => s.1) k9 i) with hcv | hcv
          ·
            refine cw_plain ?_
            refine pl_take (.agg #[.slice (some ⟨b, o, none⟩) 24 k]) rfl (by kernel_rfl) (by kernel_rfl) (by kernel_rfl) (ex_load rfl (by kernel_rfl) (ld25 ((BoxAt.ext hX9 bO1_0).1))) ?_
            refine pl_take (.slice a i c) rfl (by kernel_rfl) (by kernel_rfl) (by kernel_rfl) (by kernel_rfl) ?_
            refine pl_take (.int .i64 (((k9 : Nat) : Int) : Int)) rfl (by kernel_rfl) (by kernel_rfl) (by kernel_rfl) (by kernel_rfl) ?_
            refine pl_step rfl (by kernel_rfl) (by kernel_rfl) (by kernel_rfl) (sn_call (f := 30) (args := #[.agg #[.slice (some ⟨b, o, none⟩) 24 k], .slice a i c, .int .i64 (((k9 : Nat) : Int) : Int)]) (by kernel_rfl) ((Covers_r (r := true) _ _ _ (hA.ext hE) (Ext.refl _) hS hE hok (by omega) hcv).mono ?_))
            rintro e w45 ⟨rfl, hb⟩
            replace hE := hE.trans hb
            replace hX9 := hX9.trans hb
            replace hX13 := hX13.trans hb
            replace hX17 := hX17.trans hb
            have hs46 := hb.size
            clear hb
            refine ⟨_, rfl, ?_⟩
            refine pl_nil ?_
            refine qw_then ?_
            refine cw_t (by kernel_rfl) ?_
            refine cw_seq ?_
            refine cw_plain ?_
            refine pl_take (.slice ac ((Globe.bitsL k9 i).length) cc) rfl (by kernel_rfl) (by kernel_rfl) (by kernel_rfl) (by kernel_rfl) ?_
            refine pl_take (.slice ac ((Globe.bitsL k9 i).length) cc) rfl (by kernel_rfl) (by kernel_rfl) (by kernel_rfl) (by kernel_rfl) ?_
            refine pl_nil ?_
            refine qw_then ?_
            refine cw_plain ?_
            refine pl_take (.bool true) rfl (by kernel_rfl) (by kernel_rfl) (by kernel_rfl) (by kernel_rfl) ?_
            refine pl_nil ?_
            refine qw_block ?_
            refine qw_then ?_
            refine cw_plain ?_
            refine pl_take (.int .i64 (((k9 : Nat) : Int) : Int)) rfl (by kernel_rfl) (by kernel_rfl) (by kernel_rfl) (by kernel_rfl) ?_
            refine pl_take (.int .i64 (((k9 + 1 : Nat) : Int) : Int)) rfl (by kernel_rfl) (by kernel_rfl) (by kernel_rfl) (ev_wrap (by kernel_rfl) (by omega) (by omega)) ?_
            refine pl_take (.int .i64 (((k9 + 1 : Nat) : Int) : Int)) rfl (by kernel_rfl) (by kernel_rfl) (by kernel_rfl) (by kernel_rfl) ?_
            refine pl_nil ?_
            refine qw_round [1, 2, 7, 8, 9] (ws' := [(1, .slice a i c), (2, .pointer (some ⟨O1, 0, none⟩)), (7, .slice ac ((Globe.bitsL k9 i).length) cc), (8, .bool true), (9, .int .i64 (((k9 + 1 : Nat) : Int) : Int))]) (by kernel_rfl) _ ?_ ⟨(some (Globe.bitsL k9 i)), ac, cc, (k9 + 1), rfl, rfl, (Nat.le_trans hs10 (Nat.le_trans hs14 (Nat.le_trans hs44 hs46))), hE, hX9, (((own9.ext hX17)).nats rfl), by omega, (Globe.best_yes Hb (by rw [← Globe.covers_enough hA.2]; exact hcv) (fun b e => by cases e; exact hls))⟩
            omega
          ·
            refine cw_plain ?_
            refine pl_take (.agg #[.slice (some ⟨b, o, none⟩) 24 k]) rfl (by kernel_rfl) (by kernel_rfl) (by kernel_rfl) (ex_load rfl (by kernel_rfl) (ld25 ((BoxAt.ext hX9 bO1_0).1))) ?_
            refine pl_take (.slice a i c) rfl (by kernel_rfl) (by kernel_rfl) (by kernel_rfl) (by kernel_rfl) ?_
            refine pl_take (.int .i64 (((k9 : Nat) : Int) : Int)) rfl (by kernel_rfl) (by kernel_rfl) (by kernel_rfl) (by kernel_rfl) ?_
            refine pl_step rfl (by kernel_rfl) (by kernel_rfl) (by kernel_rfl) (sn_call (f := 30) (args := #[.agg #[.slice (some ⟨b, o, none⟩) 24 k], .slice a i c, .int .i64 (((k9 : Nat) : Int) : Int)]) (by kernel_rfl) ((Covers_r (r := false) _ _ _ (hA.ext hE) (Ext.refl _) hS hE hok (by omega) hcv).mono ?_))
            rintro e w47 ⟨rfl, hb⟩
            replace hE := hE.trans hb
            replace hX9 := hX9.trans hb
            replace hX13 := hX13.trans hb
            replace hX17 := hX17.trans hb
            have hs48 := hb.size
            clear hb
            refine ⟨_, rfl, ?_⟩
            refine pl_nil ?_
            refine qw_then ?_
            refine cw_f (by kernel_rfl) ?_
            refine cw_skip ?_
            refine qw_block ?_
            refine qw_then ?_
            refine cw_plain ?_
            refine pl_take (.int .i64 (((k9 : Nat) : Int) : Int)) rfl (by kernel_rfl) (by kernel_rfl) (by kernel_rfl) (by kernel_rfl) ?_
            refine pl_take (.int .i64 (((k9 + 1 : Nat) : Int) : Int)) rfl (by kernel_rfl) (by kernel_rfl) (by kernel_rfl) (ev_wrap (by kernel_rfl) (by omega) (by omega)) ?_
            refine pl_take (.int .i64 (((k9 + 1 : Nat) : Int) : Int)) rfl (by kernel_rfl) (by kernel_rfl) (by kernel_rfl) (by kernel_rfl) ?_
            refine pl_nil ?_
            refine qw_round [1, 2, 7, 8, 9] (ws' := [(1, .slice a i c), (2, .pointer (some ⟨O1, 0, none⟩)), (7, .slice ab b9.length cb), (8, .bool true), (9, .int .i64 (((k9 + 1 : Nat) : Int) : Int))]) (by kernel_rfl) _ ?_ ⟨(some b9), ab, cb, (k9 + 1), rfl, rfl, (Nat.le_trans hs10 (Nat.le_trans hs14 (Nat.le_trans hs44 hs48))), hE, hX9, (hI.ext hX13), by omega, (Globe.best_no Hb (by rw [← Globe.covers_enough hA.2]; exact hcv))⟩
            omega
  ·
    have hkn : k9 = 2 ^ n := by omega
    refine cw_seq ?_
    refine cw_seq ?_
    refine cw_plain ?_
    refine pl_take (.int .i64 (((k9 : Nat) : Int) : Int)) rfl (by kernel_rfl) (by kernel_rfl) (by kernel_rfl) (by kernel_rfl) ?_
    refine pl_take (.slice a n c) rfl (by kernel_rfl) (by kernel_rfl) (by kernel_rfl) (by kernel_rfl) ?_
    refine pl_take (.int .i64 (((n : Nat) : Int) : Int)) rfl (by kernel_rfl) (by kernel_rfl) (by kernel_rfl) (by kernel_rfl) ?_
    refine pl_take (.int .i64 (((2 ^ n : Nat) : Int) : Int)) rfl (by kernel_rfl) (by kernel_rfl) (by kernel_rfl) (ex_bin rfl (by kernel_rfl) (by kernel_rfl) (bin_shl1 (by omega))) ?_
    refine pl_take (.bool false) rfl (by kernel_rfl) (by kernel_rfl) (by kernel_rfl) (ev_ndec (show _ = Result.ok (Next.value (Value.bool (decide ((((k9 : Nat) : Int) : Int) < (((2 ^ n : Nat) : Int) : Int))))) _ from by kernel_rfl) (by omega)) ?_
    refine pl_nil ?_
    refine qw_then ?_
    refine cw_f (by kernel_rfl) ?_
    refine cw_exit ?_
    refine qw_then_exit ?_
    refine qw_then_exit ?_
    refine qw_block_out ?_
    refine qw_then ?_
    refine cw_seq ?_
    refine cw_plain ?_
    refine pl_take (.slice ab ((r.getD []).length) cb) rfl (by kernel_rfl) (by kernel_rfl) (by kernel_rfl) (by kernel_rfl) ?_
    refine pl_take (.bool r.isSome) rfl (by kernel_rfl) (by kernel_rfl) (by kernel_rfl) (by kernel_rfl) ?_
    refine pl_take (.slice ab ((r.getD []).length) cb) rfl (by kernel_rfl) (by kernel_rfl) (by kernel_rfl) (by kernel_rfl) ?_
    refine pl_take (.bool r.isSome) rfl (by kernel_rfl) (by kernel_rfl) (by kernel_rfl) (by kernel_rfl) ?_
    refine pl_take (.int .i64 0) rfl (by kernel_rfl) (by kernel_rfl) (by kernel_rfl) (by kernel_rfl) ?_
    refine pl_nil ?_
    refine qw_then ?_
    refine cw_clean [4, 5, 6] (ws' := [(4, .slice ab ((r.getD []).length) cb), (5, .bool r.isSome), (6, .int .i64 0)]) (by kernel_rfl) (fun L => ?_)
    refine cw_ret ?_
    refine qw_ret [.slice ab ((r.getD []).length) cb, .bool r.isSome, .int .i64 0] rfl ⟨(by kernel_rfl), (by kernel_rfl), (by kernel_rfl), trivial⟩ ?_
    rw [show Globe.fewestL (Globe.enough l (ss.map fun s => s.1)) n = r from Globe.best_end (hkn ▸ Hb)]
    exact ⟨_, _, rfl, hI, hE⟩
set_option maxRecDepth 1000000 in
set_option maxHeartbeats 4000000 in
theorem rFewest_n {w1 w2 : World} {a : Option Addr} {n : Nat} {ss : List (List Int × List Int)} {a1 : Option Addr} {n1 : Nat} {l : List Int} {v : Bool} (c k : Nat) (w : World) (hl : AA w1 a1 l n1 v) (e1 : Ext w1 w) (h : StripsAt w2 a n ss) (e2 : Ext w2 w) (hno : (decide (n ≤ 12) && (v && Globe.stripsOk ss)) = false) :
    Calls Tryd.prog 26 #[.agg #[.slice a1 n1 k], .slice a n c] w (FewErr w) := by
  have hA := hl.ext e1; have hS := h.ext e2; have hln := h.1; have hnb := h.2.1
  refine calls_cw 75 [(1, .slice a n c), (0, .agg #[.slice a1 n1 k])] Tryd.func26 rfl Tryd.ntmps26 (by kernel_rfl) (by kernel_rfl) (fun L => ?_)
  have hE : Ext w w := Ext.refl w
  refine cw_seq ?_
  refine cw_plain ?_
  refine pl_step rfl (by kernel_rfl) (by kernel_rfl) (by kernel_rfl) (sn_new (us := #[.slice a1 n1 k]) (t := 25) (by kernel_rfl) ?_)
  intro O1 X2 hO hOs hb hbx
  have hzO1 := hO; have hyO1 := hOs; clear hO hOs
  have bO1_0 : BoxAt X2 O1 0 (.slice a1 n1 k) := hbx 0 _ rfl
  clear hbx
  replace hE := hE.trans hb
  have hs3 := hb.size
  clear hb
  have lt4 := bO1_0.lt
  refine pl_take (.slice none 0 0) rfl (by kernel_rfl) (by kernel_rfl) (by kernel_rfl) (by kernel_rfl) ?_
  refine pl_take (.bool false) rfl (by kernel_rfl) (by kernel_rfl) (by kernel_rfl) (by kernel_rfl) ?_
  refine pl_take (.int .i64 0) rfl (by kernel_rfl) (by kernel_rfl) (by kernel_rfl) (by kernel_rfl) ?_
  refine pl_nil ?_
  refine qw_then ?_
  refine cw_seq ?_
  refine cw_seq ?_
  rcases b5 hno with rfl | ⟨rfl, hok⟩ | ⟨rfl, hok, hnq⟩
  ·
    refine cw_plain ?_
    refine pl_take (.agg #[.slice a1 n1 k]) rfl (by kernel_rfl) (by kernel_rfl) (by kernel_rfl) (ex_load rfl (by kernel_rfl) (ld25 (bO1_0.1))) ?_
    refine pl_step rfl (by kernel_rfl) (by kernel_rfl) (by kernel_rfl) (sn_call (f := 44) (args := #[.agg #[.slice a1 n1 k]]) (by kernel_rfl) ((rValid_c _ _ hA hE).mono ?_))
    rintro e w5 ⟨rfl, hb⟩
    replace hE := hE.trans hb
    replace bO1_0 := BoxAt.ext hb bO1_0
    have hs6 := hb.size
    clear hb
    refine ⟨_, rfl, ?_⟩
    refine pl_take (.bool true) rfl (by kernel_rfl) (by kernel_rfl) (by kernel_rfl) (by kernel_rfl) ?_
    refine pl_take (.bool true) rfl (by kernel_rfl) (by kernel_rfl) (by kernel_rfl) (by kernel_rfl) ?_
    refine pl_skip rfl (by kernel_rfl) (by kernel_rfl) (by kernel_rfl) ?_
    refine pl_skip rfl (by kernel_rfl) (by kernel_rfl) (by kernel_rfl) ?_
    refine pl_skip rfl (by kernel_rfl) (by kernel_rfl) (by kernel_rfl) ?_
    refine pl_take (.bool true) rfl (by kernel_rfl) (by kernel_rfl) (by kernel_rfl) (by kernel_rfl) ?_
    refine pl_take (.bool true) rfl (by kernel_rfl) (by kernel_rfl) (by kernel_rfl) (by kernel_rfl) ?_
    refine pl_skip rfl (by kernel_rfl) (by kernel_rfl) (by kernel_rfl) ?_
    refine pl_skip rfl (by kernel_rfl) (by kernel_rfl) (by kernel_rfl) ?_
    refine pl_skip rfl (by kernel_rfl) (by kernel_rfl) (by kernel_rfl) ?_
    refine pl_take (.bool true) rfl (by kernel_rfl) (by kernel_rfl) (by kernel_rfl) (by kernel_rfl) ?_
    refine pl_nil ?_
    refine qw_then ?_
    refine cw_clean [1, 2, 24] (ws' := [(1, .slice a n c), (2, .pointer (some ⟨O1, 0, none⟩)), (24, .bool true)]) (by kernel_rfl) (fun L => ?_)
    refine cw_t (by kernel_rfl) ?_
    refine cw_seq ?_
    refine cw_plain ?_
    refine pl_take (.slice none 0 0) rfl (by kernel_rfl) (by kernel_rfl) (by kernel_rfl) (by kernel_rfl) ?_
    refine pl_take (.bool false) rfl (by kernel_rfl) (by kernel_rfl) (by kernel_rfl) (by kernel_rfl) ?_
    refine pl_take (.int .i64 160) rfl (by kernel_rfl) (by kernel_rfl) (by kernel_rfl) (by kernel_rfl) ?_
    refine pl_nil ?_
    refine qw_then ?_
    refine cw_ret ?_
    refine qw_then_ret ?_
    refine qw_ret [.slice none 0 0, .bool false, .int .i64 160] rfl ⟨(by kernel_rfl), (by kernel_rfl), (by kernel_rfl), trivial⟩ ?_
    exact ⟨rfl, hE⟩
  ·
    refine cw_plain ?_
    refine pl_take (.agg #[.slice a1 n1 k]) rfl (by kernel_rfl) (by kernel_rfl) (by kernel_rfl) (ex_load rfl (by kernel_rfl) (ld25 (bO1_0.1))) ?_
    refine pl_step rfl (by kernel_rfl) (by kernel_rfl) (by kernel_rfl) (sn_call (f := 44) (args := #[.agg #[.slice a1 n1 k]]) (by kernel_rfl) ((rValid_c _ _ hA hE).mono ?_))
    rintro e w7 ⟨rfl, hb⟩
    replace hE := hE.trans hb
    replace bO1_0 := BoxAt.ext hb bO1_0
    have hs8 := hb.size
    clear hb
    refine ⟨_, rfl, ?_⟩
    refine pl_take (.bool false) rfl (by kernel_rfl) (by kernel_rfl) (by kernel_rfl) (by kernel_rfl) ?_
    refine pl_take (.bool false) rfl (by kernel_rfl) (by kernel_rfl) (by kernel_rfl) (by kernel_rfl) ?_
    refine pl_take (.slice a n c) rfl (by kernel_rfl) (by kernel_rfl) (by kernel_rfl) (by kernel_rfl) ?_
    refine pl_step rfl (by kernel_rfl) (by kernel_rfl) (by kernel_rfl) (sn_call (f := 20) (args := #[.slice a n c]) (by kernel_rfl) ((rValidS_r (r := false) _ _ hS hE (hok)).mono ?_))
    rintro e w9 ⟨rfl, hb⟩
    replace hE := hE.trans hb
    replace bO1_0 := BoxAt.ext hb bO1_0
    have hs10 := hb.size
    clear hb
    refine ⟨_, rfl, ?_⟩
    refine pl_take (.bool true) rfl (by kernel_rfl) (by kernel_rfl) (by kernel_rfl) (by kernel_rfl) ?_
    refine pl_take (.bool true) rfl (by kernel_rfl) (by kernel_rfl) (by kernel_rfl) (by kernel_rfl) ?_
    refine pl_take (.bool true) rfl (by kernel_rfl) (by kernel_rfl) (by kernel_rfl) (by kernel_rfl) ?_
    refine pl_skip rfl (by kernel_rfl) (by kernel_rfl) (by kernel_rfl) ?_
    refine pl_skip rfl (by kernel_rfl) (by kernel_rfl) (by kernel_rfl) ?_
    refine pl_skip rfl (by kernel_rfl) (by kernel_rfl) (by kernel_rfl) ?_
    refine pl_take (.bool true) rfl (by kernel_rfl) (by kernel_rfl) (by kernel_rfl) (by kernel_rfl) ?_
    refine pl_nil ?_
    refine qw_then ?_
    refine cw_clean [1, 2, 24] (ws' := [(1, .slice a n c), (2, .pointer (some ⟨O1, 0, none⟩)), (24, .bool true)]) (by kernel_rfl) (fun L => ?_)
    refine cw_t (by kernel_rfl) ?_
    refine cw_seq ?_
    refine cw_plain ?_
    refine pl_take (.slice none 0 0) rfl (by kernel_rfl) (by kernel_rfl) (by kernel_rfl) (by kernel_rfl) ?_
    refine pl_take (.bool false) rfl (by kernel_rfl) (by kernel_rfl) (by kernel_rfl) (by kernel_rfl) ?_
    refine pl_take (.int .i64 160) rfl (by kernel_rfl) (by kernel_rfl) (by kernel_rfl) (by kernel_rfl) ?_
    refine pl_nil ?_
    refine qw_then ?_
    refine cw_ret ?_
    refine qw_then_ret ?_
    refine qw_ret [.slice none 0 0, .bool false, .int .i64 160] rfl ⟨(by kernel_rfl), (by kernel_rfl), (by kernel_rfl), trivial⟩ ?_
    exact ⟨rfl, hE⟩
  ·
    refine cw_plain ?_
    refine pl_take (.agg #[.slice a1 n1 k]) rfl (by kernel_rfl) (by kernel_rfl) (by kernel_rfl) (ex_load rfl (by kernel_rfl) (ld25 (bO1_0.1))) ?_
    refine pl_step rfl (by kernel_rfl) (by kernel_rfl) (by kernel_rfl) (sn_call (f := 44) (args := #[.agg #[.slice a1 n1 k]]) (by kernel_rfl) ((rValid_c _ _ hA hE).mono ?_))
    rintro e w11 ⟨rfl, hb⟩
    replace hE := hE.trans hb
    replace bO1_0 := BoxAt.ext hb bO1_0
    have hs12 := hb.size
    clear hb
    refine ⟨_, rfl, ?_⟩
    refine pl_take (.bool false) rfl (by kernel_rfl) (by kernel_rfl) (by kernel_rfl) (by kernel_rfl) ?_
    refine pl_take (.bool false) rfl (by kernel_rfl) (by kernel_rfl) (by kernel_rfl) (by kernel_rfl) ?_
    refine pl_take (.slice a n c) rfl (by kernel_rfl) (by kernel_rfl) (by kernel_rfl) (by kernel_rfl) ?_
    refine pl_step rfl (by kernel_rfl) (by kernel_rfl) (by kernel_rfl) (sn_call (f := 20) (args := #[.slice a n c]) (by kernel_rfl) ((rValidS_r (r := true) _ _ hS hE (hok)).mono ?_))
    rintro e w13 ⟨rfl, hb⟩
    replace hE := hE.trans hb
    replace bO1_0 := BoxAt.ext hb bO1_0
    have hs14 := hb.size
    clear hb
    refine ⟨_, rfl, ?_⟩
    refine pl_take (.bool false) rfl (by kernel_rfl) (by kernel_rfl) (by kernel_rfl) (by kernel_rfl) ?_
    refine pl_take (.bool false) rfl (by kernel_rfl) (by kernel_rfl) (by kernel_rfl) (by kernel_rfl) ?_
    refine pl_take (.bool false) rfl (by kernel_rfl) (by kernel_rfl) (by kernel_rfl) (by kernel_rfl) ?_
    refine pl_take (.slice a n c) rfl (by kernel_rfl) (by kernel_rfl) (by kernel_rfl) (by kernel_rfl) ?_
    refine pl_take (.int .i64 (((n : Nat) : Int) : Int)) rfl (by kernel_rfl) (by kernel_rfl) (by kernel_rfl) (by kernel_rfl) ?_
    refine pl_take (.bool true) rfl (by kernel_rfl) (by kernel_rfl) (by kernel_rfl) (ev_dec (show _ = Result.ok (Next.value (Value.bool (decide ((((n : Nat) : Int) : Int) > (12 : Int))))) _ from by kernel_rfl) (by omega)) ?_
    refine pl_take (.bool true) rfl (by kernel_rfl) (by kernel_rfl) (by kernel_rfl) (by kernel_rfl) ?_
    refine pl_nil ?_
    refine qw_then ?_
    refine cw_clean [1, 2, 24] (ws' := [(1, .slice a n c), (2, .pointer (some ⟨O1, 0, none⟩)), (24, .bool true)]) (by kernel_rfl) (fun L => ?_)
    refine cw_t (by kernel_rfl) ?_
    refine cw_seq ?_
    refine cw_plain ?_
    refine pl_take (.slice none 0 0) rfl (by kernel_rfl) (by kernel_rfl) (by kernel_rfl) (by kernel_rfl) ?_
    refine pl_take (.bool false) rfl (by kernel_rfl) (by kernel_rfl) (by kernel_rfl) (by kernel_rfl) ?_
    refine pl_take (.int .i64 160) rfl (by kernel_rfl) (by kernel_rfl) (by kernel_rfl) (by kernel_rfl) ?_
    refine pl_nil ?_
    refine qw_then ?_
    refine cw_ret ?_
    refine qw_then_ret ?_
    refine qw_ret [.slice none 0 0, .bool false, .int .i64 160] rfl ⟨(by kernel_rfl), (by kernel_rfl), (by kernel_rfl), trivial⟩ ?_
    exact ⟨rfl, hE⟩

end Go.Proofs.YtglfoglkdbbmmaaDoor

/- Contract of package cover: Fewest of what is not valid, or of too many strips. -/
namespace Go.Proofs.YtglfoglkdbbmmaaDoor
open Go.RowKit Go.Shelf

attribute [local go_sem] Oper.semAt_some

set_option maxHeartbeats 1000000 in
theorem Fewest_n {w1 w2 : World} {a : Option Addr} {n : Nat} {ss : List (List Int × List Int)} {a1 : Option Addr} {n1 : Nat} {l : List Int} {v : Bool} (c k : Nat) (w : World) (hl : AA w1 a1 l n1 v) (e1 : Ext w1 w) (h : StripsAt w2 a n ss) (e2 : Ext w2 w) (hno : (decide (n ≤ 12) && (v && Globe.stripsOk ss)) = false) :
    Calls Tryd.prog 25 #[.agg #[.slice a1 n1 k], .slice a n c] w (FewErr w) := by
  have H := Lib.hid (h.ext e2)
  replace hl := hl.ext e1
  clear h e1 e2
  refine (callsIn_wide (n := 3)).1 ?_
  refine callsIn_of_wp_marks Tryd.func25 rfl trivial ?_ rfl
  simp only [Tryd.ntmps25, List.size_toArray, List.length_cons, List.length_nil, Nat.reduceAdd, Nat.reduceSub, Array.replicate_succ, Array.replicate_zero, List.push_toArray, List.append_toArray, List.nil_append, List.cons_append]
  refine wpIn_wide.2 ?_
  by_cases h12 : n ≤ 12
  · have n0 : (n : Int) ≤ 12 := by omega
    rw [decide_eq_true h12, Bool.true_and] at hno
    cases v
    · go_wp2_with fail
      go_step3
      go_wp2_with fail
      refine (Valid_e k _ hl (by (repeat' (first | (with_reducible assumption) | (with_reducible exact Ext.refl _) | (with_reducible refine Ext.alloc ?_ _) | (with_reducible refine Ext.drew ?_) | (with_reducible refine Ext.drewN ?_ _) | (with_reducible refine Ext.setCell ?_ ?_ _) | (with_reducible refine Ext.trans ?_ (by assumption)) | go_size)))).mono ?_
      rintro e w1 ⟨rfl, hb⟩
      have hc := hb.cellE; have hf := hb.frozenE; have hz := hb.size; have ha := alloc_keeps w1; (try simp only [World.size_alloc] at hc hf hz); (try simp only [World.size_setCell] at hc hf hz); (try simp only [World.size_drew] at hc hf hz)
      go_wp2_with fail
      exact ⟨_, by simp [results, Tryd.results25, go_sem], rfl, by (repeat' (first | (with_reducible assumption) | (with_reducible exact Ext.refl _) | (with_reducible refine Ext.alloc ?_ _) | (with_reducible refine Ext.drew ?_) | (with_reducible refine Ext.drewN ?_ _) | (with_reducible refine Ext.setCell ?_ ?_ _) | (with_reducible refine Ext.trans ?_ (by assumption)) | go_size))⟩
    · have hq : Globe.stripsOk ss = false := by simpa using hno
      have Hq := Lib.hid hq; clear hq hno
      go_wp2_with fail
      go_step3
      go_wp2_with fail
      refine (Valid_e k _ hl (by (repeat' (first | (with_reducible assumption) | (with_reducible exact Ext.refl _) | (with_reducible refine Ext.alloc ?_ _) | (with_reducible refine Ext.drew ?_) | (with_reducible refine Ext.drewN ?_ _) | (with_reducible refine Ext.setCell ?_ ?_ _) | (with_reducible refine Ext.trans ?_ (by assumption)) | go_size)))).mono ?_
      rintro e w1 ⟨rfl, hb⟩
      have hc := hb.cellE; have hf := hb.frozenE; have hz := hb.size; have ha := alloc_keeps w1; (try simp only [World.size_alloc] at hc hf hz); (try simp only [World.size_setCell] at hc hf hz); (try simp only [World.size_drew] at hc hf hz)
      go_wp2_with fail
      refine (ValidS_r c _ H.out (by (repeat' (first | (with_reducible assumption) | (with_reducible exact Ext.refl _) | (with_reducible refine Ext.alloc ?_ _) | (with_reducible refine Ext.drew ?_) | (with_reducible refine Ext.drewN ?_ _) | (with_reducible refine Ext.setCell ?_ ?_ _) | (with_reducible refine Ext.trans ?_ (by assumption)) | go_size))) Hq.out).mono ?_
      rintro e w2 ⟨rfl, hb⟩
      have hc := hb.cellE; have hf := hb.frozenE; have hz := hb.size; have ha := alloc_keeps w2; (try simp only [World.size_alloc] at hc hf hz); (try simp only [World.size_setCell] at hc hf hz); (try simp only [World.size_drew] at hc hf hz)
      go_wp2_with fail
      exact ⟨_, by simp [results, Tryd.results25, go_sem], rfl, by (repeat' (first | (with_reducible assumption) | (with_reducible exact Ext.refl _) | (with_reducible refine Ext.alloc ?_ _) | (with_reducible refine Ext.drew ?_) | (with_reducible refine Ext.drewN ?_ _) | (with_reducible refine Ext.setCell ?_ ?_ _) | (with_reducible refine Ext.trans ?_ (by assumption)) | go_size))⟩
  · have n0 : (12 : Int) < n := by omega
    clear hno hl
    go_wp2_with fail
    go_step3
    go_wp2_with fail
    exact ⟨_, by simp [results, Tryd.results25, go_sem], rfl, by (repeat' (first | (with_reducible assumption) | (with_reducible exact Ext.refl _) | (with_reducible refine Ext.alloc ?_ _) | (with_reducible refine Ext.drew ?_) | (with_reducible refine Ext.drewN ?_ _) | (with_reducible refine Ext.setCell ?_ ?_ _) | (with_reducible refine Ext.trans ?_ (by assumption)) | go_size))⟩

end Go.Proofs.YtglfoglkdbbmmaaDoor

/- Contracts of package cover and of its reference, on whatever comes: one result for what is valid and what is not. -/
namespace Go.Proofs.YtglfoglkdbbmmaaDoor
open Go.RowKit

def UncAny (w : World) (ok : Bool) (L1 L2 : List Int) (e : Ending) (w' : World) : Prop :=
  ∃ (a1 : Option Addr) (k1 : Nat) (a2 : Option Addr) (k2 : Nat), e = .returned (.tuple #[.agg #[.slice a1 (orL ok L1).length k1], .agg #[.slice a2 (orL ok L2).length k2], .int .i64 (orE ok 160)]) ∧ IntsAt w' a1 (orL ok L1) ∧ IntsAt w' a2 (orL ok L2) ∧ Ext w w' ∧
    (∀ ad, a1 = some ad → True ∧ ad.block < w'.heap.size) ∧ ∀ ad, a2 = some ad → True ∧ ad.block < w'.heap.size
theorem UncAny.yes {w w' : World} {L1 L2 : List Int} {e : Ending} {B1 o1 k1 B2 o2 k2 : Nat} (he : e = .returned (.tuple #[.agg #[.slice (some ⟨B1, o1, none⟩) 24 k1], .agg #[.slice (some ⟨B2, o2, none⟩) 24 k2], .int .i64 0])) (v1 : VA w' B1 o1 L1) (v2 : VA w' B2 o2 L2) (hE : Ext w w') : UncAny w true L1 L2 e w' :=
  ⟨_, k1, _, k2, by rw [he, show (orL true L1).length = 24 from v1.len, show (orL true L2).length = 24 from v2.len]; rfl, v1.aa.1, v2.aa.1, hE, fun ad e => by cases e; exact ⟨trivial, v1.lt⟩, fun ad e => by cases e; exact ⟨trivial, v2.lt⟩⟩
theorem UncAny.no {w w' : World} {L1 L2 : List Int} {e : Ending} (h : UncErr w e w') : UncAny w false L1 L2 e w' :=
  ⟨none, 0, none, 0, h.1, .inl rfl, .inl rfl, h.2, (fun ad e => by cases e), (fun ad e => by cases e)⟩
section
variable {w1 w2 : World} {a : Option Addr} {n : Nat} {ss : List (List Int × List Int)} {a1 : Option Addr} {n1 : Nat} {l : List Int} {v : Bool}
theorem Uncovered_c (c k : Nat) (w : World) (hl : AA w1 a1 l n1 v) (e1 : Ext w1 w) (h : StripsAt w2 a n ss) (e2 : Ext w2 w) :
    Calls Tryd.prog 15 #[.agg #[.slice a1 n1 k], .slice a n c] w (UncAny w (v && Globe.stripsOk ss) (Globe.leftL l (ss.map fun s => s.2)) (Globe.leftL l (ss.map fun s => s.1))) := by
  cases hq : (v && Globe.stripsOk ss)
  · exact (Uncovered_n c k w hl e1 h e2 hq).mono fun _ _ h => UncAny.no h
  · obtain ⟨rfl, hok⟩ := Bool.and_eq_true_iff.1 hq
    obtain ⟨b, o, rfl, rfl, r⟩ := hl.va
    exact (Uncovered_v c k w r e1 h e2 hok).mono fun _ _ ⟨_, _, _, _, _, _, he, h1, h2, _, _, hE⟩ => UncAny.yes he h1 h2 hE
theorem rUncovered_c (c k : Nat) (w : World) (hl : AA w1 a1 l n1 v) (e1 : Ext w1 w) (h : StripsAt w2 a n ss) (e2 : Ext w2 w) :
    Calls Tryd.prog 16 #[.agg #[.slice a1 n1 k], .slice a n c] w (UncAny w (v && Globe.stripsOk ss) (Globe.leftL l (ss.map fun s => s.2)) (Globe.leftL l (ss.map fun s => s.1))) := by
  cases hq : (v && Globe.stripsOk ss)
  · exact (rUncovered_n c k w hl e1 h e2 hq).mono fun _ _ h => UncAny.no h
  · obtain ⟨rfl, hok⟩ := Bool.and_eq_true_iff.1 hq
    obtain ⟨b, o, rfl, rfl, r⟩ := hl.va
    exact (rUncovered_v c k w r e1 h e2 hok).mono fun _ _ ⟨_, _, _, _, _, _, he, h1, h2, hE⟩ => UncAny.yes he h1 h2 hE
end
/-- Pieces and a rest, or none. -/
def orP (ok : Bool) (P : List (List Int)) : List (List Int) := if ok then P else []
def DecAny (w : World) (ok : Bool) (P : List (List Int)) (L : List Int) (e : Ending) (w' : World) : Prop :=
  ∃ (a : Option Addr) (c : Nat) (a1 : Option Addr) (k : Nat), e = .returned (.tuple #[.slice a (orP ok P).length c, .agg #[.slice a1 (orL ok L).length k], .int .i64 (orE ok 160)]) ∧ AreasAt w' a (orP ok P).length (orP ok P) ∧ IntsAt w' a1 (orL ok L) ∧ Ext w w' ∧ ∀ ad, a1 = some ad → True ∧ ad.block < w'.heap.size
theorem DecAny.yes {w w' : World} {P : List (List Int)} {L : List Int} {e : Ending} {a : Option Addr} {n c B o k : Nat} (hn : P.length = n) (he : e = .returned (.tuple #[.slice a n c, .agg #[.slice (some ⟨B, o, none⟩) 24 k], .int .i64 0])) (hA : AreasAt w' a n P) (hv : VA w' B o L) (hE : Ext w w') : DecAny w true P L e w' := by
  subst hn
  exact ⟨a, c, _, k, by rw [he, show (orL true L).length = 24 from hv.len]; rfl, hA, hv.aa.1, hE, fun ad e => by cases e; exact ⟨trivial, hv.lt⟩⟩
theorem DecAny.no {w w' : World} {P : List (List Int)} {L : List Int} {e : Ending} (h : DecErr w e w') : DecAny w false P L e w' := ⟨none, 0, none, 0, h.1, ⟨rfl, Nat.zero_le _, .inl rfl⟩, .inl rfl, h.2, (fun ad e => by cases e)⟩
section
variable {w1 w2 : World} {a : Option Addr} {n : Nat} {ss : List (List Int × List Int)} {a1 : Option Addr} {n1 : Nat} {l : List Int} {v : Bool}
theorem Decompose_c (c k : Nat) (w : World) (hl : AA w1 a1 l n1 v) (e1 : Ext w1 w) (h : StripsAt w2 a n ss) (e2 : Ext w2 w) :
    Calls Tryd.prog 17 #[.agg #[.slice a1 n1 k], .slice a n c] w (DecAny w (v && Globe.stripsOk ss) (Globe.piecesL l (ss.map fun s => s.1)) (Globe.leftL l (ss.map fun s => s.1))) := by
  have hlen := h.1
  cases hq : (v && Globe.stripsOk ss)
  · exact (Decompose_n c k w hl e1 h e2 hq).mono fun _ _ h => DecAny.no h
  · obtain ⟨rfl, hok⟩ := Bool.and_eq_true_iff.1 hq
    obtain ⟨b, o, rfl, rfl, r⟩ := hl.va
    exact (Decompose_s c k w r e1 h e2 hok).mono fun _ _ ⟨_, _, _, _, _, he, _, hA, hv, hE⟩ => DecAny.yes (by rw [Globe.pieces_len, List.length_map, hlen]) he hA hv hE
theorem rDecompose_c (c k : Nat) (w : World) (hl : AA w1 a1 l n1 v) (e1 : Ext w1 w) (h : StripsAt w2 a n ss) (e2 : Ext w2 w) :
    Calls Tryd.prog 18 #[.agg #[.slice a1 n1 k], .slice a n c] w (DecAny w (v && Globe.stripsOk ss) (Globe.piecesL l (ss.map fun s => s.1)) (Globe.leftL l (ss.map fun s => s.1))) := by
  have hlen := h.1
  cases hq : (v && Globe.stripsOk ss)
  · exact (rDecompose_n c k w hl e1 h e2 hq).mono fun _ _ h => DecAny.no h
  · obtain ⟨rfl, hok⟩ := Bool.and_eq_true_iff.1 hq
    obtain ⟨b, o, rfl, rfl, r⟩ := hl.va
    exact (rDecompose_v c k w r e1 h e2 hok).mono fun _ _ ⟨_, _, _, _, _, he, hA, hv, hE⟩ => DecAny.yes (by rw [Globe.pieces_len, List.length_map, hlen]) he hA hv hE
end

def FewAny (w : World) (ok : Bool) (r : Option (List Nat)) (e : Ending) (w' : World) : Prop :=
  ∃ (a : Option Addr) (c : Nat), e = .returned (.tuple #[.slice a (if ok then r.getD [] else []).length c, .bool (ok && r.isSome), .int .i64 (orE ok 160)]) ∧ IntsAt w' a (intsN (if ok then r.getD [] else [])) ∧ Ext w w'
theorem FewAny.yes {w w' : World} {r : Option (List Nat)} {e : Ending} (h : FewRes w r e w') : FewAny w true r e w' := by
  obtain ⟨a, c, he, hi, hE⟩ := h
  exact ⟨a, c, he, hi, hE⟩
theorem FewAny.no {w w' : World} {r : Option (List Nat)} {e : Ending} (h : FewErr w e w') : FewAny w false r e w' := ⟨none, 0, h.1, .inl rfl, h.2⟩
section
variable {w1 w2 : World} {a : Option Addr} {n : Nat} {ss : List (List Int × List Int)} {a1 : Option Addr} {n1 : Nat} {l : List Int} {v : Bool}
theorem Fewest_c (c k : Nat) (w : World) (hl : AA w1 a1 l n1 v) (e1 : Ext w1 w) (h : StripsAt w2 a n ss) (e2 : Ext w2 w) (hT : Tab w) :
    Calls Tryd.prog 25 #[.agg #[.slice a1 n1 k], .slice a n c] w (FewAny w (decide (n ≤ 12) && (v && Globe.stripsOk ss)) (Globe.fewestL (Globe.enough l (ss.map fun s => s.1)) n)) := by
  cases hq : (decide (n ≤ 12) && (v && Globe.stripsOk ss))
  · exact (Fewest_n c k w hl e1 h e2 hq).mono fun _ _ h => FewAny.no h
  · simp only [Bool.and_eq_true, decide_eq_true_eq] at hq
    obtain ⟨h12, rfl, hok⟩ := hq
    obtain ⟨b, o, rfl, rfl, r⟩ := hl.va
    exact (Fewest_r c k w r e1 h e2 hok h12 hT rfl).mono fun _ _ h => FewAny.yes h
theorem rFewest_c (c k : Nat) (w : World) (hl : AA w1 a1 l n1 v) (e1 : Ext w1 w) (h : StripsAt w2 a n ss) (e2 : Ext w2 w) :
    Calls Tryd.prog 26 #[.agg #[.slice a1 n1 k], .slice a n c] w (FewAny w (decide (n ≤ 12) && (v && Globe.stripsOk ss)) (Globe.fewestL (Globe.enough l (ss.map fun s => s.1)) n)) := by
  cases hq : (decide (n ≤ 12) && (v && Globe.stripsOk ss))
  · exact (rFewest_n c k w hl e1 h e2 hq).mono fun _ _ h => FewAny.no h
  · simp only [Bool.and_eq_true, decide_eq_true_eq] at hq
    obtain ⟨h12, rfl, hok⟩ := hq
    obtain ⟨b, o, rfl, rfl, r⟩ := hl.va
    exact (rFewest_v c k w r e1 h e2 hok h12).mono fun _ _ h => FewAny.yes h
end

end Go.Proofs.YtglfoglkdbbmmaaDoor

/- Lists of one's own of arbitrary strips. -/
namespace Go.Proofs.YtglfoglkdbbmmaaDoor
open Go.RowKit

/-- Ints at an address, and the blocks that they lie in. -/
def IntsF (w : World) (a : Option Addr) (l : List Int) (F : List Nat) : Prop :=
  (l = [] ∧ F = []) ∨ ∃ b o, a = some ⟨b, o, none⟩ ∧ (∀ i, i < l.length → w.cell? ⟨b, o + i, none⟩ = some (.int .i64 (Globe.nth l i))) ∧ 0 < l.length ∧ F = [b]
theorem IntsF.ints {w : World} {a : Option Addr} {l : List Int} {F : List Nat} (h : IntsF w a l F) : IntsAt w a l := by
  rcases h with ⟨h, _⟩ | ⟨b, o, h, k, _, _⟩
  · exact .inl h
  · exact .inr ⟨b, o, h, k⟩
theorem IntsF.lt {w : World} {a : Option Addr} {l : List Int} {F : List Nat} (h : IntsF w a l F) : ∀ b ∈ F, b < w.heap.size := by
  rcases h with ⟨_, rfl⟩ | ⟨b, o, _, k, h0, rfl⟩
  · intro b hb; cases hb
  · intro c hc
    rw [List.mem_singleton.1 hc]
    exact World.block_lt_of_cell? w _ (k 0 h0)
theorem IntsF.keep {w w' : World} {a : Option Addr} {l : List Int} {F : List Nat} (h : IntsF w a l F) (hk : ∀ b ∈ F, ∀ o u, w.cell? ⟨b, o, none⟩ = some u → w'.cell? ⟨b, o, none⟩ = some u) : IntsF w' a l F := by
  rcases h with h | ⟨b, o, h, k, h0, rfl⟩
  · exact .inl h
  · exact .inr ⟨b, o, h, fun i hi => hk b (by simp) _ _ (k i hi), h0, rfl⟩
theorem IntsAt.F {w : World} {a : Option Addr} {l : List Int} (h : IntsAt w a l) : ∃ F, IntsF w a l F := by
  rcases h with h | ⟨b, o, h, k⟩
  · exact ⟨[], .inl ⟨h, rfl⟩⟩
  · rcases Nat.eq_zero_or_pos l.length with q | q
    · exact ⟨[], .inl ⟨List.eq_nil_of_length_eq_zero q, rfl⟩⟩
    · exact ⟨[b], .inr ⟨b, o, h, k, q, rfl⟩⟩
/-- An arbitrary strip in two cells. -/
def stripA : Rep (List Int × List Int) where
  rel w c x F := ∃ (a1 : Option Addr) (n1 c1 : Nat) (a2 : Option Addr) (n2 c2 : Nat) (F1 F2 : List Nat), c = [.slice a1 n1 c1, .slice a2 n2 c2] ∧ IntsF w a1 x.1 F1 ∧ x.1.length = n1 ∧ n1 ≤ 140737488355328 ∧ IntsF w a2 x.2 F2 ∧ x.2.length = n2 ∧ n2 ≤ 140737488355328 ∧ F = F1 ++ F2
  keep := by
    rintro w w' c x F ⟨a1, n1, c1, a2, n2, c2, F1, F2, rfl, h1, e1, b1, h2, e2, b2, rfl⟩ hk
    exact ⟨a1, n1, c1, a2, n2, c2, F1, F2, rfl, h1.keep (fun b hb => hk b (by simp [hb])), e1, b1, h2.keep (fun b hb => hk b (by simp [hb])), e2, b2, rfl⟩
  lt := by
    rintro w c x F ⟨a1, n1, c1, a2, n2, c2, F1, F2, rfl, h1, e1, b1, h2, e2, b2, rfl⟩ b hb
    rcases List.mem_append.1 hb with hb | hb
    · exact h1.lt b hb
    · exact h2.lt b hb
theorem OwnL.stripsA {n₀ : Nat} {e : TypeId} {w : World} {a : Option Addr} {n c : Nat} {l : List (List Int × List Int)} (h : OwnL stripA n₀ e 2 (.slice a n c) w l) (hl : l.length = n) (hn : n ≤ 140737488355328) : StripsAt w a n l := by
  subst hl
  obtain ⟨cs, h1, h2, h3, h4⟩ := h
  refine ⟨rfl, hn, ?_⟩
  rcases h3.2 with ⟨_, q⟩ | ⟨g, cap, cur, hv, _⟩
  · exact .inl q
  · cases hv
    refine .inr ⟨g, 0, rfl, fun i s hs => ?_⟩
    have hi := (List.getElem?_eq_some_iff.1 hs).1
    obtain ⟨d, hd⟩ : ∃ d, cs[i]? = some d := ⟨_, List.getElem?_eq_getElem (by rw [h1]; exact hi)⟩
    obtain ⟨F, ⟨a1, n1, c1, a2, n2, c2, F1, F2, rfl, q1, e1, b1, q2, e2, b2, _⟩, _⟩ := h4 i s d hs hd
    have f0 := flatten_get h2 i hd 0 (by omega)
    have f1 := flatten_get h2 i hd 1 (by omega)
    refine ⟨a1, n1, c1, _, a2, n2, c2, _, ?_, ⟨q1.ints, e1, b1, rfl⟩, ?_, ⟨q2.ints, e2, b2, rfl⟩⟩
    · exact own_cell h3 (by omega) (by simpa using f0)
    · rw [show 0 + i * 2 + 1 = 0 + (i * 2 + 1) by omega]; exact own_cell h3 (by omega) (by simpa using f1)
/-- Rows, cut to 25. -/
def few25 (l : List Int) : List Int := l.take 25
def fewS (ss : List (List Int × List Int)) : List (List Int × List Int) := (ss.take 25).map fun s => (few25 s.1, few25 s.2)
theorem fewS_snoc {ss : List (List Int × List Int)} {i : Nat} {s : List Int × List Int} (hs : ss[i]? = some s) : (ss.take (i + 1)).map (fun s => (few25 s.1, few25 s.2)) = (ss.take i).map (fun s => (few25 s.1, few25 s.2)) ++ [(few25 s.1, few25 s.2)] := by
  rw [List.take_add_one, hs]; simp
theorem few_ints {w : World} {a : Option Addr} {l : List Int} (h : IntsAt w a l) : IntsAt w a (few25 l) := by
  rcases h with rfl | ⟨b, off, rfl, h⟩
  · exact .inl rfl
  · refine .inr ⟨b, off, rfl, fun i hi => ?_⟩
    unfold few25 at hi ⊢
    rw [List.length_take] at hi
    have : Globe.nth (l.take 25) i = Globe.nth l i := by unfold Globe.nth; rw [List.getElem?_take_of_lt (by omega)]
    rw [this]
    exact h i (by omega)

end Go.Proofs.YtglfoglkdbbmmaaDoor

/- Lists of one's own of arbitrary strips: one put in the place of another one. -/
namespace Go.Proofs.YtglfoglkdbbmmaaDoor
open Go.RowKit

theorem IntsF.other {w : World} {a : Option Addr} {l : List Int} {F : List Nat} (h : IntsF w a l F) {p : Addr} (hp : ∀ b ∈ F, b ≠ p.block) (v : Value) : IntsF (w.setCell p v) a l F :=
  h.keep fun b hb o u hu => by rw [World.cell?_setCell_other w _ _ _ (fun e => hp b hb (by have := congrArg Addr.block e; simpa using this.symm))]; exact hu
/-- As R, where all that is looked into lies below m. -/
def oldR {α : Type} (m : Nat) (R : Rep α) : Rep α where
  rel w c x F := R.rel w c x F ∧ ∀ b ∈ F, b < m
  keep := fun h hk => ⟨R.keep h.1 hk, h.2⟩
  lt := fun h => R.lt h.1
theorem OwnL.weakenO {α : Type} {R : Rep α} {m n₀ : Nat} {e : TypeId} {size : Nat} {v : Value} {w : World} {l : List α} (h : OwnL (oldR m R) n₀ e size v w l) : OwnL R n₀ e size v w l := by
  obtain ⟨cs, h1, h2, h3, h4⟩ := h
  exact ⟨cs, h1, h2, h3, fun j x c hx hc => by obtain ⟨F, q1, q2⟩ := h4 j x c hx hc; exact ⟨F, q1.1, q2⟩⟩
theorem OwnL.toA {n₀ : Nat} {e : TypeId} {v : Value} {w : World} {l : List (List Int × List Int)} (h : OwnL stripR n₀ e 2 v w l) : OwnL stripA n₀ e 2 v w l := by
  obtain ⟨cs, h1, h2, h3, h4⟩ := h
  exact ⟨cs, h1, h2, h3, fun j x c hx hc => by
    obtain ⟨F, ⟨b, o, k, b', o', k', rfl, v1, v2, rfl⟩, q2⟩ := h4 j x c hx hc
    have l1 := v1.len; have l2 := v2.len
    exact ⟨[b, b'], ⟨_, 24, k, _, 24, k', [b], [b'], rfl, .inr ⟨b, o, rfl, fun i hi => v1.1 i (by omega), by omega, rfl⟩, l1, by omega, .inr ⟨b', o', rfl, fun i hi => v2.1 i (by omega), by omega, rfl⟩, l2, by omega, rfl⟩, q2⟩⟩
theorem strips_setA {w : World} {n₀ e : Nat} {g n cap : Nat} {ls : List (List Int × List Int)} (h : OwnL stripA n₀ e 2 (.slice (some ⟨g, 0, none⟩) n cap) w ls) (hl : ls.length = n) (hn : n ≤ 140737488355328) {k : Nat} (hk : k < n)
    {a1 a2 : Option Addr} {n1 c1 n2 c2 : Nat} {s : List Int × List Int} {F1 F2 : List Nat} (i1 : IntsF w a1 s.1 F1) (g1 : ∀ b ∈ F1, b ≠ g) (l1 : s.1.length = n1) (b1 : n1 ≤ 140737488355328) (i2 : IntsF w a2 s.2 F2) (g2 : ∀ b ∈ F2, b ≠ g) (l2 : s.2.length = n2) (b2 : n2 ≤ 140737488355328) :
    (∃ u u', w.cell? ⟨g, k * 2, none⟩ = some u ∧ w.cell? ⟨g, k * 2 + 1, none⟩ = some u') ∧ w.frozen? ⟨g, k * 2, none⟩ = false ∧ w.frozen? ⟨g, k * 2 + 1, none⟩ = false ∧
      StripsAt ((w.setCell ⟨g, k * 2, none⟩ (.slice a1 n1 c1)).setCell ⟨g, k * 2 + 1, none⟩ (.slice a2 n2 c2)) (some ⟨g, 0, none⟩) n (ls.set k s) := by
  subst hl
  obtain ⟨cs, h1, h2, h3, h4⟩ := h
  have cellj : ∀ j (hj : j < ls.length), ∃ (t : List Int × List Int) (a3 : Option Addr) (n3 c3 : Nat) (a4 : Option Addr) (n4 c4 : Nat) (F3 F4 : List Nat), ls[j]? = some t ∧ w.cell? ⟨g, j * 2, none⟩ = some (.slice a3 n3 c3) ∧ w.cell? ⟨g, j * 2 + 1, none⟩ = some (.slice a4 n4 c4) ∧
      IntsF w a3 t.1 F3 ∧ t.1.length = n3 ∧ n3 ≤ 140737488355328 ∧ IntsF w a4 t.2 F4 ∧ t.2.length = n4 ∧ n4 ≤ 140737488355328 ∧ (∀ b ∈ F3, b ≠ g) ∧ ∀ b ∈ F4, b ≠ g := fun j hj => by
    obtain ⟨d, hd⟩ : ∃ d, cs[j]? = some d := ⟨_, List.getElem?_eq_getElem (by rw [h1]; exact hj)⟩
    have hlj := List.getElem?_eq_getElem hj
    obtain ⟨F, ⟨a3, n3, c3, a4, n4, c4, F3, F4, rfl, q1, e1, d1, q2, e2, d2, rfl⟩, q3⟩ := h4 j _ d hlj hd
    have f0 := own_cell h3 (j := j * 2) (by omega) (by simpa using flatten_get h2 j hd 0 (by omega))
    have f1 := own_cell h3 (j := j * 2 + 1) (by omega) (by simpa using flatten_get h2 j hd 1 (by omega))
    rw [Nat.zero_add] at f0 f1
    exact ⟨_, a3, n3, c3, a4, n4, c4, F3, F4, hlj, f0, f1, q1, e1, d1, q2, e2, d2, fun b hb e => q3 b (by simp [hb]) (by rw [e]; rfl), fun b hb e => q3 b (by simp [hb]) (by rw [e]; rfl)⟩
  obtain ⟨_, _, _, _, _, _, _, _, _, _, hc0, hc1, _⟩ := cellj k hk
  have keepF : ∀ {a : Option Addr} {l : List Int} {F : List Nat}, IntsF w a l F → (∀ b ∈ F, b ≠ g) → IntsAt ((w.setCell ⟨g, k * 2, none⟩ (.slice a1 n1 c1)).setCell ⟨g, k * 2 + 1, none⟩ (.slice a2 n2 c2)) a l := fun hi hg =>
    ((hi.other (p := ⟨g, k * 2, none⟩) hg _).other (p := ⟨g, k * 2 + 1, none⟩) hg _).ints
  refine ⟨⟨_, _, hc0, hc1⟩, h3.frozenAt _, h3.frozenAt _, by rw [List.length_set], hn, .inr ⟨g, 0, rfl, fun i t hi => ?_⟩⟩
  have hiL : i < ls.length := by have := (List.getElem?_eq_some_iff.1 hi).1; rwa [List.length_set] at this
  by_cases e : k = i
  · subst e
    rw [List.getElem?_set_self (by exact hk)] at hi
    cases hi
    refine ⟨a1, n1, c1, _, a2, n2, c2, _, ?_, ⟨keepF i1 g1, l1, b1, rfl⟩, ?_, ⟨keepF i2 g2, l2, b2, rfl⟩⟩
    · rw [Nat.zero_add, World.cell?_setCell_other _ _ _ _ (fun c => by have := congrArg Addr.off c; simp at this)]; simp [go_sem, hc0]
    · rw [Nat.zero_add]
      have h9 : (w.setCell ⟨g, k * 2, none⟩ (.slice a1 n1 c1)).cell? ⟨g, k * 2 + 1, none⟩ = some _ := (World.cell?_setCell_other w _ _ _ (fun c => by have := congrArg Addr.off c; simp at this)).trans hc1
      simp [go_sem, h9]
  · rw [List.getElem?_set_ne e] at hi
    obtain ⟨t', a3, n3, c3, a4, n4, c4, F3, F4, q0, q1, q2, v1, e1, d1, v2, e2, d2, m1, m2⟩ := cellj i hiL
    rw [hi] at q0; cases q0
    refine ⟨a3, n3, c3, _, a4, n4, c4, _, ?_, ⟨keepF v1 m1, e1, d1, rfl⟩, ?_, ⟨keepF v2 m2, e2, d2, rfl⟩⟩
    · rw [Nat.zero_add, World.cell?_setCell_other _ _ _ _ (fun c => by have := congrArg Addr.off c; simp at this; omega), World.cell?_setCell_other _ _ _ _ (fun c => by have := congrArg Addr.off c; simp at this; omega)]; exact q1
    · rw [Nat.zero_add, World.cell?_setCell_other _ _ _ _ (fun c => by have := congrArg Addr.off c; simp at this; omega), World.cell?_setCell_other _ _ _ _ (fun c => by have := congrArg Addr.off c; simp at this; omega)]; exact q2

/-- An arbitrary area put in the place of another one. -/
theorem areas_setA {w : World} {n₀ e : Nat} {g n cap : Nat} {ls : List (List Int)} (h : OwnL areaR n₀ e 1 (.slice (some ⟨g, 0, none⟩) n cap) w ls) (hl : ls.length = n) (hn : n ≤ 140737488355328) {k : Nat} (hk : k < n) {a1 : Option Addr} {n1 c1 : Nat} {L : List Int} {F1 : List Nat} (i1 : IntsF w a1 L F1) (g1 : ∀ b ∈ F1, b ≠ g) (l1 : L.length = n1) (b1 : n1 ≤ 140737488355328) :
    (∃ u, w.cell? ⟨g, k, none⟩ = some u) ∧ w.frozen? ⟨g, k, none⟩ = false ∧ AreasAt (w.setCell ⟨g, k, none⟩ (.slice a1 n1 c1)) (some ⟨g, 0, none⟩) n (ls.set k L) := by
  subst hl
  obtain ⟨cs, h1, h2, h3, h4⟩ := h
  have cellj : ∀ j (hj : j < ls.length), ∃ (l : List Int) (b' o' k' : Nat), ls[j]? = some l ∧ w.cell? ⟨g, j, none⟩ = some (.slice (some ⟨b', o', none⟩) 24 k') ∧ VA w b' o' l ∧ b' ≠ g := fun j hj => by
    obtain ⟨d, hd⟩ : ∃ d, cs[j]? = some d := ⟨_, List.getElem?_eq_getElem (by rw [h1]; exact hj)⟩
    have hlj := List.getElem?_eq_getElem hj
    obtain ⟨F, ⟨b', o', k', rfl, q1, rfl⟩, q2⟩ := h4 j _ d hlj hd
    have f0 := flatten_get h2 j hd 0 (by omega)
    have := own_cell h3 (j := j) (by omega) (by simpa using f0)
    rw [Nat.zero_add] at this
    exact ⟨_, b', o', k', hlj, this, q1, fun e => q2 b' (by simp) (by rw [e]; rfl)⟩
  have hfr : w.frozen? ⟨g, k, none⟩ = false := h3.frozenAt k
  obtain ⟨_, _, _, _, _, hck, _, _⟩ := cellj k hk
  refine ⟨⟨_, hck⟩, hfr, by rw [List.length_set], hn, .inr ⟨g, 0, rfl, fun i l hi => ?_⟩⟩
  have hiL : i < ls.length := by have := (List.getElem?_eq_some_iff.1 hi).1; rwa [List.length_set] at this
  rw [Nat.zero_add]
  by_cases e : k = i
  · subst e
    rw [List.getElem?_set_self (by exact hk)] at hi
    cases hi
    exact ⟨a1, n1, c1, _, by simp [go_sem, hck], ⟨(i1.other (p := ⟨g, k, none⟩) g1 _).ints, l1, b1, rfl⟩⟩
  · rw [List.getElem?_set_ne e] at hi
    obtain ⟨l', b', o', k', q0, q1, q2, q3⟩ := cellj i hiL
    rw [hi] at q0; cases q0
    exact ⟨_, _, k', _, by rw [World.cell?_setCell_other w _ _ _ (fun c => e (congrArg Addr.off c))]; exact q1, (VA.other q2 (p := ⟨g, k, none⟩) (fun e => q3 e.symm) _).aa⟩

end Go.Proofs.YtglfoglkdbbmmaaDoor

/- The openers of chapter 16: areas, strips and lists of strips, as they came. -/
namespace Go.Proofs.YtglfoglkdbbmmaaDoor
open Go.ChangeShapes Go.WideShapes Go.ChangeAt Go.RowKit Go.Deep

/-- An area's rows, as they came. -/
def AreaC (w : World) (a : Option Addr) (n c : Nat) (l : List Int) : Prop := IntsAt w a l ∧ l.length = n ∧ n ≤ c ∧ c ≤ 9223372036854775807 ∧ (n = 0 ∨ ∃ b off, a = some ⟨b, off, none⟩) ∧ (a = none → c = 0)
def AnArea (w : World) (v : Value) : Prop := ∃ (a : Option Addr) (n c : Nat) (l : List Int), v = .agg #[.slice a n c] ∧ AreaC w a n c l
def AStrip (w : World) (v : Value) : Prop := ∃ (a1 : Option Addr) (n1 c1 : Nat) (a2 : Option Addr) (n2 c2 : Nat) (s : List Int × List Int), v = .agg #[.slice a1 n1 c1, .slice a2 n2 c2] ∧ AreaC w a1 n1 c1 s.1 ∧ AreaC w a2 n2 c2 s.2
/-- Strips at an address, as they came. -/
def StripsC (w : World) (a : Option Addr) (n : Nat) (ss : List (List Int × List Int)) : Prop :=
  ss.length = n ∧ (n = 0 ∨ ∃ b off, a = some ⟨b, off, none⟩ ∧ ∀ (i : Nat) s, ss[i]? = some s → ∃ (a1 : Option Addr) (n1 c1 : Nat) (a2 : Option Addr) (n2 c2 : Nat), w.cell? ⟨b, off + i * 2, none⟩ = some (.slice a1 n1 c1) ∧ w.cell? ⟨b, off + i * 2 + 1, none⟩ = some (.slice a2 n2 c2) ∧ AreaC w a1 n1 c1 s.1 ∧ AreaC w a2 n2 c2 s.2)
def AStrips (w : World) (v : Value) : Prop := ∃ (a : Option Addr) (n c : Nat) (ss : List (List Int × List Int)), v = .slice a n c ∧ n ≤ c ∧ c ≤ 9223372036854775807 ∧ (a = none → c = 0) ∧ StripsC w a n ss

section
variable {H : Type} {enc : TypeId × Value → H} {W : World}
theorem ints_of_slice {fuel : Nat} {cs : List Value} {x : DataW H × List MemPlace} (h : DataW.trod enc Tryd.prog W 0 (fun _ => true) true fuel 23 cs = some x) :
    ∃ (a : Option Addr) (n c : Nat) (l : List Int), cs = [.slice a n c] ∧ IntsAt W a l ∧ l.length = n ∧ n ≤ c ∧ c ≤ 9223372036854775807 ∧ (n = 0 ∨ ∃ b off, a = some ⟨b, off, none⟩) ∧ (a = none → c = 0) := by
  have hone : Tryd.prog.cellsOf 3 = 1 := by kernel_rfl
  rcases open_slice1 Tryd.underlying23 hone h with ⟨rfl, _⟩ | ⟨a, len, cap, m, n, V, D, Pl, rfl, hb, hl, hm, hmm, _, hx⟩
  · exact ⟨none, 0, 0, [], rfl, .inl rfl, rfl, by omega, by omega, .inl rfl, fun _ => rfl⟩
  · unfold maxLen at hm
    simp only [if_true] at hmm
    subst hmm
    have each : ∀ i, i < m → ∃ q : Int, W.cell? (a.add i) = some (.int .i64 q) := fun i hi => by
      obtain ⟨h1, h2⟩ := hx i hi
      obtain ⟨q, hq, _, _⟩ := DataW.trod_int Tryd.underlying3 h2
      rw [h1]
      exact ⟨q, by simpa using hq⟩
    obtain ⟨q, hq⟩ := choose_lt each
    rcases Nat.eq_zero_or_pos len with h0 | h0
    · subst h0
      exact ⟨_, 0, _, [], rfl, .inl rfl, rfl, by omega, by omega, .inl rfl, fun e => by cases e⟩
    · obtain ⟨b, off, spot⟩ := a
      have hspot : spot = none := by have := World.cell?_spot (hq 0 (by omega)); simpa [Addr.add] using this
      subst hspot
      refine ⟨_, len, _, (List.range len).map q, rfl, .inr ⟨b, off, rfl, fun i hi => ?_⟩, by simp, by omega, by omega, .inr ⟨b, off, rfl⟩, fun e => by cases e⟩
      have hi' : i < len := by simpa using hi
      have := hq i (by omega)
      rw [add_plain] at this
      rw [this]
      unfold Globe.nth
      simp [hi']

set_option maxRecDepth 100000 in
theorem area_of {fuel : Nat} {cs : List Value} {x : DataW H × List MemPlace} (h : DataW.trod enc Tryd.prog W 0 (fun _ => true) true fuel 25 cs = some x) : ∃ (a : Option Addr) (n c : Nat) (l : List Int), cs = [.slice a n c] ∧ AreaC W a n c l := by
  obtain ⟨y0, n, _, hl, hf⟩ := Go.ChangeShapes.trod_struct1 Tryd.underlying25 h
  have h1 : Tryd.prog.cellsOf 25 = 1 := by kernel_rfl
  have h2 : Tryd.prog.cellsOf 23 = 1 := by kernel_rfl
  obtain ⟨a, m, c, l, e, r⟩ := ints_of_slice hf
  refine ⟨a, m, c, l, ?_, r⟩
  rw [h1] at hl
  match cs, hl with
  | [u], _ => simpa [h2] using e
set_option maxRecDepth 100000 in
theorem strip_of {fuel : Nat} {cs : List Value} {x : DataW H × List MemPlace} (h : DataW.trod enc Tryd.prog W 0 (fun _ => true) true fuel 28 cs = some x) :
    ∃ (a1 : Option Addr) (n1 c1 : Nat) (a2 : Option Addr) (n2 c2 : Nat) (s : List Int × List Int), cs = [.slice a1 n1 c1, .slice a2 n2 c2] ∧ AreaC W a1 n1 c1 s.1 ∧ AreaC W a2 n2 c2 s.2 := by
  obtain ⟨y0, y1, n, _, hl, hf0, hf1⟩ := Go.ChangeShapes.trod_struct2 Tryd.underlying28 h
  have h1 : Tryd.prog.cellsOf 28 = 2 := by kernel_rfl
  have h2 : Tryd.prog.cellsOf 25 = 1 := by kernel_rfl
  obtain ⟨a1, m1, c1, l1, e1, r1⟩ := area_of hf0
  obtain ⟨a2, m2, c2, l2, e2, r2⟩ := area_of hf1
  rw [h1] at hl
  match cs, hl with
  | [u, v], _ =>
    have q1 : u = .slice a1 m1 c1 := by simpa [h2] using e1
    have q2 : v = .slice a2 m2 c2 := by simpa [h2] using e2
    exact ⟨a1, m1, c1, a2, m2, c2, (l1, l2), by rw [q1, q2], r1, r2⟩
set_option maxRecDepth 100000 in
theorem open_area {b0 : Nat} {v : Value} {d : DataW H} {p : List MemPlace} (hval : Value.okWide Tryd.prog W .any b0 25 v) (h : DataW.Trod enc Tryd.prog W 0 (fun _ => true) true 25 v d p) : AnArea W v := by
  obtain ⟨cs, rfl, hsz⟩ := okWide_struct Tryd.underlying25 hval
  obtain ⟨fuel, hf⟩ := h
  obtain ⟨a, n, c, l, e, r⟩ := area_of hf
  refine ⟨a, n, c, l, ?_, r⟩
  have : cs.toList = [.slice a n c] := by simpa [Value.cells] using e
  rw [← Array.toArray_toList (xs := cs), this]
set_option maxRecDepth 100000 in
theorem open_strip {b0 : Nat} {v : Value} {d : DataW H} {p : List MemPlace} (hval : Value.okWide Tryd.prog W .any b0 28 v) (h : DataW.Trod enc Tryd.prog W 0 (fun _ => true) true 28 v d p) : AStrip W v := by
  obtain ⟨cs, rfl, hsz⟩ := okWide_struct Tryd.underlying28 hval
  obtain ⟨fuel, hf⟩ := h
  obtain ⟨a1, n1, c1, a2, n2, c2, s, e, r1, r2⟩ := strip_of hf
  refine ⟨a1, n1, c1, a2, n2, c2, s, ?_, r1, r2⟩
  have : cs.toList = [.slice a1 n1 c1, .slice a2 n2 c2] := by simpa [Value.cells] using e
  rw [← Array.toArray_toList (xs := cs), this]
set_option maxRecDepth 100000 in
theorem open_strips {b0 : Nat} {v : Value} {d : DataW H} {p : List MemPlace} (hval : Value.okWide Tryd.prog W .any b0 26 v) (h : DataW.Trod enc Tryd.prog W 0 (fun _ => true) true 26 v d p) : AStrips W v := by
  obtain ⟨a, n, c, rfl⟩ := okWide_slice Tryd.underlying26 hval
  obtain ⟨fuel, hf⟩ := h
  rcases open_slice Tryd.underlying26 hf with ⟨hcs, _⟩ | ⟨a', len, cap, m, k, D, Pl, hcs, hb, hl, hm, hmm, _, hx⟩
  · simp [Value.cells] at hcs
    obtain ⟨rfl, rfl, rfl⟩ := hcs
    exact ⟨none, 0, 0, [], rfl, by omega, by omega, fun _ => rfl, rfl, .inl rfl⟩
  · simp [Value.cells] at hcs
    obtain ⟨rfl, rfl, rfl⟩ := hcs
    unfold maxLen at hm
    rcases Nat.eq_zero_or_pos n with h0 | h0
    · subst h0; exact ⟨_, _, _, [], rfl, by omega, by omega, (fun e => by cases e), rfl, .inl rfl⟩
    · have h2 : Tryd.prog.cellsOf 28 = 2 := by kernel_rfl
      rw [h2] at hx
      simp only [if_true] at hmm
      subst hmm
      have each : ∀ i, i < n → ∃ s : List Int × List Int, ∃ (a1 : Option Addr) (n1 c1 : Nat) (a2 : Option Addr) (n2 c2 : Nat), W.cell? (a'.add (i * 2 + 0)) = some (.slice a1 n1 c1) ∧ W.cell? (a'.add (i * 2 + 1)) = some (.slice a2 n2 c2) ∧ AreaC W a1 n1 c1 s.1 ∧ AreaC W a2 n2 c2 s.2 := fun i hi => by
        obtain ⟨cs', hc1, hc2⟩ := hx i (by omega)
        obtain ⟨_, hcl, hat⟩ := World.cells?_some hc1
        obtain ⟨a1, n1, c1, a2, n2, c2, s, rfl, r1, r2⟩ := strip_of hc2
        refine ⟨s, a1, n1, c1, a2, n2, c2, ?_, ?_, r1, r2⟩
        · rw [← Go.Deep.add_add, hat 0 (by omega)]; rfl
        · rw [← Go.Deep.add_add, hat 1 (by omega)]; rfl
      obtain ⟨q, hq⟩ := choose_lt each
      obtain ⟨b, off, spot⟩ := a'
      have hspot : spot = none := by
        obtain ⟨_, _, _, _, _, _, h, _⟩ := hq 0 h0
        have := World.cell?_spot h; simpa [Addr.add] using this
      subst hspot
      refine ⟨_, n, _, (List.range n).map q, rfl, by omega, by omega, (fun e => by cases e), by simp, .inr ⟨b, off, rfl, fun i s hs => ?_⟩⟩
      obtain ⟨hi, e⟩ := List.getElem?_eq_some_iff.1 hs
      have hi' : i < n := by simpa using hi
      have e' : q i = s := by simpa using e
      obtain ⟨a1, n1, c1, a2, n2, c2, u0, u1, r1, r2⟩ := hq i hi'
      rw [add_plain] at u0 u1
      subst e'
      exact ⟨a1, n1, c1, a2, n2, c2, by simpa using u0, by rw [Nat.add_assoc]; exact u1, r1, r2⟩
end

end Go.Proofs.YtglfoglkdbbmmaaDoor

/- few, in the laws of chapter 16. -/
namespace Go.Proofs.YtglfoglkdbbmmaaDoor
open Go.RowKit Go.Shelf

/-- Strips at an address, as they came: their cells in the world w, their areas in the world wr. -/
def StripsR (wr w : World) (a : Option Addr) (n : Nat) (ss : List (List Int × List Int)) : Prop :=
  ss.length = n ∧ (n = 0 ∨ ∃ b off, a = some ⟨b, off, none⟩ ∧ ∀ (i : Nat) s, ss[i]? = some s → ∃ (a1 : Option Addr) (n1 c1 : Nat) (a2 : Option Addr) (n2 c2 : Nat), w.cell? ⟨b, off + i * 2, none⟩ = some (.slice a1 n1 c1) ∧ w.cell? ⟨b, off + i * 2 + 1, none⟩ = some (.slice a2 n2 c2) ∧ AreaC wr a1 n1 c1 s.1 ∧ AreaC wr a2 n2 c2 s.2)
theorem StripsC.r {w : World} {a : Option Addr} {n : Nat} {ss : List (List Int × List Int)} (h : StripsC w a n ss) : StripsR w w a n ss := h
/-- One strip in two cells. -/
theorem StripsR.one {wr w : World} {O : Nat} {a1 : Option Addr} {n1 c1 : Nat} {a2 : Option Addr} {n2 c2 : Nat} {s : List Int × List Int} (h1 : w.cell? ⟨O, 0, none⟩ = some (.slice a1 n1 c1)) (h2 : w.cell? ⟨O, 1, none⟩ = some (.slice a2 n2 c2)) (r1 : AreaC wr a1 n1 c1 s.1) (r2 : AreaC wr a2 n2 c2 s.2) : StripsR wr w (some ⟨O, 0, none⟩) 1 [s] := by
  refine ⟨rfl, .inr ⟨O, 0, rfl, fun i t ht => ?_⟩⟩
  match i, ht with
  | 0, ht => simp at ht; subst ht; exact ⟨a1, n1, c1, a2, n2, c2, h1, h2, r1, r2⟩
  | _ + 1, ht => simp at ht
theorem IntsF.ext {w w' : World} {a : Option Addr} {l : List Int} {F : List Nat} (h : IntsF w a l F) (hE : Ext w w') : IntsF w' a l F := h.keep fun _ _ _ _ hu => hE.cell hu
def few1 (s : List Int × List Int) : List Int × List Int := (few25 s.1, few25 s.2)
def fewT (ss : List (List Int × List Int)) (i : Nat) : List (List Int × List Int) := (ss.take i).map few1
theorem fewT_snoc {ss : List (List Int × List Int)} {i : Nat} {s : List Int × List Int} (hs : ss[i]? = some s) : fewT ss (i + 1) = fewT ss i ++ [few1 s] := fewS_snoc hs
theorem fewT_end {ss : List (List Int × List Int)} {i : Nat} (h : i = min ss.length 25) : fewT ss i = fewS ss := by
  subst h
  show (ss.take (min ss.length 25)).map few1 = (ss.take 25).map few1
  rcases Nat.le_total ss.length 25 with q | q
  · rw [Nat.min_eq_left q, List.take_of_length_le (Nat.le_refl _), List.take_of_length_le q]
  · rw [Nat.min_eq_right q]
/-- A strip's areas, cut. -/
theorem few_rows {w : World} {a : Option Addr} {n c : Nat} {l : List Int} (h : AreaC w a n c l) {M : Nat} (hM : M = min n 25) : ∃ F, IntsF w a (few25 l) F ∧ (few25 l).length = M ∧ M ≤ 140737488355328 ∧ M ≤ c ∧ ∀ b ∈ F, b < w.heap.size := by
  obtain ⟨F, hF⟩ := (few_ints h.1).F
  have := h.2.1; have := h.2.2.1
  exact ⟨F, hF, by unfold few25; rw [List.length_take]; omega, by omega, by omega, hF.lt⟩
theorem awayF {v : Value} {m n : Nat} {F1 F2 : List Nat} (h : ∀ b, v.ownBlock = some b → m ≤ b) (hn : n ≤ m) (h1 : ∀ b ∈ F1, b < n) (h2 : ∀ b ∈ F2, b < n) : ∀ b ∈ F1 ++ F2, v.ownBlock ≠ some b := fun b hb he => by
  have := h b he
  rcases List.mem_append.1 hb with hb | hb
  · have := h1 b hb; omega
  · have := h2 b hb; omega
def RetFewS (m : Nat) (ss : List (List Int × List Int)) (n : Nat) (w : World) (e : Ending) (w' : World) : Prop :=
  ∃ (a : Option Addr) (k c : Nat), e = .returned (.slice a k c) ∧ k = min n 25 ∧ OwnL (oldR m stripA) w.heap.size 28 2 (.slice a k c) w' (fewS ss) ∧ Ext w w'
set_option maxRecDepth 1000000 in
set_option maxHeartbeats 4000000 in
theorem fewS_c {w9 w0 : World} {a : Option Addr} {n c : Nat} {ss : List (List Int × List Int)} (w : World) (h : StripsR w9 w0 a n ss) (e0 : Ext w9 w) (e1 : Ext w0 w) :
    Calls Tryd.prog 13 #[.slice a n c] w (RetFewS w9.heap.size ss n w) := by
  have hln := h.1; have hwr := e0.size
  refine calls_cw 47 [(0, .slice a n c)] Tryd.func13 rfl Tryd.ntmps13 (by kernel_rfl) (by kernel_rfl) (fun L => ?_)
  have hE : Ext w w := Ext.refl w
  refine cw_seq ?_
  refine cw_plain ?_
  refine pl_take (.slice none 0 0) rfl (by kernel_rfl) (by kernel_rfl) (by kernel_rfl) (by kernel_rfl) ?_
  refine pl_nil ?_
  refine qw_then ?_
  refine cw_seq ?_
  refine cw_plain ?_
  refine pl_take (.slice none 0 0) rfl (by kernel_rfl) (by kernel_rfl) (by kernel_rfl) (by kernel_rfl) ?_
  refine pl_nil ?_
  refine qw_then ?_
  refine cw_seq ?_
  refine cw_seq ?_
  refine cw_plain ?_
  refine pl_take (.int .i64 0) rfl (by kernel_rfl) (by kernel_rfl) (by kernel_rfl) (by kernel_rfl) ?_
  refine pl_nil ?_
  refine qw_then ?_
  refine cw_block ?_
  refine cw_loop [0, 3, 4] (fun ws' wr m => ∃ a9 : Option Addr, ∃ i : Nat, ∃ c9 : Nat, ws' = [(0, .slice a n c), (3, .slice a9 i c9), (4, .int .i64 (((i : Nat) : Int) : Int))] ∧ m = 25 - i ∧ w.heap.size ≤ wr.heap.size ∧ Ext w wr ∧ OwnL (oldR w9.heap.size stripA) w.heap.size 28 2 (.slice a9 i c9) wr (fewT ss i) ∧ i ≤ min n 25) (ws0 := [(0, .slice a n c), (3, .slice none 0 0), (4, .int .i64 0)]) (by kernel_rfl) _ ⟨none, 0, 0, rfl, rfl, Nat.le_refl _, hE, OwnL.nil _ _ _ _ _, by omega⟩ ?_
  clear hE
  rintro m3 L ws w2 ⟨a9, i, c9, rfl, rfl, hs1, hE, own9, hi⟩
  have hX4 : Ext w2 w2 := Ext.refl _
  have hbk := own9.base; have hlen9 : (fewT ss i).length = i := by unfold fewT; rw [List.length_map, List.length_take]; omega
  rcases (show (i < n ∧ i < 25) ∨ (i < n ∧ i = 25) ∨ i = n by omega) with ⟨hlt, h25⟩ | ⟨hlt, h25⟩ | hlt
  ·
    obtain ⟨s, hs⟩ : ∃ s, ss[i]? = some s := ⟨_, List.getElem?_eq_getElem (by omega)⟩
    obtain ⟨b, off, rfl, hq⟩ := h.2.resolve_left (by omega)
    obtain ⟨a1, n1, c1, a2, n2, c2, d1, d2, r1, r2⟩ := hq i s hs
    obtain ⟨M1, hM1⟩ : ∃ M, M = min n1 25 := ⟨_, rfl⟩
    obtain ⟨M2, hM2⟩ : ∃ M, M = min n2 25 := ⟨_, rfl⟩
    obtain ⟨F1, i1, l1, k1, b1, f1⟩ := few_rows r1 hM1
    obtain ⟨F2, i2, l2, k2, b2, f2⟩ := few_rows r2 hM2
    have hsn := fewT_snoc hs
    replace d1 := e1.cell d1; replace d2 := e1.cell d2
    refine cw_seq ?_
    refine cw_seq ?_
    refine cw_plain ?_
    refine pl_take (.int .i64 (((i : Nat) : Int) : Int)) rfl (by kernel_rfl) (by kernel_rfl) (by kernel_rfl) (by kernel_rfl) ?_
    refine pl_take (.slice (some ⟨b, off, none⟩) n c) rfl (by kernel_rfl) (by kernel_rfl) (by kernel_rfl) (by kernel_rfl) ?_
    refine pl_take (.int .i64 (((n : Nat) : Int) : Int)) rfl (by kernel_rfl) (by kernel_rfl) (by kernel_rfl) (by kernel_rfl) ?_
    refine pl_take (.bool true) rfl (by kernel_rfl) (by kernel_rfl) (by kernel_rfl) (ev_dec (show _ = Result.ok (Next.value (Value.bool (decide ((((i : Nat) : Int) : Int) < (((n : Nat) : Int) : Int))))) _ from by kernel_rfl) (by omega)) ?_
    refine pl_take (.bool true) rfl (by kernel_rfl) (by kernel_rfl) (by kernel_rfl) (by kernel_rfl) ?_
    refine pl_take (.int .i64 (((i : Nat) : Int) : Int)) rfl (by kernel_rfl) (by kernel_rfl) (by kernel_rfl) (by kernel_rfl) ?_
    refine pl_take (.bool true) rfl (by kernel_rfl) (by kernel_rfl) (by kernel_rfl) (ev_dec (show _ = Result.ok (Next.value (Value.bool (decide ((((i : Nat) : Int) : Int) < (25 : Int))))) _ from by kernel_rfl) (by omega)) ?_
    refine pl_take (.bool true) rfl (by kernel_rfl) (by kernel_rfl) (by kernel_rfl) (by kernel_rfl) ?_
    refine pl_nil ?_
    refine qw_then ?_
    refine cw_t (by kernel_rfl) ?_
    refine cw_skip ?_
    refine qw_then ?_
    refine cw_seq ?_
    refine cw_block ?_
    refine cw_seq ?_
    refine cw_plain ?_
    refine pl_take (.slice (some ⟨b, off, none⟩) n c) rfl (by kernel_rfl) (by kernel_rfl) (by kernel_rfl) (by kernel_rfl) ?_
    refine pl_take (.int .i64 (((i : Nat) : Int) : Int)) rfl (by kernel_rfl) (by kernel_rfl) (by kernel_rfl) (by kernel_rfl) ?_
    refine pl_take (.pointer (some ⟨b, off + i * 2, none⟩)) rfl (by kernel_rfl) (by kernel_rfl) (by kernel_rfl) (ex_index (p := .slice (some ⟨b, off, none⟩) n c) (i := .int .i64 ((i : Nat) : Int)) rfl (by kernel_rfl) (by kernel_rfl) (ix26 (k := i) (by omega))) ?_
    refine pl_take (.agg #[.slice a1 n1 c1, .slice a2 n2 c2]) rfl (by kernel_rfl) (by kernel_rfl) (by kernel_rfl) (ex_load rfl (by kernel_rfl) (ld28 ((hE.cell d1)) ((hE.cell d2)))) ?_
    refine pl_step rfl (by kernel_rfl) (by kernel_rfl) (by kernel_rfl) (sn_new (us := #[.slice none 0 0, .slice none 0 0]) (t := 28) (by kernel_rfl) ?_)
    intro O5 X6 hO hOs hb hbx
    have hzO5 := hO; have hyO5 := hOs; clear hO hOs
    have bO5_0 : BoxAt X6 O5 0 (.slice none 0 0) := hbx 0 _ rfl
    have bO5_1 : BoxAt X6 O5 1 (.slice none 0 0) := hbx 1 _ rfl
    clear hbx
    replace hE := hE.trans hb
    replace hX4 := hX4.trans hb
    have hs7 := hb.size
    clear hb
    have lt8 := bO5_0.lt
    refine pl_put rfl (by kernel_rfl) (by kernel_rfl) (sn_set2 (O := O5) (j := 0) (v := .slice a1 n1 c1) (v' := .slice a2 n2 c2) (ex_store (p := .pointer (some ⟨O5, 0, none⟩)) (v := .agg #[.slice a1 n1 c1, .slice a2 n2 c2]) rfl (by kernel_rfl) (by kernel_rfl) (st28 bO5_0.1 bO5_0.2 bO5_1.1 bO5_1.2)) bO5_0 bO5_1 ?_)
    intro X9 ho hv0 hv1 hk
    replace hE := ho.ext hE (Nat.le_trans hs1 (Nat.le_of_eq hzO5))
    replace hX4 := ho.ext hX4 (Nat.le_of_eq hzO5)
    have hs10 : X6.heap.size ≤ X9.heap.size := Nat.le_of_eq ho.size.symm
    clear ho hk bO5_0 bO5_1
    have bO5_0 := hv0; clear hv0
    have bO5_1 := hv1; clear hv1
    refine pl_nil ?_
    refine qw_then ?_
    refine cw_clean [0, 3, 4, 5] (ws' := [(0, .slice (some ⟨b, off, none⟩) n c), (3, .slice a9 i c9), (4, .int .i64 (((i : Nat) : Int) : Int)), (5, .pointer (some ⟨O5, 0, none⟩))]) (by kernel_rfl) (fun L => ?_)
    refine cw_seq ?_
    refine cw_plain ?_
    refine pl_take (.pointer (some ⟨O5, 0, none⟩)) rfl (by kernel_rfl) (by kernel_rfl) (by kernel_rfl) (by kernel_rfl) ?_
    refine pl_take (.pointer (some ⟨O5, 0, none⟩)) rfl (by kernel_rfl) (by kernel_rfl) (by kernel_rfl) (by kernel_rfl) ?_
    refine pl_take (.slice a1 n1 c1) rfl (by kernel_rfl) (by kernel_rfl) (by kernel_rfl) (ex_load rfl (by kernel_rfl) (ld23 (bO5_0.1))) ?_
    refine pl_take (.pointer (some ⟨O5, 0, none⟩)) rfl (by kernel_rfl) (by kernel_rfl) (by kernel_rfl) (by kernel_rfl) ?_
    refine pl_take (.pointer (some ⟨O5, 0, none⟩)) rfl (by kernel_rfl) (by kernel_rfl) (by kernel_rfl) (by kernel_rfl) ?_
    refine pl_take (.slice a1 n1 c1) rfl (by kernel_rfl) (by kernel_rfl) (by kernel_rfl) (ex_load rfl (by kernel_rfl) (ld23 (bO5_0.1))) ?_
    refine pl_take (.int .i64 (((n1 : Nat) : Int) : Int)) rfl (by kernel_rfl) (by kernel_rfl) (by kernel_rfl) (by kernel_rfl) ?_
    refine pl_take (.int .i64 (((M1 : Nat) : Int) : Int)) rfl (by kernel_rfl) (by kernel_rfl) (by kernel_rfl) (ev_int (show _ = Result.ok (Next.value (Value.int .i64 (if (25 : Int) < (n1 : Int) then (25 : Int) else (n1 : Int)))) _ from by kernel_rfl) (by rw [hM1]; split <;> omega)) ?_
    refine pl_take (.slice a1 M1 c1) rfl (by kernel_rfl) (by kernel_rfl) (by kernel_rfl) (ex_slice (p := .slice a1 n1 c1) rfl (by kernel_rfl) (by kernel_rfl) (by kernel_rfl) (by kernel_rfl) (sl23_010a (m := M1) (by omega) (by omega))) ?_
    refine pl_take (.pointer (some ⟨O5, 0, none⟩)) rfl (by kernel_rfl) (by kernel_rfl) (by kernel_rfl) (by kernel_rfl) ?_
    refine pl_take (.pointer (some ⟨O5, 0, none⟩)) rfl (by kernel_rfl) (by kernel_rfl) (by kernel_rfl) (by kernel_rfl) ?_
    refine pl_put rfl (by kernel_rfl) (by kernel_rfl) (sn_set (O := O5) (j := 0) (v := .slice a1 M1 c1) (ex_store (p := .pointer (some ⟨O5, 0, none⟩)) (v := .slice a1 M1 c1) rfl (by kernel_rfl) (by kernel_rfl) (st23 bO5_0.1 bO5_0.2)) bO5_0 ?_)
    intro X11 ho hv0 hk
    replace hE := ho.ext hE (Nat.le_trans hs1 (Nat.le_of_eq hzO5))
    replace hX4 := ho.ext hX4 (Nat.le_of_eq hzO5)
    replace bO5_1 := hk 1 _ (by omega) bO5_1
    have hs12 : X9.heap.size ≤ X11.heap.size := Nat.le_of_eq ho.size.symm
    clear ho hk bO5_0
    have bO5_0 := hv0; clear hv0
    refine pl_nil ?_
    refine qw_then ?_
    refine cw_clean [0, 3, 4, 5] (ws' := [(0, .slice (some ⟨b, off, none⟩) n c), (3, .slice a9 i c9), (4, .int .i64 (((i : Nat) : Int) : Int)), (5, .pointer (some ⟨O5, 0, none⟩))]) (by kernel_rfl) (fun L => ?_)
    refine cw_seq ?_
    refine cw_plain ?_
    refine pl_take (.pointer (some ⟨O5, 1, none⟩)) rfl (by kernel_rfl) (by kernel_rfl) (by kernel_rfl) (by kernel_rfl) ?_
    refine pl_take (.pointer (some ⟨O5, 1, none⟩)) rfl (by kernel_rfl) (by kernel_rfl) (by kernel_rfl) (by kernel_rfl) ?_
    refine pl_take (.slice a2 n2 c2) rfl (by kernel_rfl) (by kernel_rfl) (by kernel_rfl) (ex_load rfl (by kernel_rfl) (ld23 (bO5_1.1))) ?_
    refine pl_take (.pointer (some ⟨O5, 1, none⟩)) rfl (by kernel_rfl) (by kernel_rfl) (by kernel_rfl) (by kernel_rfl) ?_
    refine pl_take (.pointer (some ⟨O5, 1, none⟩)) rfl (by kernel_rfl) (by kernel_rfl) (by kernel_rfl) (by kernel_rfl) ?_
    refine pl_take (.slice a2 n2 c2) rfl (by kernel_rfl) (by kernel_rfl) (by kernel_rfl) (ex_load rfl (by kernel_rfl) (ld23 (bO5_1.1))) ?_
    refine pl_take (.int .i64 (((n2 : Nat) : Int) : Int)) rfl (by kernel_rfl) (by kernel_rfl) (by kernel_rfl) (by kernel_rfl) ?_
    refine pl_take (.int .i64 (((M2 : Nat) : Int) : Int)) rfl (by kernel_rfl) (by kernel_rfl) (by kernel_rfl) (ev_int (show _ = Result.ok (Next.value (Value.int .i64 (if (25 : Int) < (n2 : Int) then (25 : Int) else (n2 : Int)))) _ from by kernel_rfl) (by rw [hM2]; split <;> omega)) ?_
    refine pl_take (.slice a2 M2 c2) rfl (by kernel_rfl) (by kernel_rfl) (by kernel_rfl) (ex_slice (p := .slice a2 n2 c2) rfl (by kernel_rfl) (by kernel_rfl) (by kernel_rfl) (by kernel_rfl) (sl23_010a (m := M2) (by omega) (by omega))) ?_
    refine pl_take (.pointer (some ⟨O5, 1, none⟩)) rfl (by kernel_rfl) (by kernel_rfl) (by kernel_rfl) (by kernel_rfl) ?_
    refine pl_take (.pointer (some ⟨O5, 1, none⟩)) rfl (by kernel_rfl) (by kernel_rfl) (by kernel_rfl) (by kernel_rfl) ?_
    refine pl_put rfl (by kernel_rfl) (by kernel_rfl) (sn_set (O := O5) (j := 1) (v := .slice a2 M2 c2) (ex_store (p := .pointer (some ⟨O5, 1, none⟩)) (v := .slice a2 M2 c2) rfl (by kernel_rfl) (by kernel_rfl) (st23 bO5_1.1 bO5_1.2)) bO5_1 ?_)
    intro X13 ho hv0 hk
    replace hE := ho.ext hE (Nat.le_trans hs1 (Nat.le_of_eq hzO5))
    replace hX4 := ho.ext hX4 (Nat.le_of_eq hzO5)
    replace bO5_0 := hk 0 _ (by omega) bO5_0
    have hs14 : X11.heap.size ≤ X13.heap.size := Nat.le_of_eq ho.size.symm
    clear ho hk bO5_1
    have bO5_1 := hv0; clear hv0
    refine pl_nil ?_
    refine qw_then ?_
    refine cw_clean [0, 3, 4, 5] (ws' := [(0, .slice (some ⟨b, off, none⟩) n c), (3, .slice a9 i c9), (4, .int .i64 (((i : Nat) : Int) : Int)), (5, .pointer (some ⟨O5, 0, none⟩))]) (by kernel_rfl) (fun L => ?_)
    refine cw_plain ?_
    refine pl_take (.slice a9 i c9) rfl (by kernel_rfl) (by kernel_rfl) (by kernel_rfl) (by kernel_rfl) ?_
    refine pl_take (.agg #[.slice a1 M1 c1, .slice a2 M2 c2]) rfl (by kernel_rfl) (by kernel_rfl) (by kernel_rfl) (ex_load rfl (by kernel_rfl) (ld28 (bO5_0.1) (bO5_1.1))) ?_
    refine pl_step rfl (by kernel_rfl) (by kernel_rfl) (by kernel_rfl) (sn_newS (us := #[.slice a1 M1 c1, .slice a2 M2 c2]) (t := 28) (k := 1) (c := 1) (by kernel_rfl) ?_)
    intro O15 X16 hO hOs hb hbx
    have hzO15 := hO; have hyO15 := hOs; clear hO hOs
    have bO15_0 : BoxAt X16 O15 0 (.slice a1 M1 c1) := hbx 0 _ rfl
    have bO15_1 : BoxAt X16 O15 1 (.slice a2 M2 c2) := hbx 1 _ rfl
    clear hbx
    replace hE := hE.trans hb
    replace hX4 := hX4.trans hb
    replace bO5_0 := BoxAt.ext hb bO5_0
    replace bO5_1 := BoxAt.ext hb bO5_1
    have hs17 := hb.size
    clear hb
    have lt18 := bO15_0.lt
    obtain ⟨g19, cap20, w21, hrun22, own23, hgr24⟩ := own_app1 (P := Tryd.prog) (ty := 26) stripT (own9.ext hX4) (Nat.le_trans hs1 (Nat.le_trans hs7 (Nat.le_trans hs10 (Nat.le_trans hs12 (Nat.le_trans hs14 hs17))))) (k := i) hlen9 (O := O15) (c := 1) (x := (few1 s)) (d := [.slice a1 M1 c1, .slice a2 M2 c2]) rfl (cells2 bO15_0.1 bO15_1.1) (by simp [Value.oneCell']) (⟨⟨a1, M1, c1, a2, M2, c2, F1, F2, rfl, (i1.ext e0).ext hE, l1, k1, (i2.ext e0).ext hE, l2, k2, rfl⟩, fun b hb => (List.mem_append.1 hb).elim (f1 b) (f2 b)⟩) (awayF hbk hwr f1 f2) (by omega) (by omega)
    refine pl_step rfl (by kernel_rfl) (by kernel_rfl) (by kernel_rfl) (sn_eff (v := .slice (some ⟨g19, 0, none⟩) (i + 1) cap20) (w' := w21) (ex_append rfl (by kernel_rfl) (by kernel_rfl) hrun22) ?_)
    replace hE := hgr24.ext _ hE (Nat.le_refl _)
    have hs25 := hgr24.size
    have hl26 := own23.base g19 rfl; have hh27 := own23.lt g19 rfl
    rw [← hsn] at own23
    refine pl_take (.slice (some ⟨g19, 0, none⟩) (i + 1) cap20) rfl (by kernel_rfl) (by kernel_rfl) (by kernel_rfl) (by kernel_rfl) ?_
    refine pl_nil ?_
    refine qw_block ?_
    refine qw_then ?_
    refine cw_plain ?_
    refine pl_take (.int .i64 (((i : Nat) : Int) : Int)) rfl (by kernel_rfl) (by kernel_rfl) (by kernel_rfl) (by kernel_rfl) ?_
    refine pl_take (.int .i64 (((i + 1 : Nat) : Int) : Int)) rfl (by kernel_rfl) (by kernel_rfl) (by kernel_rfl) (ev_wrap (by kernel_rfl) (by omega) (by omega)) ?_
    refine pl_take (.int .i64 (((i + 1 : Nat) : Int) : Int)) rfl (by kernel_rfl) (by kernel_rfl) (by kernel_rfl) (by kernel_rfl) ?_
    refine pl_nil ?_
    refine qw_round [0, 3, 4] (ws' := [(0, .slice (some ⟨b, off, none⟩) n c), (3, .slice (some ⟨g19, 0, none⟩) (i + 1) cap20), (4, .int .i64 (((i + 1 : Nat) : Int) : Int))]) (by kernel_rfl) _ ?_ ⟨(some ⟨g19, 0, none⟩), (i + 1), cap20, rfl, rfl, (Nat.le_trans hs1 (Nat.le_trans hs7 (Nat.le_trans hs10 (Nat.le_trans hs12 (Nat.le_trans hs14 (Nat.le_trans hs17 hs25)))))), hE, own23, by omega⟩
    omega
  ·
    refine cw_seq ?_
    refine cw_seq ?_
    refine cw_plain ?_
    refine pl_take (.int .i64 (((i : Nat) : Int) : Int)) rfl (by kernel_rfl) (by kernel_rfl) (by kernel_rfl) (by kernel_rfl) ?_
    refine pl_take (.slice a n c) rfl (by kernel_rfl) (by kernel_rfl) (by kernel_rfl) (by kernel_rfl) ?_
    refine pl_take (.int .i64 (((n : Nat) : Int) : Int)) rfl (by kernel_rfl) (by kernel_rfl) (by kernel_rfl) (by kernel_rfl) ?_
    refine pl_take (.bool true) rfl (by kernel_rfl) (by kernel_rfl) (by kernel_rfl) (ev_dec (show _ = Result.ok (Next.value (Value.bool (decide ((((i : Nat) : Int) : Int) < (((n : Nat) : Int) : Int))))) _ from by kernel_rfl) (by omega)) ?_
    refine pl_take (.bool true) rfl (by kernel_rfl) (by kernel_rfl) (by kernel_rfl) (by kernel_rfl) ?_
    refine pl_take (.int .i64 (((i : Nat) : Int) : Int)) rfl (by kernel_rfl) (by kernel_rfl) (by kernel_rfl) (by kernel_rfl) ?_
    refine pl_take (.bool false) rfl (by kernel_rfl) (by kernel_rfl) (by kernel_rfl) (ev_ndec (show _ = Result.ok (Next.value (Value.bool (decide ((((i : Nat) : Int) : Int) < (25 : Int))))) _ from by kernel_rfl) (by omega)) ?_
    refine pl_take (.bool false) rfl (by kernel_rfl) (by kernel_rfl) (by kernel_rfl) (by kernel_rfl) ?_
    refine pl_nil ?_
    refine qw_then ?_
    refine cw_f (by kernel_rfl) ?_
    refine cw_exit ?_
    refine qw_then_exit ?_
    refine qw_then_exit ?_
    refine qw_block_out ?_
    refine qw_then ?_
    refine cw_seq ?_
    refine cw_plain ?_
    refine pl_take (.slice a9 i c9) rfl (by kernel_rfl) (by kernel_rfl) (by kernel_rfl) (by kernel_rfl) ?_
    refine pl_take (.slice a9 i c9) rfl (by kernel_rfl) (by kernel_rfl) (by kernel_rfl) (by kernel_rfl) ?_
    refine pl_nil ?_
    refine qw_then ?_
    refine cw_ret ?_
    refine qw_ret [.slice a9 i c9] rfl ⟨(by kernel_rfl), trivial⟩ ?_
    exact ⟨a9, i, c9, rfl, by omega, (fewT_end (ss := ss) (i := i) (by omega)) ▸ own9, hE⟩
  ·
    refine cw_seq ?_
    refine cw_seq ?_
    refine cw_plain ?_
    refine pl_take (.int .i64 (((i : Nat) : Int) : Int)) rfl (by kernel_rfl) (by kernel_rfl) (by kernel_rfl) (by kernel_rfl) ?_
    refine pl_take (.slice a n c) rfl (by kernel_rfl) (by kernel_rfl) (by kernel_rfl) (by kernel_rfl) ?_
    refine pl_take (.int .i64 (((n : Nat) : Int) : Int)) rfl (by kernel_rfl) (by kernel_rfl) (by kernel_rfl) (by kernel_rfl) ?_
    refine pl_take (.bool false) rfl (by kernel_rfl) (by kernel_rfl) (by kernel_rfl) (ev_ndec (show _ = Result.ok (Next.value (Value.bool (decide ((((i : Nat) : Int) : Int) < (((n : Nat) : Int) : Int))))) _ from by kernel_rfl) (by omega)) ?_
    refine pl_take (.bool false) rfl (by kernel_rfl) (by kernel_rfl) (by kernel_rfl) (by kernel_rfl) ?_
    refine pl_skip rfl (by kernel_rfl) (by kernel_rfl) (by kernel_rfl) ?_
    refine pl_skip rfl (by kernel_rfl) (by kernel_rfl) (by kernel_rfl) ?_
    refine pl_take (.bool false) rfl (by kernel_rfl) (by kernel_rfl) (by kernel_rfl) (by kernel_rfl) ?_
    refine pl_nil ?_
    refine qw_then ?_
    refine cw_f (by kernel_rfl) ?_
    refine cw_exit ?_
    refine qw_then_exit ?_
    refine qw_then_exit ?_
    refine qw_block_out ?_
    refine qw_then ?_
    refine cw_seq ?_
    refine cw_plain ?_
    refine pl_take (.slice a9 i c9) rfl (by kernel_rfl) (by kernel_rfl) (by kernel_rfl) (by kernel_rfl) ?_
    refine pl_take (.slice a9 i c9) rfl (by kernel_rfl) (by kernel_rfl) (by kernel_rfl) (by kernel_rfl) ?_
    refine pl_nil ?_
    refine qw_then ?_
    refine cw_ret ?_
    refine qw_ret [.slice a9 i c9] rfl ⟨(by kernel_rfl), trivial⟩ ?_
    exact ⟨a9, i, c9, rfl, by omega, (fewT_end (ss := ss) (i := i) (by omega)) ▸ own9, hE⟩

end Go.Proofs.YtglfoglkdbbmmaaDoor

/- A second contract of the reference's Strips: all that it hands back is new. -/
namespace Go.Proofs.YtglfoglkdbbmmaaDoor
open Go.RowKit Go.Shelf

def RetSO (q : Nat → Nat → Int) (n : Nat) (w : World) (e : Ending) (w' : World) : Prop :=
  ∃ (a : Option Addr) (k c : Nat), e = .returned (.slice a k c) ∧ k = min (n / 2) 9 ∧ OwnL (freshR w.heap.size stripR) w.heap.size 28 2 (.slice a k c) w' (stripsL q k) ∧ Ext w w'
set_option maxRecDepth 1000000 in
set_option maxHeartbeats 4000000 in
theorem Strips_o {w0 : World} {a : Option Addr} {n c : Nat} {q : Nat → Nat → Int} (w : World) (h : QAt w0 a n q) (hE0 : Ext w0 w) (hnc : n ≤ c) (hc : c ≤ 9223372036854775807) :
    Calls Tryd.prog 12 #[.slice a n c] w (RetSO q n w) := by
  have Q0 := h.ext hE0
  refine calls_cw 34 [(0, .slice a n c)] Tryd.func12 rfl Tryd.ntmps12 (by kernel_rfl) (by kernel_rfl) (fun L => ?_)
  have hE : Ext w w := Ext.refl w
  refine cw_seq ?_
  refine cw_plain ?_
  refine pl_take (.slice none 0 0) rfl (by kernel_rfl) (by kernel_rfl) (by kernel_rfl) (by kernel_rfl) ?_
  refine pl_nil ?_
  refine qw_then ?_
  refine cw_seq ?_
  refine cw_plain ?_
  refine pl_take (.slice none 0 0) rfl (by kernel_rfl) (by kernel_rfl) (by kernel_rfl) (by kernel_rfl) ?_
  refine pl_nil ?_
  refine qw_then ?_
  refine cw_seq ?_
  refine cw_seq ?_
  refine cw_plain ?_
  refine pl_take (.int .i64 0) rfl (by kernel_rfl) (by kernel_rfl) (by kernel_rfl) (by kernel_rfl) ?_
  refine pl_nil ?_
  refine qw_then ?_
  refine cw_block ?_
  refine cw_loop [0, 3, 4] (fun ws' wr m => ∃ a9 : Option Addr, ∃ i : Nat, ∃ c9 : Nat, ws' = [(0, .slice a n c), (3, .slice a9 i c9), (4, .int .i64 (((i * 2 : Nat) : Int) : Int))] ∧ m = 9 - i ∧ w.heap.size ≤ wr.heap.size ∧ Ext w wr ∧ OwnL (freshR w.heap.size stripR) w.heap.size 28 2 (.slice a9 i c9) wr (stripsL q i) ∧ i ≤ min (n / 2) 9) (ws0 := [(0, .slice a n c), (3, .slice none 0 0), (4, .int .i64 0)]) (by kernel_rfl) _ ⟨none, 0, 0, rfl, rfl, Nat.le_refl _, hE, OwnL.nil _ _ _ _ _, by omega⟩ ?_
  clear hE
  rintro m3 L ws w2 ⟨a9, i, c9, rfl, rfl, hs1, hE, own9, hi⟩
  have hX4 : Ext w2 w2 := Ext.refl _
  have hbk := own9.lt; have hlen9 : (stripsL q i).length = i := stripsL_len _ _
  refine cw_seq ?_
  refine cw_seq ?_
  refine cw_plain ?_
  refine pl_take (.int .i64 (((i * 2 : Nat) : Int) : Int)) rfl (by kernel_rfl) (by kernel_rfl) (by kernel_rfl) (by kernel_rfl) ?_
  refine pl_take (.int .i64 ((((i * 2) + 1 : Nat) : Int) : Int)) rfl (by kernel_rfl) (by kernel_rfl) (by kernel_rfl) (ev_wrap (by kernel_rfl) (by omega) (by omega)) ?_
  refine pl_take (.slice a n c) rfl (by kernel_rfl) (by kernel_rfl) (by kernel_rfl) (by kernel_rfl) ?_
  refine pl_take (.int .i64 (((n : Nat) : Int) : Int)) rfl (by kernel_rfl) (by kernel_rfl) (by kernel_rfl) (by kernel_rfl) ?_
  by_cases hc5 : ((((i * 2) + 1 : Nat) : Int) : Int) < (((n : Nat) : Int) : Int)
  ·
    refine pl_take (.bool true) rfl (by kernel_rfl) (by kernel_rfl) (by kernel_rfl) (ev_dec (show _ = Result.ok (Next.value (Value.bool (decide (((((i * 2) + 1 : Nat) : Int) : Int) < (((n : Nat) : Int) : Int))))) _ from by kernel_rfl) (hc5)) ?_
    refine pl_take (.bool true) rfl (by kernel_rfl) (by kernel_rfl) (by kernel_rfl) (by kernel_rfl) ?_
    refine pl_take (.slice a9 i c9) rfl (by kernel_rfl) (by kernel_rfl) (by kernel_rfl) (by kernel_rfl) ?_
    refine pl_take (.int .i64 (((i : Nat) : Int) : Int)) rfl (by kernel_rfl) (by kernel_rfl) (by kernel_rfl) (by kernel_rfl) ?_
    by_cases hc6 : (((i : Nat) : Int) : Int) < (9 : Int)
    ·
      refine pl_take (.bool true) rfl (by kernel_rfl) (by kernel_rfl) (by kernel_rfl) (ev_dec (show _ = Result.ok (Next.value (Value.bool (decide ((((i : Nat) : Int) : Int) < (9 : Int))))) _ from by kernel_rfl) (hc6)) ?_
      refine pl_take (.bool true) rfl (by kernel_rfl) (by kernel_rfl) (by kernel_rfl) (by kernel_rfl) ?_
      refine pl_nil ?_
      refine qw_then ?_
      refine cw_t (by kernel_rfl) ?_
      refine cw_skip ?_
      refine qw_then ?_
      refine cw_seq ?_
      refine cw_block ?_
      obtain ⟨b, off, rfl, hq⟩ : ∃ b off, a = some ⟨b, off, none⟩ ∧ ∀ i, i < n → ∀ j, j < 4 → w.cell? ⟨b, off + i * 4 + j, none⟩ = some (.int .i64 (q i j)) ∧ IsI (q i j) := Q0.resolve_left (by omega)
      have QA := QAt.sub (i := i * 2) (m := 1) hq (by omega); have QB := QAt.sub (i := i * 2) (m := 2) hq (by omega)
      refine cw_draw [(some 17, [3], []), (some 18, [0], []), (some 19, [4], []), (some 20, [4], []), (some 21, [20], [3]), (some 22, [18, 19, 21], [1, 2, 4]), (some 23, [22], [5]), (some 24, [0], []), (some 25, [4], []), (some 26, [4], []), (some 27, [26], [9]), (some 28, [24, 25, 27], [7, 8, 10]), (some 29, [28], [11, 6]), (some 30, [23, 29], [6, 12]), (some 31, [30], [13]), (some 32, [17, 31], [0, 14, 12]), (some 3, [32], [15, 15, 0, 1, 2, 3, 4, 5, 6, 7, 8, 9, 10, 11, 12, 13, 14, 15])] (fun w' => True) (by kernel_rfl) (by kernel_rfl) (by kernel_rfl) (by kernel_rfl) ((calm_block (calm_then (calm_then (calm_block (calm_then calm_body)))))) (trivial) (fun ops Q X7 hb hL hR hK => ?_)
      replace hE := hE.trans hb
      replace hX4 := hX4.trans hb
      have hs8 := hb.size
      clear hb
      refine wd_take 0 (.slice a9 i c9) hR rfl (by kernel_rfl) rfl (by kernel_rfl) (fun w _ => by kernel_rfl) (trivial) ?_
      refine wd_take 1 (.slice (some ⟨b, off, none⟩) n c) hR rfl (by kernel_rfl) rfl (by kernel_rfl) (fun w _ => by kernel_rfl) (trivial) ?_
      refine wd_take 2 (.int .i64 (((i * 2 : Nat) : Int) : Int)) hR rfl (by kernel_rfl) rfl (by kernel_rfl) (fun w _ => by kernel_rfl) (trivial) ?_
      refine wd_take 3 (.int .i64 (((i * 2 : Nat) : Int) : Int)) hR rfl (by kernel_rfl) rfl (by kernel_rfl) (fun w _ => by kernel_rfl) (trivial) ?_
      refine wd_take 4 (.int .i64 ((((i * 2) + 1 : Nat) : Int) : Int)) hR rfl (by kernel_rfl) rfl (by kernel_rfl) (fun w _ => ev_wrap (by kernel_rfl) (by omega) (by omega)) (trivial) ?_
      refine wd_take 5 (.slice (some ⟨b, off + i * 2 * 4, none⟩) 1 (c - i * 2)) hR rfl (by kernel_rfl) rfl (by kernel_rfl) (fun w _ => ev_val (ex_slice (p := .slice (some ⟨b, off, none⟩) n c) rfl (by kernel_rfl) (by kernel_rfl) (by kernel_rfl) (by kernel_rfl) (sl22_110 (k := i * 2) (m := (i * 2) + 1) (by omega) (by omega) (by omega))) (by rw [show i * 2 + 1 - i * 2 = 1 by omega])) (trivial) ?_
      refine wd_take 7 (.slice (some ⟨b, off, none⟩) n c) hR rfl (by kernel_rfl) rfl (by kernel_rfl) (fun w _ => by kernel_rfl) (trivial) ?_
      refine wd_take 8 (.int .i64 (((i * 2 : Nat) : Int) : Int)) hR rfl (by kernel_rfl) rfl (by kernel_rfl) (fun w _ => by kernel_rfl) (trivial) ?_
      refine wd_take 9 (.int .i64 (((i * 2 : Nat) : Int) : Int)) hR rfl (by kernel_rfl) rfl (by kernel_rfl) (fun w _ => by kernel_rfl) (trivial) ?_
      refine wd_take 10 (.int .i64 ((((i * 2) + 2 : Nat) : Int) : Int)) hR rfl (by kernel_rfl) rfl (by kernel_rfl) (fun w _ => ev_wrap (by kernel_rfl) (by omega) (by omega)) (trivial) ?_
      refine wd_take 11 (.slice (some ⟨b, off + i * 2 * 4, none⟩) 2 (c - i * 2)) hR rfl (by kernel_rfl) rfl (by kernel_rfl) (fun w _ => ev_val (ex_slice (p := .slice (some ⟨b, off, none⟩) n c) rfl (by kernel_rfl) (by kernel_rfl) (by kernel_rfl) (by kernel_rfl) (sl22_110 (k := i * 2) (m := (i * 2) + 2) (by omega) (by omega) (by omega))) (by rw [show i * 2 + 2 - i * 2 = 2 by omega])) (trivial) ?_
      refine wd_step 6 hR rfl (by kernel_rfl) (by kernel_rfl) (by kernel_rfl) (sn_call (f := 11) (args := #[.slice (some ⟨b, off + i * 2 * 4, none⟩) 1 (c - i * 2)]) (by kernel_rfl) ((Area_c _ _ QA hE (by omega)).mono ?_))
      rintro e w13 ⟨B9, k10, rfl, hn12, v11, hb⟩
      replace hE := hE.trans hb
      replace hX4 := hX4.trans hb
      have hs14 := hb.size
      clear hb
      have lt15 := v11.lt
      refine ⟨_, rfl, trivial, ?_⟩
      refine wd_step 12 hR rfl (by kernel_rfl) (by kernel_rfl) (by kernel_rfl) (sn_call (f := 11) (args := #[.slice (some ⟨b, off + i * 2 * 4, none⟩) 2 (c - i * 2)]) (by kernel_rfl) ((Area_c _ _ QB hE (by omega)).mono ?_))
      rintro e w20 ⟨B16, k17, rfl, hn19, v18, hb⟩
      replace hE := hE.trans hb
      replace hX4 := hX4.trans hb
      replace v11 := v11.ext hb
      have hs21 := hb.size
      clear hb
      have lt22 := v18.lt
      refine ⟨_, rfl, trivial, ?_⟩
      refine wd_take 13 (.agg #[.slice (some ⟨B9, 0, none⟩) 24 k10, .slice (some ⟨B16, 0, none⟩) 24 k17]) hR rfl (by kernel_rfl) rfl (by kernel_rfl) (fun w _ => by kernel_rfl) (trivial) ?_
      refine wd_step 14 hR rfl (by kernel_rfl) (by kernel_rfl) (by kernel_rfl) (sn_newS (us := #[.slice (some ⟨B9, 0, none⟩) 24 k10, .slice (some ⟨B16, 0, none⟩) 24 k17]) (t := 28) (k := 1) (c := 1) (by kernel_rfl) ?_)
      intro O23 X24 hO hOs hb hbx
      have hzO23 := hO; have hyO23 := hOs; clear hO hOs
      have bO23_0 : BoxAt X24 O23 0 (.slice (some ⟨B9, 0, none⟩) 24 k10) := hbx 0 _ rfl
      have bO23_1 : BoxAt X24 O23 1 (.slice (some ⟨B16, 0, none⟩) 24 k17) := hbx 1 _ rfl
      clear hbx
      replace hE := hE.trans hb
      replace hX4 := hX4.trans hb
      replace v11 := v11.ext hb
      replace v18 := v18.ext hb
      have hs25 := hb.size
      clear hb
      have lt26 := bO23_0.lt
      refine ⟨trivial, ?_⟩
      obtain ⟨g27, cap28, w29, hrun30, own31, hgr32⟩ := own_app1 (P := Tryd.prog) (ty := 26) stripT (own9.ext hX4) (Nat.le_trans hs1 (Nat.le_trans hs8 (Nat.le_trans hs14 (Nat.le_trans hs21 hs25)))) (k := i) hlen9 (O := O23) (c := 1) (x := (stripN q i)) (d := [.slice (some ⟨B9, 0, none⟩) 24 k10, .slice (some ⟨B16, 0, none⟩) 24 k17]) rfl (cells2 bO23_0.1 bO23_1.1) (by simp [Value.oneCell']) (⟨⟨_, _, _, _, _, _, rfl, v11, v18, rfl⟩, fresh2 (Nat.le_trans (Nat.le_trans hs1 hs8) hn12) (Nat.le_trans (Nat.le_trans hs1 (Nat.le_trans hs8 hs14)) hn19)⟩) (away2 hbk (Nat.le_trans hs8 hn12) (Nat.le_trans (Nat.le_trans hs8 hs14) hn19)) (by omega) (by omega)
      refine wd_step 15 hR rfl (by kernel_rfl) (by kernel_rfl) (by kernel_rfl) (sn_eff (v := .slice (some ⟨g27, 0, none⟩) (i + 1) cap28) (w' := w29) (ex_append rfl (by kernel_rfl) (by kernel_rfl) hrun30) ?_)
      replace hE := hgr32.ext _ hE (Nat.le_refl _)
      have hs33 := hgr32.size
      refine ⟨trivial, ?_⟩
      rw [← stripsL_succ] at own31
      refine wd_take 16 (.slice (some ⟨g27, 0, none⟩) (i + 1) cap28) hR rfl (by kernel_rfl) rfl (by kernel_rfl) (fun w _ => by kernel_rfl) (trivial) ?_
      refine wd_end hL hR hK (by kernel_rfl) ?_
      refine qw_block ?_
      refine qw_then ?_
      refine cw_clean [0, 3, 4] (ws' := [(0, .slice (some ⟨b, off, none⟩) n c), (3, .slice (some ⟨g27, 0, none⟩) (i + 1) cap28), (4, .int .i64 (((i * 2 : Nat) : Int) : Int))]) (by kernel_rfl) (fun L => ?_)
      refine cw_plain ?_
      refine pl_take (.int .i64 (((i * 2 : Nat) : Int) : Int)) rfl (by kernel_rfl) (by kernel_rfl) (by kernel_rfl) (by kernel_rfl) ?_
      refine pl_take (.int .i64 ((((i * 2) + 2 : Nat) : Int) : Int)) rfl (by kernel_rfl) (by kernel_rfl) (by kernel_rfl) (ev_wrap (by kernel_rfl) (by omega) (by omega)) ?_
      refine pl_take (.int .i64 ((((i * 2) + 2 : Nat) : Int) : Int)) rfl (by kernel_rfl) (by kernel_rfl) (by kernel_rfl) (by kernel_rfl) ?_
      refine pl_nil ?_
      refine qw_round [0, 3, 4] (ws' := [(0, .slice (some ⟨b, off, none⟩) n c), (3, .slice (some ⟨g27, 0, none⟩) (i + 1) cap28), (4, .int .i64 ((((i * 2) + 2 : Nat) : Int) : Int))]) (by kernel_rfl) _ ?_ ⟨(some ⟨g27, 0, none⟩), (i + 1), cap28, (by rw [show (i + 1) * 2 = i * 2 + 2 by omega]), rfl, (Nat.le_trans hs1 (Nat.le_trans hs8 (Nat.le_trans hs14 (Nat.le_trans hs21 (Nat.le_trans hs25 hs33))))), hE, own31, by omega⟩
      omega
    ·
      refine pl_take (.bool false) rfl (by kernel_rfl) (by kernel_rfl) (by kernel_rfl) (ev_ndec (show _ = Result.ok (Next.value (Value.bool (decide ((((i : Nat) : Int) : Int) < (9 : Int))))) _ from by kernel_rfl) (hc6)) ?_
      refine pl_take (.bool false) rfl (by kernel_rfl) (by kernel_rfl) (by kernel_rfl) (by kernel_rfl) ?_
      refine pl_nil ?_
      refine qw_then ?_
      refine cw_f (by kernel_rfl) ?_
      refine cw_exit ?_
      refine qw_then_exit ?_
      refine qw_then_exit ?_
      refine qw_block_out ?_
      refine qw_then ?_
      refine cw_seq ?_
      refine cw_plain ?_
      refine pl_take (.slice a9 i c9) rfl (by kernel_rfl) (by kernel_rfl) (by kernel_rfl) (by kernel_rfl) ?_
      refine pl_take (.slice a9 i c9) rfl (by kernel_rfl) (by kernel_rfl) (by kernel_rfl) (by kernel_rfl) ?_
      refine pl_nil ?_
      refine qw_then ?_
      refine cw_clean [2] (ws' := [(2, .slice a9 i c9)]) (by kernel_rfl) (fun L => ?_)
      refine cw_ret ?_
      refine qw_ret [.slice a9 i c9] rfl ⟨(by kernel_rfl), trivial⟩ ?_
      exact ⟨a9, i, c9, rfl, by omega, own9, hE⟩
  ·
    refine pl_take (.bool false) rfl (by kernel_rfl) (by kernel_rfl) (by kernel_rfl) (ev_ndec (show _ = Result.ok (Next.value (Value.bool (decide (((((i * 2) + 1 : Nat) : Int) : Int) < (((n : Nat) : Int) : Int))))) _ from by kernel_rfl) (hc5)) ?_
    refine pl_take (.bool false) rfl (by kernel_rfl) (by kernel_rfl) (by kernel_rfl) (by kernel_rfl) ?_
    refine pl_skip rfl (by kernel_rfl) (by kernel_rfl) (by kernel_rfl) ?_
    refine pl_skip rfl (by kernel_rfl) (by kernel_rfl) (by kernel_rfl) ?_
    refine pl_skip rfl (by kernel_rfl) (by kernel_rfl) (by kernel_rfl) ?_
    refine pl_take (.bool false) rfl (by kernel_rfl) (by kernel_rfl) (by kernel_rfl) (by kernel_rfl) ?_
    refine pl_nil ?_
    refine qw_then ?_
    refine cw_f (by kernel_rfl) ?_
    refine cw_exit ?_
    refine qw_then_exit ?_
    refine qw_then_exit ?_
    refine qw_block_out ?_
    refine qw_then ?_
    refine cw_seq ?_
    refine cw_plain ?_
    refine pl_take (.slice a9 i c9) rfl (by kernel_rfl) (by kernel_rfl) (by kernel_rfl) (by kernel_rfl) ?_
    refine pl_take (.slice a9 i c9) rfl (by kernel_rfl) (by kernel_rfl) (by kernel_rfl) (by kernel_rfl) ?_
    refine pl_nil ?_
    refine qw_then ?_
    refine cw_clean [2] (ws' := [(2, .slice a9 i c9)]) (by kernel_rfl) (fun L => ?_)
    refine cw_ret ?_
    refine qw_ret [.slice a9 i c9] rfl ⟨(by kernel_rfl), trivial⟩ ?_
    exact ⟨a9, i, c9, rfl, by omega, own9, hE⟩

end Go.Proofs.YtglfoglkdbbmmaaDoor
