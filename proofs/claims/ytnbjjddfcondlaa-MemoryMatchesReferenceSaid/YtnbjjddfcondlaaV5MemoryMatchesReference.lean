/- Part 5 of what the proof of MemoryMatchesReference stands on. -/
import Derived.Test.YtnbjjddfcondlaaV4MemoryMatchesReference
/- Contract of the reference of chapter 11: Options. -/
namespace Go.Proofs.Ytnbjjddfcondlaa
open Go.RowKit

theorem cells3 {w : World} {O : Nat} {x0 x1 x2 : Value} (h0 : w.cell? ⟨O, 0, none⟩ = some x0) (h1 : w.cell? ⟨O, 1, none⟩ = some x1) (h2 : w.cell? ⟨O, 2, none⟩ = some x2) : ∀ j v, [x0, x1, x2][j]? = some v → w.cell? ⟨O, j, none⟩ = some v
  | 0, v, hv => by simp at hv; subst hv; exact h0
  | 1, v, hv => by simp at hv; subst hv; exact h1
  | 2, v, hv => by simp at hv; subst hv; exact h2
  | _ + 3, v, hv => by simp at hv
theorem cells9 {w : World} {O : Nat} {x0 x1 x2 x3 x4 x5 x6 x7 x8 : Value} (h0 : w.cell? ⟨O, 0, none⟩ = some x0) (h1 : w.cell? ⟨O, 1, none⟩ = some x1) (h2 : w.cell? ⟨O, 2, none⟩ = some x2) (h3 : w.cell? ⟨O, 3, none⟩ = some x3) (h4 : w.cell? ⟨O, 4, none⟩ = some x4) (h5 : w.cell? ⟨O, 5, none⟩ = some x5) (h6 : w.cell? ⟨O, 6, none⟩ = some x6) (h7 : w.cell? ⟨O, 7, none⟩ = some x7) (h8 : w.cell? ⟨O, 8, none⟩ = some x8) : ∀ j v, [x0, x1, x2, x3, x4, x5, x6, x7, x8][j]? = some v → w.cell? ⟨O, j, none⟩ = some v
  | 0, v, hv => by simp at hv; subst hv; exact h0
  | 1, v, hv => by simp at hv; subst hv; exact h1
  | 2, v, hv => by simp at hv; subst hv; exact h2
  | 3, v, hv => by simp at hv; subst hv; exact h3
  | 4, v, hv => by simp at hv; subst hv; exact h4
  | 5, v, hv => by simp at hv; subst hv; exact h5
  | 6, v, hv => by simp at hv; subst hv; exact h6
  | 7, v, hv => by simp at hv; subst hv; exact h7
  | 8, v, hv => by simp at hv; subst hv; exact h8
  | _ + 9, v, hv => by simp at hv
theorem rpickv_c (c n : Int) (w : World) (hc : IsI c) (h0 : 0 < n) (h1 : n ≤ 100000000) : Calls Try.prog 32 #[.int .i64 c, .int .i64 n] w fun e w' => ∃ k : Int, e = .returned (.int .i64 k) ∧ (0 ≤ k ∧ k < n) ∧ w = w' :=
  (rpick_c c n w hc h0 h1).mono fun _ _ ⟨he, hw⟩ => ⟨_, he, pickF_bd h0, hw⟩
theorem quo_isI {x k : Int} (h : IsI x) (hk : 0 < k) : IsI (x.tdiv k) := by
  have h2 : (x.tdiv k).natAbs ≤ x.natAbs := by rw [Int.natAbs_tdiv]; exact Nat.div_le_self _ _
  have h3 : 0 ≤ x → 0 ≤ x.tdiv k := fun h => Int.tdiv_nonneg h (by omega)
  have h4 : x ≤ 0 → x.tdiv k ≤ 0 := fun h => by
    have := Int.tdiv_nonneg (a := -x) (b := k) (by omega) (by omega)
    rw [Int.neg_tdiv] at this; omega
  obtain ⟨h0, h1⟩ := h
  generalize x.tdiv k = q at h2 h3 h4 ⊢
  exact ⟨by omega, by omega⟩
/-- The slice at a (n elements) reads as rows of six ints. -/
def SixAt (w : World) (a : Option Addr) (n : Nat) (q : Nat → Nat → Int) : Prop :=
  n = 0 ∨ ∃ b off, a = some ⟨b, off, none⟩ ∧ ∀ i, i < n → ∀ j, j < 6 → w.cell? ⟨b, off + i * 6 + j, none⟩ = some (.int .i64 (q i j)) ∧ IsI (q i j)
def Mem.Slt.enc (x : Mem.Slt) : List Value := [.int .i64 x.ps, .int .i64 x.fr, .int .i64 x.to]
def slR : Rep Mem.Slt where
  rel _ c x F := c = x.enc ∧ F = []
  keep := fun h _ => h
  lt := by rintro w c x F ⟨_, rfl⟩ b hb; cases hb
theorem slT : ElemT Try.prog 29 61 (.agg #[.int .i64 0, .int .i64 0, .int .i64 0]) 3 24 := ⟨Try.underlying29, by kernel_rfl, rfl, by decide⟩
theorem own_sls {n₀ e n cap : Nat} {a : Option Addr} {w : World} {l : List Mem.Slt} (h : OwnL slR n₀ e 3 (.slice a n cap) w l) (hl : l.length = n) (h0 : 0 < n) (hn : n ≤ 1000) : ∃ b, a = some ⟨b, 0, none⟩ ∧ n₀ ≤ b ∧ SlsAt w (some ⟨b, 0, none⟩) n l := by
  subst hl
  have hb := h.base
  obtain ⟨cs, h1, h2, h3, h4⟩ := h
  rcases h3.2 with ⟨q1, q2⟩ | ⟨g, cap', cur, q1, _⟩
  · injection q1 with r1 r2 r3; omega
  · injection q1 with r1 r2 r3
    subst r1
    refine ⟨g, rfl, hb g rfl, rfl, by omega, .inr ⟨g, 0, rfl, fun i x hx => ?_⟩⟩
    have hi := (List.getElem?_eq_some_iff.1 hx).1
    have hc := List.getElem?_eq_getElem (l := cs) (i := i) (by omega)
    obtain ⟨F, ⟨e1, _⟩, _⟩ := h4 i _ _ hx hc
    have k : ∀ q u, q < 3 → x.enc[q]? = some u → w.cell? ⟨g, 0 + i * 3 + q, none⟩ = some u := fun q u hq hu => by
      have f := flatten_get h2 i hc q hq
      rw [e1, hu] at f
      rw [Nat.add_assoc]
      exact own_cell9 h3 (by omega) f
    exact ⟨k 0 _ (by omega) rfl, k 1 _ (by omega) rfl, k 2 _ (by omega) rfl⟩
/-- An option in a list of one's own: its slots lie in a block of their own. -/
def optR : Rep Mem.Opt where
  rel w c x F := ∃ b m k, c = [.int .i64 x.id, .int .i64 x.od, .int .i64 x.cl, .int .i64 x.sa, .int .i64 x.fr, .int .i64 x.to, .int .i64 x.lk, .int .i64 x.sz, .slice (some ⟨b, 0, none⟩) m k] ∧ SlsAt w (some ⟨b, 0, none⟩) m x.sl ∧ 0 < m ∧ F = [b]
  keep := by
    rintro w w' c x F ⟨b, m, k, rfl, hs, hm, rfl⟩ h
    refine ⟨b, m, k, rfl, ⟨hs.1, hs.2.1, hs.2.2.imp id fun ⟨b', o', ha, hx⟩ => ⟨b', o', ha, fun i y hi => ?_⟩⟩, hm, rfl⟩
    cases ha
    obtain ⟨c0, c1, c2⟩ := hx i y hi
    exact ⟨h b (by simp) _ _ c0, h b (by simp) _ _ c1, h b (by simp) _ _ c2⟩
  lt := by
    rintro w c x F ⟨b, m, k, rfl, hs, hm, rfl⟩ b' hb
    rw [List.mem_singleton.1 hb]
    rcases hs.2.2 with h | ⟨b', o', ha, hx⟩
    · omega
    · cases ha
      exact World.block_lt_of_cell? _ _ (hx 0 _ (slN_at (by rw [hs.1]; exact hm))).1
theorem optT : ElemT Try.prog 50 31 (.agg #[.int .i64 0, .int .i64 0, .int .i64 0, .int .i64 0, .int .i64 0, .int .i64 0, .int .i64 0, .int .i64 0, .slice none 0 0]) 9 88 := ⟨Try.underlying50, by kernel_rfl, rfl, by decide⟩
def OptAt (w : World) (b o : Nat) (x : Mem.Opt) : Prop := w.cell? ⟨b, o, none⟩ = some (.int .i64 x.id) ∧ w.cell? ⟨b, o + 1, none⟩ = some (.int .i64 x.od) ∧ w.cell? ⟨b, o + 2, none⟩ = some (.int .i64 x.cl) ∧ w.cell? ⟨b, o + 3, none⟩ = some (.int .i64 x.sa) ∧ w.cell? ⟨b, o + 4, none⟩ = some (.int .i64 x.fr) ∧ w.cell? ⟨b, o + 5, none⟩ = some (.int .i64 x.to) ∧ w.cell? ⟨b, o + 6, none⟩ = some (.int .i64 x.lk) ∧ w.cell? ⟨b, o + 7, none⟩ = some (.int .i64 x.sz) ∧ ∃ a n k, w.cell? ⟨b, o + 8, none⟩ = some (.slice a n k) ∧ SlsAt w a n x.sl
theorem OptAt.ext {w w' : World} {b o : Nat} {x : Mem.Opt} (h : OptAt w b o x) (hE : Ext w w') : OptAt w' b o x := by
  obtain ⟨h0, h1, h2, h3, h4, h5, h6, h7, a, n, k, h8, h9⟩ := h
  exact ⟨hE.cell h0, hE.cell h1, hE.cell h2, hE.cell h3, hE.cell h4, hE.cell h5, hE.cell h6, hE.cell h7, a, n, k, hE.cell h8, h9.ext hE⟩
def OptsAt (w : World) (a : Option Addr) (n : Nat) (l : List Mem.Opt) : Prop := l.length = n ∧ n ≤ 1000 ∧ (n = 0 ∨ ∃ b o, a = some ⟨b, o, none⟩ ∧ ∀ (i : Nat) x, l[i]? = some x → OptAt w b (o + i * 9) x)
theorem own_opts {n₀ m e n cap : Nat} {a : Option Addr} {w : World} {l : List Mem.Opt} (h : OwnL (freshR m optR) n₀ e 9 (.slice a n cap) w l) (hl : l.length = n) (hn : n ≤ 1000) : OptsAt w a n l := by
  subst hl
  obtain ⟨cs, h1, h2, h3, h4⟩ := h
  refine ⟨rfl, hn, ?_⟩
  rcases Nat.eq_zero_or_pos l.length with h0 | h0
  · exact .inl h0
  · right
    rcases h3.2 with ⟨q1, q2⟩ | ⟨g, cap', cur, q1, _⟩
    · injection q1 with r1 r2 r3; omega
    · injection q1 with r1 r2 r3
      subst r1
      refine ⟨g, 0, rfl, fun i x hx => ?_⟩
      have hi := (List.getElem?_eq_some_iff.1 hx).1
      have hc := List.getElem?_eq_getElem (l := cs) (i := i) (by omega)
      obtain ⟨F, ⟨⟨b, mm, kk, e1, e2, _, _⟩, _⟩, _⟩ := h4 i _ _ hx hc
      have k : ∀ q u, q < 9 → [.int .i64 x.id, .int .i64 x.od, .int .i64 x.cl, .int .i64 x.sa, .int .i64 x.fr, .int .i64 x.to, .int .i64 x.lk, .int .i64 x.sz, .slice (some ⟨b, 0, none⟩) mm kk][q]? = some u → w.cell? ⟨g, 0 + i * 9 + q, none⟩ = some u := fun q u hq hu => by
        have f := flatten_get h2 i hc q hq
        rw [e1, hu] at f
        rw [Nat.add_assoc]
        exact own_cell9 h3 (by omega) f
      exact ⟨k 0 _ (by omega) rfl, k 1 _ (by omega) rfl, k 2 _ (by omega) rfl, k 3 _ (by omega) rfl, k 4 _ (by omega) rfl, k 5 _ (by omega) rfl, k 6 _ (by omega) rfl, k 7 _ (by omega) rfl, _, _, _, k 8 _ (by omega) rfl, e2⟩
namespace Mem
theorem can_mk {id od cl sa fr to lk sz : Int} {sl : List Slt} (h : chainB to sl = true) (h1 : 0 ≤ id ∧ id ≤ 63) (h2 : 1 ≤ sz ∧ sz ≤ 1000000) (h3 : (0 ≤ fr ∧ fr < to) ∧ to ≤ 1000001) (h4 : 1 ≤ sl.length ∧ sl.length ≤ 6) : canB ⟨id, od, cl, sa, fr, to, lk, sz, sl⟩ = true := by
  unfold canB
  simp only [h, Bool.true_and]
  rw [show Globe.inB id 0 63 = true from Globe.inB_t.2 h1, show Globe.inB sz 1 1000000 = true from Globe.inB_t.2 h2, show spB (fr, to) = true from spB_t.2 h3, show Globe.inB (sl.length : Int) 1 6 = true from Globe.inB_t.2 ⟨by omega, by omega⟩]
  rfl
/-- Options as Options returns them. -/
def GoodO (l : List Opt) : Prop := l.length ≤ 8 ∧ ∀ (i : Nat) o, l[i]? = some o → o.id = (i : Int) ∧ canB o = true
theorem GoodO.nil : GoodO [] := ⟨by simp, fun i p h => by simp at h⟩
theorem GoodO.snoc {l : List Opt} {x : Opt} {i : Nat} (h : GoodO l) (hl : l.length = i) (hi : i < 8) (h1 : x.id = (i : Int)) (h2 : canB x = true) : GoodO (l ++ [x]) := by
  subst hl
  refine ⟨by rw [List.length_append]; simp; omega, fun j p hp => ?_⟩
  rcases Nat.lt_or_ge j l.length with hj | hj
  · rw [List.getElem?_append_left hj] at hp; exact h.2 j p hp
  · rw [List.getElem?_append_right hj] at hp
    rcases Nat.lt_or_ge j (l.length + 1) with hk | hk
    · obtain rfl : j = l.length := by omega
      rw [Nat.sub_self] at hp; cases hp; exact ⟨h1, h2⟩
    · rw [List.getElem?_eq_none (by simp; omega)] at hp; cases hp
end Mem
def RetOs (n : Nat) (w : World) (e : Ending) (w' : World) : Prop := ∃ (a : Option Addr) (k c : Nat) (l : List Mem.Opt), e = .returned (.slice a k c) ∧ k ≤ 8 ∧ k = min n 8 ∧ OptsAt w' a k l ∧ Mem.GoodO l ∧ Ext w w'
set_option maxRecDepth 1000000 in
set_option maxHeartbeats 4000000 in
theorem Options_c {w0 : World} {a : Option Addr} {n : Nat} {q : Nat → Nat → Int} (c : Nat) (w : World) (h : SixAt w0 a n q) (e0 : Ext w0 w) : Calls Try.prog 26 #[.slice a n c] w (RetOs n w) := by
  have hs0 := e0.size
  refine calls_cw 105 [(0, .slice a n c)] Try.func26 rfl Try.ntmps26 (by kernel_rfl) (by kernel_rfl) (fun L => ?_)
  have hE : Ext w w := Ext.refl w
  refine cw_seq ?_
  refine cw_plain ?_
  refine pT (.slice none 0 0) ?_
  refine pl_nil ?_
  refine qw_then ?_
  refine cw_seq ?_
  refine cw_plain ?_
  refine pT (.slice none 0 0) ?_
  refine pl_nil ?_
  refine qw_then ?_
  refine cw_seq ?_
  refine cw_seq ?_
  refine cw_plain ?_
  refine pT (.int .i64 0) ?_
  refine pl_nil ?_
  refine qw_then ?_
  refine cw_block ?_
  refine cw_loop [0, 3, 4] (fun ws' wr m => ∃ i : Nat, ∃ a9 : Option Addr, ∃ c9 : Nat, ∃ ops : List Mem.Opt, ws' = [(0, .slice a n c), (3, .slice a9 i c9), (4, .int .i64 (((i : Nat) : Int) : Int))] ∧ m = n - i ∧ w.heap.size ≤ wr.heap.size ∧ Ext w0 wr ∧ Ext w wr ∧ OwnL ((freshR w.heap.size optR)) w.heap.size 31 9 (.slice a9 i c9) wr ops ∧ i ≤ n ∧ i ≤ 8 ∧ ops.length = i ∧ Mem.GoodO ops) (ws0 := [(0, .slice a n c), (3, .slice none 0 0), (4, .int .i64 0)]) (by kernel_rfl) _ ⟨0, none, 0, [], rfl, rfl, Nat.le_refl _, e0, hE, OwnL.nil _ _ _ _ _, Nat.zero_le _, Nat.zero_le _, rfl, Mem.GoodO.nil⟩ ?_
  clear e0 hE
  rintro m7 L ws w6 ⟨i, a9, c9, ops, rfl, rfl, hs5, e0, hE, own9, hi, hi2, hml9, hgo⟩
  by_cases hlt : i < n
  ·
    by_cases hlt2 : i < 8
    ·
      obtain ⟨b6, o6, rfl, hc⟩ := h.resolve_left (by omega)
      have q0 := (hc i hlt 0 (by omega)).1; have q1 := (hc i hlt 1 (by omega)).1; have q2 := (hc i hlt 2 (by omega)).1; have q3 := (hc i hlt 3 (by omega)).1; have q4 := (hc i hlt 4 (by omega)).1; have q5 := (hc i hlt 5 (by omega)).1
      have hq := fun j hj => (hc i hlt j hj).2
      have hi4 := hq 4 (by omega); have hi5 := hq 5 (by omega)
      obtain ⟨hi40, hi41⟩ := id hi4; obtain ⟨hi50, hi51⟩ := id hi5
      have hX8 : Ext w6 w6 := Ext.refl _
      refine cw_seq ?_
      refine cw_seq ?_
      refine cw_plain ?_
      refine pT (.int .i64 (((i : Nat) : Int) : Int)) ?_
      refine pT (.slice (some ⟨b6, o6, none⟩) n c) ?_
      refine pT (.int .i64 (((n : Nat) : Int) : Int)) ?_
      refine pl_take (.bool true) rfl (by kernel_rfl) (by kernel_rfl) (by kernel_rfl) (ev_dec (show _ = Result.ok (Next.value (Value.bool (decide ((((i : Nat) : Int) : Int) < (((n : Nat) : Int) : Int))))) _ from by kernel_rfl) (by omega)) ?_
      refine pT (.bool true) ?_
      refine pT (.int .i64 (((i : Nat) : Int) : Int)) ?_
      refine pl_take (.bool true) rfl (by kernel_rfl) (by kernel_rfl) (by kernel_rfl) (ev_dec (show _ = Result.ok (Next.value (Value.bool (decide ((((i : Nat) : Int) : Int) < (8 : Int))))) _ from by kernel_rfl) (by omega)) ?_
      refine pT (.bool true) ?_
      refine pl_nil ?_
      refine qw_then ?_
      refine cw_t (by kernel_rfl) ?_
      refine cw_skip ?_
      refine qw_then ?_
      refine cw_seq ?_
      refine cw_block ?_
      refine cw_seq ?_
      refine cw_plain ?_
      refine pT (.slice (some ⟨b6, o6, none⟩) n c) ?_
      refine pT (.int .i64 (((i : Nat) : Int) : Int)) ?_
      refine pl_take (.pointer (some ⟨b6, o6 + i * 6, none⟩)) rfl (by kernel_rfl) (by kernel_rfl) (by kernel_rfl) (ex_index (p := .slice (some ⟨b6, o6, none⟩) n c) (i := .int .i64 ((i : Nat) : Int)) rfl (by kernel_rfl) (by kernel_rfl) (ix52 (k := i) (by omega))) ?_
      refine pT (.pointer (some ⟨b6, o6 + i * 6, none⟩)) ?_
      refine pl_take (.int .i64 (q i 0 : Int)) rfl (by kernel_rfl) (by kernel_rfl) (by kernel_rfl) (ex_load rfl (by kernel_rfl) (ld3 ((e0.cell q0)))) ?_
      refine pl_step rfl (by kernel_rfl) (by kernel_rfl) (by kernel_rfl) (sn_call (f := 32) (args := #[.int .i64 (q i 0 : Int), .int .i64 200]) (by kernel_rfl) ((rpickv_c (q i 0) 200 _ (hq 0 (by omega)) (by omega) (by omega)).mono ?_))
      rintro e w' ⟨p9, rfl, hp9, rfl⟩
      refine ⟨_, rfl, ?_⟩
      refine pT (.int .i64 (p9 : Int)) ?_
      refine pl_nil ?_
      refine qw_then ?_
      refine cw_clean [0, 3, 4, 5] (ws' := [(0, .slice (some ⟨b6, o6, none⟩) n c), (3, .slice a9 i c9), (4, .int .i64 (((i : Nat) : Int) : Int)), (5, .int .i64 (p9 : Int))]) (by kernel_rfl) (fun L => ?_)
      refine cw_seq ?_
      refine cw_join (fun ws' Y => ∃ p12 : Int, ∃ p13 : Int, ∃ p14 : Int, ∃ O15 : Nat, ws' = [(0, .slice (some ⟨b6, o6, none⟩) n c), (3, .slice a9 i c9), (4, .int .i64 (((i : Nat) : Int) : Int)), (6, .pointer (some ⟨O15, 0, none⟩))] ∧ Ext w0 Y ∧ Ext w Y ∧ Ext w6 Y ∧ (0 ≤ p12 ∧ p12 < 4) ∧ (0 ≤ p13 ∧ p13 < 60) ∧ (0 ≤ p14 ∧ p14 < 20) ∧ BoxAt Y O15 0 (.int .i64 (((i : Nat) : Int) : Int)) ∧ BoxAt Y O15 1 (.int .i64 (p12 : Int)) ∧ BoxAt Y O15 2 (.int .i64 0) ∧ BoxAt Y O15 3 (.int .i64 0) ∧ BoxAt Y O15 4 (.int .i64 (p9 : Int)) ∧ BoxAt Y O15 5 (.int .i64 ((p9 + 1) + p14 : Int)) ∧ BoxAt Y O15 6 (.int .i64 0) ∧ BoxAt Y O15 7 (.int .i64 (1 + p13 : Int)) ∧ BoxAt Y O15 8 (.slice none 0 0) ∧ w6.heap.size ≤ Y.heap.size ∧ w6.heap.size ≤ O15) (fun hJ => ?_) ?_
      ·
        refine cw_draw [(some 26, [4], []), (some 27, [0], []), (some 28, [4], []), (some 29, [27, 28], [1, 2]), (some 30, [29], [3]), (some 31, [30], [4]), (some 32, [31], [5]), (some 33, [0], []), (some 34, [4], []), (some 35, [33, 34], [7, 8]), (some 36, [35], [9]), (some 37, [36], [10]), (some 38, [37], [11, 6]), (some 39, [38], [12]), (some 40, [5], []), (some 41, [5], []), (some 42, [41], [15]), (some 43, [0], []), (some 44, [4], []), (some 45, [43, 44], [17, 18]), (some 46, [45], [19]), (some 47, [46], [20]), (some 48, [47], [21, 12]), (some 49, [42, 48], [16, 22]), (some 50, [40, 49], [14, 23]), (some 51, [26, 32, 39, 50], [0, 6, 13, 24]), (some 6, [], []), (none, [6, 51], [26, 25, 22, 0, 1, 2, 3, 4, 5, 6, 7, 8, 9, 10, 11, 12, 13, 14, 15, 16, 17, 18, 19, 20, 21, 22, 23, 24, 25, 26])] (fun w' => Ext w0 w') (by kernel_rfl) (by kernel_rfl) (by kernel_rfl) (by kernel_rfl) ((calm_then (calm_block (calm_then (calm_then (calm_block (calm_then calm_body))))))) (Ext.drew e0) (fun ops Q X10 hb hL hR hK => ?_)
        replace e0 := e0.trans hb
        replace hE := hE.trans hb
        replace hX8 := hX8.trans hb
        have hs11 := hb.size
        clear hb
        refine wd_take 0 (.int .i64 (((i : Nat) : Int) : Int)) hR rfl (by kernel_rfl) rfl (by kernel_rfl) (fun w _ => by kernel_rfl) (e0) ?_
        refine wd_take 1 (.slice (some ⟨b6, o6, none⟩) n c) hR rfl (by kernel_rfl) rfl (by kernel_rfl) (fun w _ => by kernel_rfl) (e0) ?_
        refine wd_take 2 (.int .i64 (((i : Nat) : Int) : Int)) hR rfl (by kernel_rfl) rfl (by kernel_rfl) (fun w _ => by kernel_rfl) (e0) ?_
        refine wd_take 3 (.pointer (some ⟨b6, o6 + i * 6, none⟩)) hR rfl (by kernel_rfl) rfl (by kernel_rfl) (fun w _ => ex_index (p := .slice (some ⟨b6, o6, none⟩) n c) (i := .int .i64 ((i : Nat) : Int)) rfl (by kernel_rfl) (by kernel_rfl) (ix52 (k := i) (by omega))) (e0) ?_
        refine wd_take 4 (.pointer (some ⟨b6, o6 + i * 6 + 1, none⟩)) hR rfl (by kernel_rfl) rfl (by kernel_rfl) (fun w _ => by kernel_rfl) (e0) ?_
        refine wd_take 5 (.int .i64 (q i 1 : Int)) hR rfl (by kernel_rfl) rfl (by kernel_rfl) (fun w hS => ex_load rfl (by kernel_rfl) (ld3 (hS.cell q1))) (e0) ?_
        refine wd_take 7 (.slice (some ⟨b6, o6, none⟩) n c) hR rfl (by kernel_rfl) rfl (by kernel_rfl) (fun w _ => by kernel_rfl) (e0) ?_
        refine wd_take 8 (.int .i64 (((i : Nat) : Int) : Int)) hR rfl (by kernel_rfl) rfl (by kernel_rfl) (fun w _ => by kernel_rfl) (e0) ?_
        refine wd_take 9 (.pointer (some ⟨b6, o6 + i * 6, none⟩)) hR rfl (by kernel_rfl) rfl (by kernel_rfl) (fun w _ => ex_index (p := .slice (some ⟨b6, o6, none⟩) n c) (i := .int .i64 ((i : Nat) : Int)) rfl (by kernel_rfl) (by kernel_rfl) (ix52 (k := i) (by omega))) (e0) ?_
        refine wd_take 10 (.pointer (some ⟨b6, o6 + i * 6 + 2, none⟩)) hR rfl (by kernel_rfl) rfl (by kernel_rfl) (fun w _ => by kernel_rfl) (e0) ?_
        refine wd_take 11 (.int .i64 (q i 2 : Int)) hR rfl (by kernel_rfl) rfl (by kernel_rfl) (fun w hS => ex_load rfl (by kernel_rfl) (ld3 (hS.cell q2))) (e0) ?_
        refine wd_take 14 (.int .i64 (p9 : Int)) hR rfl (by kernel_rfl) rfl (by kernel_rfl) (fun w _ => by kernel_rfl) (e0) ?_
        refine wd_take 15 (.int .i64 (p9 : Int)) hR rfl (by kernel_rfl) rfl (by kernel_rfl) (fun w _ => by kernel_rfl) (e0) ?_
        refine wd_take 16 (.int .i64 (p9 + 1 : Int)) hR rfl (by kernel_rfl) rfl (by kernel_rfl) (fun w _ => ev_wrap (by kernel_rfl) (by omega) (by omega)) (e0) ?_
        refine wd_take 17 (.slice (some ⟨b6, o6, none⟩) n c) hR rfl (by kernel_rfl) rfl (by kernel_rfl) (fun w _ => by kernel_rfl) (e0) ?_
        refine wd_take 18 (.int .i64 (((i : Nat) : Int) : Int)) hR rfl (by kernel_rfl) rfl (by kernel_rfl) (fun w _ => by kernel_rfl) (e0) ?_
        refine wd_take 19 (.pointer (some ⟨b6, o6 + i * 6, none⟩)) hR rfl (by kernel_rfl) rfl (by kernel_rfl) (fun w _ => ex_index (p := .slice (some ⟨b6, o6, none⟩) n c) (i := .int .i64 ((i : Nat) : Int)) rfl (by kernel_rfl) (by kernel_rfl) (ix52 (k := i) (by omega))) (e0) ?_
        refine wd_take 20 (.pointer (some ⟨b6, o6 + i * 6 + 1, none⟩)) hR rfl (by kernel_rfl) rfl (by kernel_rfl) (fun w _ => by kernel_rfl) (e0) ?_
        refine wd_take 21 (.int .i64 (q i 1 : Int)) hR rfl (by kernel_rfl) rfl (by kernel_rfl) (fun w hS => ex_load rfl (by kernel_rfl) (ld3 (hS.cell q1))) (e0) ?_
        refine wd_two 6 26 hR rfl rfl (by kernel_rfl) (by kernel_rfl) (by kernel_rfl) (by kernel_rfl) ?_ ?_
        ·
          refine sn_call (f := 32) (args := #[.int .i64 (q i 1 : Int), .int .i64 4]) (by kernel_rfl) ((rpickv_c (q i 1) 4 _ (hq 1 (by omega)) (by omega) (by omega)).mono ?_)
          rintro e w' ⟨p12, rfl, hp12, rfl⟩
          refine ⟨_, rfl, e0, ?_⟩
          refine wd_two 12 26 hR rfl rfl (by kernel_rfl) (by kernel_rfl) (by kernel_rfl) (by kernel_rfl) ?_ ?_
          ·
            refine sn_call (f := 32) (args := #[.int .i64 (q i 2 : Int), .int .i64 60]) (by kernel_rfl) ((rpickv_c (q i 2) 60 _ (hq 2 (by omega)) (by omega) (by omega)).mono ?_)
            rintro e w' ⟨p13, rfl, hp13, rfl⟩
            refine ⟨_, rfl, e0, ?_⟩
            refine wd_take 13 (.int .i64 (1 + p13 : Int)) hR rfl (by kernel_rfl) rfl (by kernel_rfl) (fun w _ => ev_wrap (by kernel_rfl) (by omega) (by omega)) (e0) ?_
            refine wd_two 22 26 hR rfl rfl (by kernel_rfl) (by kernel_rfl) (by kernel_rfl) (by kernel_rfl) ?_ ?_
            ·
              refine sn_call (f := 32) (args := #[.int .i64 (q i 1 : Int), .int .i64 20]) (by kernel_rfl) ((rpickv_c (q i 1) 20 _ (hq 1 (by omega)) (by omega) (by omega)).mono ?_)
              rintro e w' ⟨p14, rfl, hp14, rfl⟩
              refine ⟨_, rfl, e0, ?_⟩
              refine wd_take 23 (.int .i64 ((p9 + 1) + p14 : Int)) hR rfl (by kernel_rfl) rfl (by kernel_rfl) (fun w _ => ev_wrap (by kernel_rfl) (by omega) (by omega)) (e0) ?_
              refine wd_take 24 (.agg #[.int .i64 (p9 : Int), .int .i64 ((p9 + 1) + p14 : Int)]) hR rfl (by kernel_rfl) rfl (by kernel_rfl) (fun w _ => by kernel_rfl) (e0) ?_
              refine wd_take 25 (.agg #[.int .i64 (((i : Nat) : Int) : Int), .int .i64 (p12 : Int), .int .i64 0, .int .i64 0, .int .i64 (p9 : Int), .int .i64 ((p9 + 1) + p14 : Int), .int .i64 0, .int .i64 (1 + p13 : Int), .slice none 0 0]) hR rfl (by kernel_rfl) rfl (by kernel_rfl) (fun w _ => by kernel_rfl) (e0) ?_
              refine wd_step 26 hR rfl (by kernel_rfl) (by kernel_rfl) (by kernel_rfl) (sn_new (us := #[.int .i64 0, .int .i64 0, .int .i64 0, .int .i64 0, .int .i64 0, .int .i64 0, .int .i64 0, .int .i64 0, .slice none 0 0]) (t := 31) (by kernel_rfl) ?_)
              intro O15 X16 hO hOs hb hbx
              have hzO15 := hO; have hyO15 := hOs; clear hO hOs
              have bO15_0 : BoxAt X16 O15 0 (.int .i64 0) := hbx 0 _ rfl
              have bO15_1 : BoxAt X16 O15 1 (.int .i64 0) := hbx 1 _ rfl
              have bO15_2 : BoxAt X16 O15 2 (.int .i64 0) := hbx 2 _ rfl
              have bO15_3 : BoxAt X16 O15 3 (.int .i64 0) := hbx 3 _ rfl
              have bO15_4 : BoxAt X16 O15 4 (.int .i64 0) := hbx 4 _ rfl
              have bO15_5 : BoxAt X16 O15 5 (.int .i64 0) := hbx 5 _ rfl
              have bO15_6 : BoxAt X16 O15 6 (.int .i64 0) := hbx 6 _ rfl
              have bO15_7 : BoxAt X16 O15 7 (.int .i64 0) := hbx 7 _ rfl
              have bO15_8 : BoxAt X16 O15 8 (.slice none 0 0) := hbx 8 _ rfl
              clear hbx
              replace e0 := e0.trans hb
              replace hE := hE.trans hb
              replace hX8 := hX8.trans hb
              have hs17 := hb.size
              clear hb
              have lt18 := bO15_0.lt
              refine ⟨e0, ?_⟩
              refine wd_step 27 hR rfl (by kernel_rfl) (by kernel_rfl) (by kernel_rfl) (sn_setK9 (O := O15) (j := 0) (v0 := .int .i64 (((i : Nat) : Int) : Int)) (v1 := .int .i64 (p12 : Int)) (v2 := .int .i64 0) (v3 := .int .i64 0) (v4 := .int .i64 (p9 : Int)) (v5 := .int .i64 ((p9 + 1) + p14 : Int)) (v6 := .int .i64 0) (v7 := .int .i64 (1 + p13 : Int)) (v8 := .slice none 0 0) (ex_store (p := .pointer (some ⟨O15, 0, none⟩)) (v := .agg #[.int .i64 (((i : Nat) : Int) : Int), .int .i64 (p12 : Int), .int .i64 0, .int .i64 0, .int .i64 (p9 : Int), .int .i64 ((p9 + 1) + p14 : Int), .int .i64 0, .int .i64 (1 + p13 : Int), .slice none 0 0]) rfl (by kernel_rfl) (by kernel_rfl) (st31 bO15_0.1 bO15_0.2 bO15_1.1 bO15_1.2 bO15_2.1 bO15_2.2 bO15_3.1 bO15_3.2 bO15_4.1 bO15_4.2 bO15_5.1 bO15_5.2 bO15_6.1 bO15_6.2 bO15_7.1 bO15_7.2 bO15_8.1 bO15_8.2)) bO15_0 bO15_1 bO15_2 bO15_3 bO15_4 bO15_5 bO15_6 bO15_7 bO15_8 ?_)
              intro X19 ho hv0 hv1 hv2 hv3 hv4 hv5 hv6 hv7 hv8 hk
              replace e0 := ho.ext e0 (Nat.le_trans (Nat.le_trans hs0 (Nat.le_trans hs5 hs11)) (Nat.le_of_eq hzO15))
              replace hE := ho.ext hE (Nat.le_trans (Nat.le_trans hs5 hs11) (Nat.le_of_eq hzO15))
              replace hX8 := ho.ext hX8 (Nat.le_trans hs11 (Nat.le_of_eq hzO15))
              have hs20 : X16.heap.size ≤ X19.heap.size := Nat.le_of_eq ho.size.symm
              clear ho hk bO15_0 bO15_1 bO15_2 bO15_3 bO15_4 bO15_5 bO15_6 bO15_7 bO15_8
              have bO15_0 := hv0; clear hv0
              have bO15_1 := hv1; clear hv1
              have bO15_2 := hv2; clear hv2
              have bO15_3 := hv3; clear hv3
              have bO15_4 := hv4; clear hv4
              have bO15_5 := hv5; clear hv5
              have bO15_6 := hv6; clear hv6
              have bO15_7 := hv7; clear hv7
              have bO15_8 := hv8; clear hv8
              refine ⟨e0, ?_⟩
              refine wd_end hL hR hK (by kernel_rfl) ?_
              exact qw_leaf hJ [0, 3, 4, 6] (ws' := [(0, .slice (some ⟨b6, o6, none⟩) n c), (3, .slice a9 i c9), (4, .int .i64 (((i : Nat) : Int) : Int)), (6, .pointer (some ⟨O15, 0, none⟩))]) (by kernel_rfl) ⟨p12, p13, p14, O15, rfl, e0, hE, hX8, hp12, hp13, hp14, bO15_0, bO15_1, bO15_2, bO15_3, bO15_4, bO15_5, bO15_6, bO15_7, bO15_8, (Nat.le_trans hs11 (Nat.le_trans hs17 hs20)), (Nat.le_trans hs11 (Nat.le_of_eq hzO15))⟩
            ·
              refine sn_new (us := #[.int .i64 0, .int .i64 0, .int .i64 0, .int .i64 0, .int .i64 0, .int .i64 0, .int .i64 0, .int .i64 0, .slice none 0 0]) (t := 31) (by kernel_rfl) ?_
              intro O21 X22 hO hOs hb hbx
              have hzO21 := hO; have hyO21 := hOs; clear hO hOs
              have bO21_0 : BoxAt X22 O21 0 (.int .i64 0) := hbx 0 _ rfl
              have bO21_1 : BoxAt X22 O21 1 (.int .i64 0) := hbx 1 _ rfl
              have bO21_2 : BoxAt X22 O21 2 (.int .i64 0) := hbx 2 _ rfl
              have bO21_3 : BoxAt X22 O21 3 (.int .i64 0) := hbx 3 _ rfl
              have bO21_4 : BoxAt X22 O21 4 (.int .i64 0) := hbx 4 _ rfl
              have bO21_5 : BoxAt X22 O21 5 (.int .i64 0) := hbx 5 _ rfl
              have bO21_6 : BoxAt X22 O21 6 (.int .i64 0) := hbx 6 _ rfl
              have bO21_7 : BoxAt X22 O21 7 (.int .i64 0) := hbx 7 _ rfl
              have bO21_8 : BoxAt X22 O21 8 (.slice none 0 0) := hbx 8 _ rfl
              clear hbx
              replace e0 := e0.trans hb
              replace hE := hE.trans hb
              replace hX8 := hX8.trans hb
              have hs23 := hb.size
              clear hb
              have lt24 := bO21_0.lt
              refine ⟨e0, ?_⟩
              refine wd_step 22 hR rfl (by kernel_rfl) (by kernel_rfl) (by kernel_rfl) (sn_call (f := 32) (args := #[.int .i64 (q i 1 : Int), .int .i64 20]) (by kernel_rfl) ((rpickv_c (q i 1) 20 _ (hq 1 (by omega)) (by omega) (by omega)).mono ?_))
              rintro e w' ⟨p25, rfl, hp25, rfl⟩
              refine ⟨_, rfl, e0, ?_⟩
              refine wd_take 23 (.int .i64 ((p9 + 1) + p25 : Int)) hR rfl (by kernel_rfl) rfl (by kernel_rfl) (fun w _ => ev_wrap (by kernel_rfl) (by omega) (by omega)) (e0) ?_
              refine wd_take 24 (.agg #[.int .i64 (p9 : Int), .int .i64 ((p9 + 1) + p25 : Int)]) hR rfl (by kernel_rfl) rfl (by kernel_rfl) (fun w _ => by kernel_rfl) (e0) ?_
              refine wd_take 25 (.agg #[.int .i64 (((i : Nat) : Int) : Int), .int .i64 (p12 : Int), .int .i64 0, .int .i64 0, .int .i64 (p9 : Int), .int .i64 ((p9 + 1) + p25 : Int), .int .i64 0, .int .i64 (1 + p13 : Int), .slice none 0 0]) hR rfl (by kernel_rfl) rfl (by kernel_rfl) (fun w _ => by kernel_rfl) (e0) ?_
              refine wd_step 27 hR rfl (by kernel_rfl) (by kernel_rfl) (by kernel_rfl) (sn_setK9 (O := O21) (j := 0) (v0 := .int .i64 (((i : Nat) : Int) : Int)) (v1 := .int .i64 (p12 : Int)) (v2 := .int .i64 0) (v3 := .int .i64 0) (v4 := .int .i64 (p9 : Int)) (v5 := .int .i64 ((p9 + 1) + p25 : Int)) (v6 := .int .i64 0) (v7 := .int .i64 (1 + p13 : Int)) (v8 := .slice none 0 0) (ex_store (p := .pointer (some ⟨O21, 0, none⟩)) (v := .agg #[.int .i64 (((i : Nat) : Int) : Int), .int .i64 (p12 : Int), .int .i64 0, .int .i64 0, .int .i64 (p9 : Int), .int .i64 ((p9 + 1) + p25 : Int), .int .i64 0, .int .i64 (1 + p13 : Int), .slice none 0 0]) rfl (by kernel_rfl) (by kernel_rfl) (st31 bO21_0.1 bO21_0.2 bO21_1.1 bO21_1.2 bO21_2.1 bO21_2.2 bO21_3.1 bO21_3.2 bO21_4.1 bO21_4.2 bO21_5.1 bO21_5.2 bO21_6.1 bO21_6.2 bO21_7.1 bO21_7.2 bO21_8.1 bO21_8.2)) bO21_0 bO21_1 bO21_2 bO21_3 bO21_4 bO21_5 bO21_6 bO21_7 bO21_8 ?_)
              intro X26 ho hv0 hv1 hv2 hv3 hv4 hv5 hv6 hv7 hv8 hk
              replace e0 := ho.ext e0 (Nat.le_trans (Nat.le_trans hs0 (Nat.le_trans hs5 hs11)) (Nat.le_of_eq hzO21))
              replace hE := ho.ext hE (Nat.le_trans (Nat.le_trans hs5 hs11) (Nat.le_of_eq hzO21))
              replace hX8 := ho.ext hX8 (Nat.le_trans hs11 (Nat.le_of_eq hzO21))
              have hs27 : X22.heap.size ≤ X26.heap.size := Nat.le_of_eq ho.size.symm
              clear ho hk bO21_0 bO21_1 bO21_2 bO21_3 bO21_4 bO21_5 bO21_6 bO21_7 bO21_8
              have bO21_0 := hv0; clear hv0
              have bO21_1 := hv1; clear hv1
              have bO21_2 := hv2; clear hv2
              have bO21_3 := hv3; clear hv3
              have bO21_4 := hv4; clear hv4
              have bO21_5 := hv5; clear hv5
              have bO21_6 := hv6; clear hv6
              have bO21_7 := hv7; clear hv7
              have bO21_8 := hv8; clear hv8
              refine ⟨e0, ?_⟩
              refine wd_end hL hR hK (by kernel_rfl) ?_
              exact qw_leaf hJ [0, 3, 4, 6] (ws' := [(0, .slice (some ⟨b6, o6, none⟩) n c), (3, .slice a9 i c9), (4, .int .i64 (((i : Nat) : Int) : Int)), (6, .pointer (some ⟨O21, 0, none⟩))]) (by kernel_rfl) ⟨p12, p13, p25, O21, rfl, e0, hE, hX8, hp12, hp13, hp25, bO21_0, bO21_1, bO21_2, bO21_3, bO21_4, bO21_5, bO21_6, bO21_7, bO21_8, (Nat.le_trans hs11 (Nat.le_trans hs23 hs27)), (Nat.le_trans hs11 (Nat.le_of_eq hzO21))⟩
          ·
            refine sn_new (us := #[.int .i64 0, .int .i64 0, .int .i64 0, .int .i64 0, .int .i64 0, .int .i64 0, .int .i64 0, .int .i64 0, .slice none 0 0]) (t := 31) (by kernel_rfl) ?_
            intro O28 X29 hO hOs hb hbx
            have hzO28 := hO; have hyO28 := hOs; clear hO hOs
            have bO28_0 : BoxAt X29 O28 0 (.int .i64 0) := hbx 0 _ rfl
            have bO28_1 : BoxAt X29 O28 1 (.int .i64 0) := hbx 1 _ rfl
            have bO28_2 : BoxAt X29 O28 2 (.int .i64 0) := hbx 2 _ rfl
            have bO28_3 : BoxAt X29 O28 3 (.int .i64 0) := hbx 3 _ rfl
            have bO28_4 : BoxAt X29 O28 4 (.int .i64 0) := hbx 4 _ rfl
            have bO28_5 : BoxAt X29 O28 5 (.int .i64 0) := hbx 5 _ rfl
            have bO28_6 : BoxAt X29 O28 6 (.int .i64 0) := hbx 6 _ rfl
            have bO28_7 : BoxAt X29 O28 7 (.int .i64 0) := hbx 7 _ rfl
            have bO28_8 : BoxAt X29 O28 8 (.slice none 0 0) := hbx 8 _ rfl
            clear hbx
            replace e0 := e0.trans hb
            replace hE := hE.trans hb
            replace hX8 := hX8.trans hb
            have hs30 := hb.size
            clear hb
            have lt31 := bO28_0.lt
            refine ⟨e0, ?_⟩
            refine wd_step 12 hR rfl (by kernel_rfl) (by kernel_rfl) (by kernel_rfl) (sn_call (f := 32) (args := #[.int .i64 (q i 2 : Int), .int .i64 60]) (by kernel_rfl) ((rpickv_c (q i 2) 60 _ (hq 2 (by omega)) (by omega) (by omega)).mono ?_))
            rintro e w' ⟨p32, rfl, hp32, rfl⟩
            refine ⟨_, rfl, e0, ?_⟩
            refine wd_take 13 (.int .i64 (1 + p32 : Int)) hR rfl (by kernel_rfl) rfl (by kernel_rfl) (fun w _ => ev_wrap (by kernel_rfl) (by omega) (by omega)) (e0) ?_
            refine wd_step 22 hR rfl (by kernel_rfl) (by kernel_rfl) (by kernel_rfl) (sn_call (f := 32) (args := #[.int .i64 (q i 1 : Int), .int .i64 20]) (by kernel_rfl) ((rpickv_c (q i 1) 20 _ (hq 1 (by omega)) (by omega) (by omega)).mono ?_))
            rintro e w' ⟨p33, rfl, hp33, rfl⟩
            refine ⟨_, rfl, e0, ?_⟩
            refine wd_take 23 (.int .i64 ((p9 + 1) + p33 : Int)) hR rfl (by kernel_rfl) rfl (by kernel_rfl) (fun w _ => ev_wrap (by kernel_rfl) (by omega) (by omega)) (e0) ?_
            refine wd_take 24 (.agg #[.int .i64 (p9 : Int), .int .i64 ((p9 + 1) + p33 : Int)]) hR rfl (by kernel_rfl) rfl (by kernel_rfl) (fun w _ => by kernel_rfl) (e0) ?_
            refine wd_take 25 (.agg #[.int .i64 (((i : Nat) : Int) : Int), .int .i64 (p12 : Int), .int .i64 0, .int .i64 0, .int .i64 (p9 : Int), .int .i64 ((p9 + 1) + p33 : Int), .int .i64 0, .int .i64 (1 + p32 : Int), .slice none 0 0]) hR rfl (by kernel_rfl) rfl (by kernel_rfl) (fun w _ => by kernel_rfl) (e0) ?_
            refine wd_step 27 hR rfl (by kernel_rfl) (by kernel_rfl) (by kernel_rfl) (sn_setK9 (O := O28) (j := 0) (v0 := .int .i64 (((i : Nat) : Int) : Int)) (v1 := .int .i64 (p12 : Int)) (v2 := .int .i64 0) (v3 := .int .i64 0) (v4 := .int .i64 (p9 : Int)) (v5 := .int .i64 ((p9 + 1) + p33 : Int)) (v6 := .int .i64 0) (v7 := .int .i64 (1 + p32 : Int)) (v8 := .slice none 0 0) (ex_store (p := .pointer (some ⟨O28, 0, none⟩)) (v := .agg #[.int .i64 (((i : Nat) : Int) : Int), .int .i64 (p12 : Int), .int .i64 0, .int .i64 0, .int .i64 (p9 : Int), .int .i64 ((p9 + 1) + p33 : Int), .int .i64 0, .int .i64 (1 + p32 : Int), .slice none 0 0]) rfl (by kernel_rfl) (by kernel_rfl) (st31 bO28_0.1 bO28_0.2 bO28_1.1 bO28_1.2 bO28_2.1 bO28_2.2 bO28_3.1 bO28_3.2 bO28_4.1 bO28_4.2 bO28_5.1 bO28_5.2 bO28_6.1 bO28_6.2 bO28_7.1 bO28_7.2 bO28_8.1 bO28_8.2)) bO28_0 bO28_1 bO28_2 bO28_3 bO28_4 bO28_5 bO28_6 bO28_7 bO28_8 ?_)
            intro X34 ho hv0 hv1 hv2 hv3 hv4 hv5 hv6 hv7 hv8 hk
            replace e0 := ho.ext e0 (Nat.le_trans (Nat.le_trans hs0 (Nat.le_trans hs5 hs11)) (Nat.le_of_eq hzO28))
            replace hE := ho.ext hE (Nat.le_trans (Nat.le_trans hs5 hs11) (Nat.le_of_eq hzO28))
            replace hX8 := ho.ext hX8 (Nat.le_trans hs11 (Nat.le_of_eq hzO28))
            have hs35 : X29.heap.size ≤ X34.heap.size := Nat.le_of_eq ho.size.symm
            clear ho hk bO28_0 bO28_1 bO28_2 bO28_3 bO28_4 bO28_5 bO28_6 bO28_7 bO28_8
            have bO28_0 := hv0; clear hv0
            have bO28_1 := hv1; clear hv1
            have bO28_2 := hv2; clear hv2
            have bO28_3 := hv3; clear hv3
            have bO28_4 := hv4; clear hv4
            have bO28_5 := hv5; clear hv5
            have bO28_6 := hv6; clear hv6
            have bO28_7 := hv7; clear hv7
            have bO28_8 := hv8; clear hv8
            refine ⟨e0, ?_⟩
            refine wd_end hL hR hK (by kernel_rfl) ?_
            exact qw_leaf hJ [0, 3, 4, 6] (ws' := [(0, .slice (some ⟨b6, o6, none⟩) n c), (3, .slice a9 i c9), (4, .int .i64 (((i : Nat) : Int) : Int)), (6, .pointer (some ⟨O28, 0, none⟩))]) (by kernel_rfl) ⟨p12, p32, p33, O28, rfl, e0, hE, hX8, hp12, hp32, hp33, bO28_0, bO28_1, bO28_2, bO28_3, bO28_4, bO28_5, bO28_6, bO28_7, bO28_8, (Nat.le_trans hs11 (Nat.le_trans hs30 hs35)), (Nat.le_trans hs11 (Nat.le_of_eq hzO28))⟩
        ·
          refine sn_new (us := #[.int .i64 0, .int .i64 0, .int .i64 0, .int .i64 0, .int .i64 0, .int .i64 0, .int .i64 0, .int .i64 0, .slice none 0 0]) (t := 31) (by kernel_rfl) ?_
          intro O36 X37 hO hOs hb hbx
          have hzO36 := hO; have hyO36 := hOs; clear hO hOs
          have bO36_0 : BoxAt X37 O36 0 (.int .i64 0) := hbx 0 _ rfl
          have bO36_1 : BoxAt X37 O36 1 (.int .i64 0) := hbx 1 _ rfl
          have bO36_2 : BoxAt X37 O36 2 (.int .i64 0) := hbx 2 _ rfl
          have bO36_3 : BoxAt X37 O36 3 (.int .i64 0) := hbx 3 _ rfl
          have bO36_4 : BoxAt X37 O36 4 (.int .i64 0) := hbx 4 _ rfl
          have bO36_5 : BoxAt X37 O36 5 (.int .i64 0) := hbx 5 _ rfl
          have bO36_6 : BoxAt X37 O36 6 (.int .i64 0) := hbx 6 _ rfl
          have bO36_7 : BoxAt X37 O36 7 (.int .i64 0) := hbx 7 _ rfl
          have bO36_8 : BoxAt X37 O36 8 (.slice none 0 0) := hbx 8 _ rfl
          clear hbx
          replace e0 := e0.trans hb
          replace hE := hE.trans hb
          replace hX8 := hX8.trans hb
          have hs38 := hb.size
          clear hb
          have lt39 := bO36_0.lt
          refine ⟨e0, ?_⟩
          refine wd_step 6 hR rfl (by kernel_rfl) (by kernel_rfl) (by kernel_rfl) (sn_call (f := 32) (args := #[.int .i64 (q i 1 : Int), .int .i64 4]) (by kernel_rfl) ((rpickv_c (q i 1) 4 _ (hq 1 (by omega)) (by omega) (by omega)).mono ?_))
          rintro e w' ⟨p40, rfl, hp40, rfl⟩
          refine ⟨_, rfl, e0, ?_⟩
          refine wd_step 12 hR rfl (by kernel_rfl) (by kernel_rfl) (by kernel_rfl) (sn_call (f := 32) (args := #[.int .i64 (q i 2 : Int), .int .i64 60]) (by kernel_rfl) ((rpickv_c (q i 2) 60 _ (hq 2 (by omega)) (by omega) (by omega)).mono ?_))
          rintro e w' ⟨p41, rfl, hp41, rfl⟩
          refine ⟨_, rfl, e0, ?_⟩
          refine wd_take 13 (.int .i64 (1 + p41 : Int)) hR rfl (by kernel_rfl) rfl (by kernel_rfl) (fun w _ => ev_wrap (by kernel_rfl) (by omega) (by omega)) (e0) ?_
          refine wd_step 22 hR rfl (by kernel_rfl) (by kernel_rfl) (by kernel_rfl) (sn_call (f := 32) (args := #[.int .i64 (q i 1 : Int), .int .i64 20]) (by kernel_rfl) ((rpickv_c (q i 1) 20 _ (hq 1 (by omega)) (by omega) (by omega)).mono ?_))
          rintro e w' ⟨p42, rfl, hp42, rfl⟩
          refine ⟨_, rfl, e0, ?_⟩
          refine wd_take 23 (.int .i64 ((p9 + 1) + p42 : Int)) hR rfl (by kernel_rfl) rfl (by kernel_rfl) (fun w _ => ev_wrap (by kernel_rfl) (by omega) (by omega)) (e0) ?_
          refine wd_take 24 (.agg #[.int .i64 (p9 : Int), .int .i64 ((p9 + 1) + p42 : Int)]) hR rfl (by kernel_rfl) rfl (by kernel_rfl) (fun w _ => by kernel_rfl) (e0) ?_
          refine wd_take 25 (.agg #[.int .i64 (((i : Nat) : Int) : Int), .int .i64 (p40 : Int), .int .i64 0, .int .i64 0, .int .i64 (p9 : Int), .int .i64 ((p9 + 1) + p42 : Int), .int .i64 0, .int .i64 (1 + p41 : Int), .slice none 0 0]) hR rfl (by kernel_rfl) rfl (by kernel_rfl) (fun w _ => by kernel_rfl) (e0) ?_
          refine wd_step 27 hR rfl (by kernel_rfl) (by kernel_rfl) (by kernel_rfl) (sn_setK9 (O := O36) (j := 0) (v0 := .int .i64 (((i : Nat) : Int) : Int)) (v1 := .int .i64 (p40 : Int)) (v2 := .int .i64 0) (v3 := .int .i64 0) (v4 := .int .i64 (p9 : Int)) (v5 := .int .i64 ((p9 + 1) + p42 : Int)) (v6 := .int .i64 0) (v7 := .int .i64 (1 + p41 : Int)) (v8 := .slice none 0 0) (ex_store (p := .pointer (some ⟨O36, 0, none⟩)) (v := .agg #[.int .i64 (((i : Nat) : Int) : Int), .int .i64 (p40 : Int), .int .i64 0, .int .i64 0, .int .i64 (p9 : Int), .int .i64 ((p9 + 1) + p42 : Int), .int .i64 0, .int .i64 (1 + p41 : Int), .slice none 0 0]) rfl (by kernel_rfl) (by kernel_rfl) (st31 bO36_0.1 bO36_0.2 bO36_1.1 bO36_1.2 bO36_2.1 bO36_2.2 bO36_3.1 bO36_3.2 bO36_4.1 bO36_4.2 bO36_5.1 bO36_5.2 bO36_6.1 bO36_6.2 bO36_7.1 bO36_7.2 bO36_8.1 bO36_8.2)) bO36_0 bO36_1 bO36_2 bO36_3 bO36_4 bO36_5 bO36_6 bO36_7 bO36_8 ?_)
          intro X43 ho hv0 hv1 hv2 hv3 hv4 hv5 hv6 hv7 hv8 hk
          replace e0 := ho.ext e0 (Nat.le_trans (Nat.le_trans hs0 (Nat.le_trans hs5 hs11)) (Nat.le_of_eq hzO36))
          replace hE := ho.ext hE (Nat.le_trans (Nat.le_trans hs5 hs11) (Nat.le_of_eq hzO36))
          replace hX8 := ho.ext hX8 (Nat.le_trans hs11 (Nat.le_of_eq hzO36))
          have hs44 : X37.heap.size ≤ X43.heap.size := Nat.le_of_eq ho.size.symm
          clear ho hk bO36_0 bO36_1 bO36_2 bO36_3 bO36_4 bO36_5 bO36_6 bO36_7 bO36_8
          have bO36_0 := hv0; clear hv0
          have bO36_1 := hv1; clear hv1
          have bO36_2 := hv2; clear hv2
          have bO36_3 := hv3; clear hv3
          have bO36_4 := hv4; clear hv4
          have bO36_5 := hv5; clear hv5
          have bO36_6 := hv6; clear hv6
          have bO36_7 := hv7; clear hv7
          have bO36_8 := hv8; clear hv8
          refine ⟨e0, ?_⟩
          refine wd_end hL hR hK (by kernel_rfl) ?_
          exact qw_leaf hJ [0, 3, 4, 6] (ws' := [(0, .slice (some ⟨b6, o6, none⟩) n c), (3, .slice a9 i c9), (4, .int .i64 (((i : Nat) : Int) : Int)), (6, .pointer (some ⟨O36, 0, none⟩))]) (by kernel_rfl) ⟨p40, p41, p42, O36, rfl, e0, hE, hX8, hp40, hp41, hp42, bO36_0, bO36_1, bO36_2, bO36_3, bO36_4, bO36_5, bO36_6, bO36_7, bO36_8, (Nat.le_trans hs11 (Nat.le_trans hs38 hs44)), (Nat.le_trans hs11 (Nat.le_of_eq hzO36))⟩
      ·
        clear e0 hE hX8
        rintro L ws Y45 ⟨p12, p13, p14, O15, rfl, e0, hE, hX8, hp12, hp13, hp14, bO15_0, bO15_1, bO15_2, bO15_3, bO15_4, bO15_5, bO15_6, bO15_7, bO15_8, hn46, hn47⟩
        have lt48 := bO15_0.lt
        refine qw_then ?_
        refine cw_seq ?_
        refine cw_plain ?_
        refine pT (.pointer (some ⟨O15, 4, none⟩)) ?_
        refine pT (.pointer (some ⟨O15, 5, none⟩)) ?_
        refine pl_take (.int .i64 ((p9 + 1) + p14 : Int)) rfl (by kernel_rfl) (by kernel_rfl) (by kernel_rfl) (ex_load rfl (by kernel_rfl) (ld3 (bO15_5.1))) ?_
        refine pT (.int .i64 ((p9 + 1) + p14 : Int)) ?_
        refine pl_nil ?_
        refine qw_then ?_
        refine cw_seq ?_
        refine cw_seq ?_
        refine cw_plain ?_
        refine pT (.int .i64 0) ?_
        refine pl_nil ?_
        refine qw_then ?_
        refine cw_block ?_
        refine cw_loop [0, 3, 4, 6, 7, 8] (fun ws' wr m => ∃ k : Nat, ∃ e7 : Int, ∃ sl : List Mem.Slt, ∃ aq : Option Addr, ∃ cq : Nat, ws' = [(0, .slice (some ⟨b6, o6, none⟩) n c), (3, .slice a9 i c9), (4, .int .i64 (((i : Nat) : Int) : Int)), (6, .pointer (some ⟨O15, 0, none⟩)), (7, .int .i64 (e7 : Int)), (8, .int .i64 (((k : Nat) : Int) : Int))] ∧ m = 4 - k ∧ Y45.heap.size ≤ wr.heap.size ∧ Ext w0 wr ∧ Ext w wr ∧ Ext w6 wr ∧ BoxAt wr O15 0 (.int .i64 (((i : Nat) : Int) : Int)) ∧ BoxAt wr O15 1 (.int .i64 (p12 : Int)) ∧ BoxAt wr O15 2 (.int .i64 0) ∧ BoxAt wr O15 3 (.int .i64 0) ∧ BoxAt wr O15 4 (.int .i64 (p9 : Int)) ∧ BoxAt wr O15 5 (.int .i64 ((p9 + 1) + p14 : Int)) ∧ BoxAt wr O15 6 (.int .i64 0) ∧ BoxAt wr O15 7 (.int .i64 (1 + p13 : Int)) ∧ BoxAt wr O15 8 (.slice aq k cq) ∧ OwnL slR Y45.heap.size 61 3 (.slice aq k cq) wr sl ∧ sl.length = k ∧ Mem.chainB ((p9 + 1) + p14) sl = true ∧ Mem.lastTo ((p9 + 1) + p14) sl = e7 ∧ (0 ≤ e7 ∧ e7 ≤ 219 + 69 * (k : Int)) ∧ k ≤ 4) (ws0 := [(0, .slice (some ⟨b6, o6, none⟩) n c), (3, .slice a9 i c9), (4, .int .i64 (((i : Nat) : Int) : Int)), (6, .pointer (some ⟨O15, 0, none⟩)), (7, .int .i64 ((p9 + 1) + p14 : Int)), (8, .int .i64 0)]) (by kernel_rfl) _ ⟨0, (p9 + 1) + p14, [], none, 0, rfl, rfl, Nat.le_refl _, e0, hE, hX8, bO15_0, bO15_1, bO15_2, bO15_3, bO15_4, bO15_5, bO15_6, bO15_7, bO15_8, OwnL.nil _ _ _ _ _, rfl, rfl, rfl, by omega, Nat.zero_le _⟩ ?_
        clear bO15_0 bO15_1 bO15_2 bO15_3 bO15_4 bO15_5 bO15_6 bO15_7 bO15_8 e0 hE hX8
        rintro m51 L ws w50 ⟨k, e7, sl, aq, cq, rfl, rfl, hs49, e0, hE, hX8, bO15_0, bO15_1, bO15_2, bO15_3, bO15_4, bO15_5, bO15_6, bO15_7, b88, own8, hsl, hch, hla, he7, hk4⟩
        have hbk8 := own8.lt
        refine cw_seq ?_
        refine cw_seq ?_
        refine cw_plain ?_
        refine pT (.int .i64 (((k : Nat) : Int) : Int)) ?_
        refine pT (.slice (some ⟨b6, o6, none⟩) n c) ?_
        refine pT (.int .i64 (((i : Nat) : Int) : Int)) ?_
        refine pl_take (.pointer (some ⟨b6, o6 + i * 6, none⟩)) rfl (by kernel_rfl) (by kernel_rfl) (by kernel_rfl) (ex_index (p := .slice (some ⟨b6, o6, none⟩) n c) (i := .int .i64 ((i : Nat) : Int)) rfl (by kernel_rfl) (by kernel_rfl) (ix52 (k := i) (by omega))) ?_
        refine pT (.pointer (some ⟨b6, o6 + i * 6 + 3, none⟩)) ?_
        refine pl_take (.int .i64 (q i 3 : Int)) rfl (by kernel_rfl) (by kernel_rfl) (by kernel_rfl) (ex_load rfl (by kernel_rfl) (ld3 ((e0.cell q3)))) ?_
        refine pl_step rfl (by kernel_rfl) (by kernel_rfl) (by kernel_rfl) (sn_call (f := 32) (args := #[.int .i64 (q i 3 : Int), .int .i64 4]) (by kernel_rfl) ((rpickv_c (q i 3) 4 _ (hq 3 (by omega)) (by omega) (by omega)).mono ?_))
        rintro e w' ⟨p52, rfl, hp52, rfl⟩
        refine ⟨_, rfl, ?_⟩
        by_cases hc53 : (((k : Nat) : Int) : Int) ≤ (p52 : Int)
        ·
          refine pl_take (.bool true) rfl (by kernel_rfl) (by kernel_rfl) (by kernel_rfl) (ev_dec (show _ = Result.ok (Next.value (Value.bool (decide ((((k : Nat) : Int) : Int) ≤ (p52 : Int))))) _ from by kernel_rfl) (hc53)) ?_
          refine pl_nil ?_
          refine qw_then ?_
          refine cw_t (by kernel_rfl) ?_
          refine cw_skip ?_
          refine qw_then ?_
          refine cw_seq ?_
          refine cw_block ?_
          refine cw_seq ?_
          refine cw_plain ?_
          refine pT (.int .i64 (e7 : Int)) ?_
          refine pT (.slice (some ⟨b6, o6, none⟩) n c) ?_
          refine pT (.int .i64 (((i : Nat) : Int) : Int)) ?_
          refine pl_take (.pointer (some ⟨b6, o6 + i * 6, none⟩)) rfl (by kernel_rfl) (by kernel_rfl) (by kernel_rfl) (ex_index (p := .slice (some ⟨b6, o6, none⟩) n c) (i := .int .i64 ((i : Nat) : Int)) rfl (by kernel_rfl) (by kernel_rfl) (ix52 (k := i) (by omega))) ?_
          refine pT (.pointer (some ⟨b6, o6 + i * 6 + 4, none⟩)) ?_
          refine pl_take (.int .i64 (q i 4 : Int)) rfl (by kernel_rfl) (by kernel_rfl) (by kernel_rfl) (ex_load rfl (by kernel_rfl) (ld3 ((e0.cell q4)))) ?_
          refine pT (.int .i64 (((k : Nat) : Int) : Int)) ?_
          refine pl_take (.int .i64 (((11 * k : Nat) : Int) : Int)) rfl (by kernel_rfl) (by kernel_rfl) (by kernel_rfl) (ev_wrap (by kernel_rfl) (by omega) (by omega)) ?_
          refine pl_take (.int .i64 (((1 + (11 * k) : Nat) : Int) : Int)) rfl (by kernel_rfl) (by kernel_rfl) (by kernel_rfl) (ev_wrap (by kernel_rfl) (by omega) (by omega)) ?_
          refine pl_take (.int .i64 ((q i 4 : Int).tdiv (((1 + (11 * k) : Nat) : Int)) : Int)) rfl (by kernel_rfl) (by kernel_rfl) (by kernel_rfl) (ex_bin (a := (q i 4)) (b := (((1 + (11 * k) : Nat) : Int))) rfl (by kernel_rfl) (by kernel_rfl) (bin_tdiv (by omega) (by omega) (by omega))) ?_
          refine pl_step rfl (by kernel_rfl) (by kernel_rfl) (by kernel_rfl) (sn_call (f := 32) (args := #[.int .i64 ((q i 4 : Int).tdiv (((1 + (11 * k) : Nat) : Int)) : Int), .int .i64 60]) (by kernel_rfl) ((rpickv_c ((q i 4 : Int).tdiv (((1 + (11 * k) : Nat) : Int))) 60 _ (quo_isI hi4 (by omega)) (by omega) (by omega)).mono ?_))
          rintro e w' ⟨p54, rfl, hp54, rfl⟩
          refine ⟨_, rfl, ?_⟩
          refine pl_take (.int .i64 (e7 + p54 : Int)) rfl (by kernel_rfl) (by kernel_rfl) (by kernel_rfl) (ev_wrap (by kernel_rfl) (by omega) (by omega)) ?_
          refine pT (.int .i64 (e7 + p54 : Int)) ?_
          refine pl_nil ?_
          refine qw_then ?_
          refine cw_clean [0, 3, 4, 6, 8, 9] (ws' := [(0, .slice (some ⟨b6, o6, none⟩) n c), (3, .slice a9 i c9), (4, .int .i64 (((i : Nat) : Int) : Int)), (6, .pointer (some ⟨O15, 0, none⟩)), (8, .int .i64 (((k : Nat) : Int) : Int)), (9, .int .i64 (e7 + p54 : Int))]) (by kernel_rfl) (fun L => ?_)
          refine cw_seq ?_
          refine cw_plain ?_
          refine pT (.int .i64 (e7 + p54 : Int)) ?_
          refine pl_take (.int .i64 ((e7 + p54) + 1 : Int)) rfl (by kernel_rfl) (by kernel_rfl) (by kernel_rfl) (ev_wrap (by kernel_rfl) (by omega) (by omega)) ?_
          refine pT (.slice (some ⟨b6, o6, none⟩) n c) ?_
          refine pT (.int .i64 (((i : Nat) : Int) : Int)) ?_
          refine pl_take (.pointer (some ⟨b6, o6 + i * 6, none⟩)) rfl (by kernel_rfl) (by kernel_rfl) (by kernel_rfl) (ex_index (p := .slice (some ⟨b6, o6, none⟩) n c) (i := .int .i64 ((i : Nat) : Int)) rfl (by kernel_rfl) (by kernel_rfl) (ix52 (k := i) (by omega))) ?_
          refine pT (.pointer (some ⟨b6, o6 + i * 6 + 5, none⟩)) ?_
          refine pl_take (.int .i64 (q i 5 : Int)) rfl (by kernel_rfl) (by kernel_rfl) (by kernel_rfl) (ex_load rfl (by kernel_rfl) (ld3 ((e0.cell q5)))) ?_
          refine pT (.int .i64 (((k : Nat) : Int) : Int)) ?_
          refine pl_take (.int .i64 (((7 * k : Nat) : Int) : Int)) rfl (by kernel_rfl) (by kernel_rfl) (by kernel_rfl) (ev_wrap (by kernel_rfl) (by omega) (by omega)) ?_
          refine pl_take (.int .i64 (((1 + (7 * k) : Nat) : Int) : Int)) rfl (by kernel_rfl) (by kernel_rfl) (by kernel_rfl) (ev_wrap (by kernel_rfl) (by omega) (by omega)) ?_
          refine pl_take (.int .i64 ((q i 5 : Int).tdiv (((1 + (7 * k) : Nat) : Int)) : Int)) rfl (by kernel_rfl) (by kernel_rfl) (by kernel_rfl) (ex_bin (a := (q i 5)) (b := (((1 + (7 * k) : Nat) : Int))) rfl (by kernel_rfl) (by kernel_rfl) (bin_tdiv (by omega) (by omega) (by omega))) ?_
          refine pl_step rfl (by kernel_rfl) (by kernel_rfl) (by kernel_rfl) (sn_call (f := 32) (args := #[.int .i64 ((q i 5 : Int).tdiv (((1 + (7 * k) : Nat) : Int)) : Int), .int .i64 10]) (by kernel_rfl) ((rpickv_c ((q i 5 : Int).tdiv (((1 + (7 * k) : Nat) : Int))) 10 _ (quo_isI hi5 (by omega)) (by omega) (by omega)).mono ?_))
          rintro e w' ⟨p55, rfl, hp55, rfl⟩
          refine ⟨_, rfl, ?_⟩
          refine pl_take (.int .i64 (((e7 + p54) + 1) + p55 : Int)) rfl (by kernel_rfl) (by kernel_rfl) (by kernel_rfl) (ev_wrap (by kernel_rfl) (by omega) (by omega)) ?_
          refine pT (.int .i64 (((e7 + p54) + 1) + p55 : Int)) ?_
          refine pl_nil ?_
          refine qw_then ?_
          refine cw_clean [0, 3, 4, 6, 7, 8, 9] (ws' := [(0, .slice (some ⟨b6, o6, none⟩) n c), (3, .slice a9 i c9), (4, .int .i64 (((i : Nat) : Int) : Int)), (6, .pointer (some ⟨O15, 0, none⟩)), (7, .int .i64 (((e7 + p54) + 1) + p55 : Int)), (8, .int .i64 (((k : Nat) : Int) : Int)), (9, .int .i64 (e7 + p54 : Int))]) (by kernel_rfl) (fun L => ?_)
          refine cw_plain ?_
          refine pT (.pointer (some ⟨O15, 8, none⟩)) ?_
          refine pl_take (.slice aq k cq) rfl (by kernel_rfl) (by kernel_rfl) (by kernel_rfl) (ex_load rfl (by kernel_rfl) (ld29 (b88.1))) ?_
          refine pT (.int .i64 (((k : Nat) : Int) : Int)) ?_
          refine pT (.int .i64 (e7 + p54 : Int)) ?_
          refine pT (.int .i64 (((e7 + p54) + 1) + p55 : Int)) ?_
          refine pT (.agg #[.int .i64 (e7 + p54 : Int), .int .i64 (((e7 + p54) + 1) + p55 : Int)]) ?_
          refine pT (.agg #[.int .i64 (((k : Nat) : Int) : Int), .int .i64 (e7 + p54 : Int), .int .i64 (((e7 + p54) + 1) + p55 : Int)]) ?_
          refine pl_step rfl (by kernel_rfl) (by kernel_rfl) (by kernel_rfl) (sn_newS (us := #[.int .i64 (((k : Nat) : Int) : Int), .int .i64 (e7 + p54 : Int), .int .i64 (((e7 + p54) + 1) + p55 : Int)]) (t := 61) (k := 1) (c := 1) (by kernel_rfl) ?_)
          intro O56 X57 hO hOs hb hbx
          have hzO56 := hO; have hyO56 := hOs; clear hO hOs
          have bO56_0 : BoxAt X57 O56 0 (.int .i64 (((k : Nat) : Int) : Int)) := hbx 0 _ rfl
          have bO56_1 : BoxAt X57 O56 1 (.int .i64 (e7 + p54 : Int)) := hbx 1 _ rfl
          have bO56_2 : BoxAt X57 O56 2 (.int .i64 (((e7 + p54) + 1) + p55 : Int)) := hbx 2 _ rfl
          clear hbx
          replace e0 := e0.trans hb
          replace hE := hE.trans hb
          replace hX8 := hX8.trans hb
          replace bO15_0 := BoxAt.ext hb bO15_0
          replace bO15_1 := BoxAt.ext hb bO15_1
          replace bO15_2 := BoxAt.ext hb bO15_2
          replace bO15_3 := BoxAt.ext hb bO15_3
          replace bO15_4 := BoxAt.ext hb bO15_4
          replace bO15_5 := BoxAt.ext hb bO15_5
          replace bO15_6 := BoxAt.ext hb bO15_6
          replace bO15_7 := BoxAt.ext hb bO15_7
          replace b88 := BoxAt.ext hb b88
          replace own8 := own8.ext hb
          have hs58 := hb.size
          clear hb
          have lt59 := bO56_0.lt
          have hbs70 := own8.base
          obtain ⟨g60, cap61, w62, hrun63, own64, hgr65, hgb66⟩ := own_app1k (P := Try.prog) (ty := 29) slT (own8) (Nat.le_trans hs49 hs58) (k := k) hsl (O := O56) (c := 1) (x := (⟨((k : Nat) : Int), e7 + p54, ((e7 + p54) + 1) + p55⟩ : Mem.Slt)) (d := [.int .i64 (((k : Nat) : Int) : Int), .int .i64 (e7 + p54 : Int), .int .i64 (((e7 + p54) + 1) + p55 : Int)]) (F := []) rfl (cells3 (bO56_0.1) (bO56_1.1) (bO56_2.1)) (by simp [Value.oneCell']) (⟨rfl, rfl⟩) (fun b hb => by cases hb) (by omega) (by omega)
          refine pl_step rfl (by kernel_rfl) (by kernel_rfl) (by kernel_rfl) (sn_eff (v := .slice (some ⟨g60, 0, none⟩) (k + 1) cap61) (w' := w62) (ex_append rfl (by kernel_rfl) (by kernel_rfl) hrun63) ?_)
          replace bO15_0 := BoxAt.grownR bO15_0 hgb66 (own_not hbs70 (Nat.lt_of_lt_of_le lt48 (Nat.le_refl _)))
          replace bO15_1 := BoxAt.grownR bO15_1 hgb66 (own_not hbs70 (Nat.lt_of_lt_of_le lt48 (Nat.le_refl _)))
          replace bO15_2 := BoxAt.grownR bO15_2 hgb66 (own_not hbs70 (Nat.lt_of_lt_of_le lt48 (Nat.le_refl _)))
          replace bO15_3 := BoxAt.grownR bO15_3 hgb66 (own_not hbs70 (Nat.lt_of_lt_of_le lt48 (Nat.le_refl _)))
          replace bO15_4 := BoxAt.grownR bO15_4 hgb66 (own_not hbs70 (Nat.lt_of_lt_of_le lt48 (Nat.le_refl _)))
          replace bO15_5 := BoxAt.grownR bO15_5 hgb66 (own_not hbs70 (Nat.lt_of_lt_of_le lt48 (Nat.le_refl _)))
          replace bO15_6 := BoxAt.grownR bO15_6 hgb66 (own_not hbs70 (Nat.lt_of_lt_of_le lt48 (Nat.le_refl _)))
          replace bO15_7 := BoxAt.grownR bO15_7 hgb66 (own_not hbs70 (Nat.lt_of_lt_of_le lt48 (Nat.le_refl _)))
          replace b88 := BoxAt.grownR b88 hgb66 (own_not hbs70 (Nat.lt_of_lt_of_le lt48 (Nat.le_refl _)))
          replace bO56_0 := BoxAt.grownR bO56_0 hgb66 (own_not2 hbk8 (Nat.le_of_eq hzO56))
          replace bO56_1 := BoxAt.grownR bO56_1 hgb66 (own_not2 hbk8 (Nat.le_of_eq hzO56))
          replace bO56_2 := BoxAt.grownR bO56_2 hgb66 (own_not2 hbk8 (Nat.le_of_eq hzO56))
          replace e0 := hgr65.ext _ e0 (Nat.le_trans hs0 (Nat.le_trans hs5 hn46))
          replace hE := hgr65.ext _ hE (Nat.le_trans hs5 hn46)
          replace hX8 := hgr65.ext _ hX8 hn46
          have hs67 := hgr65.size
          have hl68 := own64.base g60 rfl; have hh69 := own64.lt g60 rfl
          refine pT (.pointer (some ⟨O15, 8, none⟩)) ?_
          refine pl_put rfl (by kernel_rfl) (by kernel_rfl) (sn_set (O := O15) (j := 8) (v := .slice (some ⟨g60, 0, none⟩) (k + 1) cap61) (ex_store (p := .pointer (some ⟨O15, 8, none⟩)) (v := .slice (some ⟨g60, 0, none⟩) (k + 1) cap61) rfl (by kernel_rfl) (by kernel_rfl) (st29 b88.1 b88.2)) b88 ?_)
          intro X72 ho hv0 hk
          replace e0 := ho.ext e0 (Nat.le_trans (Nat.le_trans hs0 hs5) hn47)
          replace hE := ho.ext hE (Nat.le_trans hs5 hn47)
          replace hX8 := ho.ext hX8 hn47
          replace bO15_0 := hk 0 _ (by omega) bO15_0
          replace bO15_1 := hk 1 _ (by omega) bO15_1
          replace bO15_2 := hk 2 _ (by omega) bO15_2
          replace bO15_3 := hk 3 _ (by omega) bO15_3
          replace bO15_4 := hk 4 _ (by omega) bO15_4
          replace bO15_5 := hk 5 _ (by omega) bO15_5
          replace bO15_6 := hk 6 _ (by omega) bO15_6
          replace bO15_7 := hk 7 _ (by omega) bO15_7
          replace bO56_0 := ho.box (Nat.ne_of_lt (Nat.lt_of_lt_of_le lt48 (Nat.le_trans hs49 (Nat.le_of_eq hzO56)))) bO56_0
          replace bO56_1 := ho.box (Nat.ne_of_lt (Nat.lt_of_lt_of_le lt48 (Nat.le_trans hs49 (Nat.le_of_eq hzO56)))) bO56_1
          replace bO56_2 := ho.box (Nat.ne_of_lt (Nat.lt_of_lt_of_le lt48 (Nat.le_trans hs49 (Nat.le_of_eq hzO56)))) bO56_2
          replace own64 := own64.turn ho (own_not (own64.base) (Nat.lt_of_lt_of_le lt48 (Nat.le_refl _))) (fun _ _ _ h => by rw [h.2]; exact fun b hb => by cases hb)
          have hs73 : w62.heap.size ≤ X72.heap.size := Nat.le_of_eq ho.size.symm
          clear ho hk b88
          have b88 := hv0; clear hv0
          refine pl_nil ?_
          refine qw_block ?_
          refine qw_then ?_
          refine cw_clean [0, 3, 4, 6, 7, 8] (ws' := [(0, .slice (some ⟨b6, o6, none⟩) n c), (3, .slice a9 i c9), (4, .int .i64 (((i : Nat) : Int) : Int)), (6, .pointer (some ⟨O15, 0, none⟩)), (7, .int .i64 (((e7 + p54) + 1) + p55 : Int)), (8, .int .i64 (((k : Nat) : Int) : Int))]) (by kernel_rfl) (fun L => ?_)
          refine cw_plain ?_
          refine pT (.int .i64 (((k : Nat) : Int) : Int)) ?_
          refine pl_take (.int .i64 (((k + 1 : Nat) : Int) : Int)) rfl (by kernel_rfl) (by kernel_rfl) (by kernel_rfl) (ev_wrap (by kernel_rfl) (by omega) (by omega)) ?_
          refine pT (.int .i64 (((k + 1 : Nat) : Int) : Int)) ?_
          refine pl_nil ?_
          refine qw_round [0, 3, 4, 6, 7, 8] (ws' := [(0, .slice (some ⟨b6, o6, none⟩) n c), (3, .slice a9 i c9), (4, .int .i64 (((i : Nat) : Int) : Int)), (6, .pointer (some ⟨O15, 0, none⟩)), (7, .int .i64 (((e7 + p54) + 1) + p55 : Int)), (8, .int .i64 (((k + 1 : Nat) : Int) : Int))]) (by kernel_rfl) _ ?_ ⟨(k + 1), ((e7 + p54) + 1) + p55, (sl ++ [⟨((k : Nat) : Int), e7 + p54, ((e7 + p54) + 1) + p55⟩]), (some ⟨g60, 0, none⟩), cap61, rfl, rfl, (Nat.le_trans hs49 (Nat.le_trans hs58 (Nat.le_trans hs67 hs73))), e0, hE, hX8, bO15_0, bO15_1, bO15_2, bO15_3, bO15_4, bO15_5, bO15_6, bO15_7, b88, own64, (by rw [List.length_append, hsl]; rfl), (by rw [Mem.chain_snoc, hch, hla, show decide (e7 ≤ (⟨((k : Nat) : Int), e7 + p54, ((e7 + p54) + 1) + p55⟩ : Mem.Slt).fr) = true from decide_eq_true (by simp only []; omega), show Mem.spB (_, _) = true from Mem.spB_t.2 ⟨⟨by simp only []; omega, by simp only []; omega⟩, by simp only []; omega⟩]; rfl), (by rw [Mem.lastTo_snoc]), by omega, by omega⟩
          omega
        ·
          refine pl_take (.bool false) rfl (by kernel_rfl) (by kernel_rfl) (by kernel_rfl) (ev_ndec (show _ = Result.ok (Next.value (Value.bool (decide ((((k : Nat) : Int) : Int) ≤ (p52 : Int))))) _ from by kernel_rfl) (hc53)) ?_
          refine pl_nil ?_
          refine qw_then ?_
          refine cw_f (by kernel_rfl) ?_
          refine cw_exit ?_
          refine qw_then_exit ?_
          refine qw_then_exit ?_
          refine qw_block_out ?_
          refine qw_then ?_
          have hk0 : 0 < k := by omega
          obtain ⟨bq, haq, hbq, hsls⟩ := own_sls own8 hsl hk0 (by omega)
          obtain rfl := haq
          have hX74 : Ext w50 w50 := Ext.refl _
          have hcan : Mem.canB ⟨((i : Nat) : Int), p12, 0, 0, p9, (p9 + 1) + p14, 0, 1 + p13, sl⟩ = true := Mem.can_mk hch (by omega) (by omega) (by omega) (by omega)
          refine cw_plain ?_
          refine pT (.slice a9 i c9) ?_
          refine pl_take (.agg #[.int .i64 (((i : Nat) : Int) : Int), .int .i64 (p12 : Int), .int .i64 0, .int .i64 0, .int .i64 (p9 : Int), .int .i64 ((p9 + 1) + p14 : Int), .int .i64 0, .int .i64 (1 + p13 : Int), .slice (some ⟨bq, 0, none⟩) k cq]) rfl (by kernel_rfl) (by kernel_rfl) (by kernel_rfl) (ex_load rfl (by kernel_rfl) (ld31 (bO15_0.1) (bO15_1.1) (bO15_2.1) (bO15_3.1) (bO15_4.1) (bO15_5.1) (bO15_6.1) (bO15_7.1) (b88.1))) ?_
          refine pl_step rfl (by kernel_rfl) (by kernel_rfl) (by kernel_rfl) (sn_newS (us := #[.int .i64 (((i : Nat) : Int) : Int), .int .i64 (p12 : Int), .int .i64 0, .int .i64 0, .int .i64 (p9 : Int), .int .i64 ((p9 + 1) + p14 : Int), .int .i64 0, .int .i64 (1 + p13 : Int), .slice (some ⟨bq, 0, none⟩) k cq]) (t := 31) (k := 1) (c := 1) (by kernel_rfl) ?_)
          intro O75 X76 hO hOs hb hbx
          have hzO75 := hO; have hyO75 := hOs; clear hO hOs
          have bO75_0 : BoxAt X76 O75 0 (.int .i64 (((i : Nat) : Int) : Int)) := hbx 0 _ rfl
          have bO75_1 : BoxAt X76 O75 1 (.int .i64 (p12 : Int)) := hbx 1 _ rfl
          have bO75_2 : BoxAt X76 O75 2 (.int .i64 0) := hbx 2 _ rfl
          have bO75_3 : BoxAt X76 O75 3 (.int .i64 0) := hbx 3 _ rfl
          have bO75_4 : BoxAt X76 O75 4 (.int .i64 (p9 : Int)) := hbx 4 _ rfl
          have bO75_5 : BoxAt X76 O75 5 (.int .i64 ((p9 + 1) + p14 : Int)) := hbx 5 _ rfl
          have bO75_6 : BoxAt X76 O75 6 (.int .i64 0) := hbx 6 _ rfl
          have bO75_7 : BoxAt X76 O75 7 (.int .i64 (1 + p13 : Int)) := hbx 7 _ rfl
          have bO75_8 : BoxAt X76 O75 8 (.slice (some ⟨bq, 0, none⟩) k cq) := hbx 8 _ rfl
          clear hbx
          replace e0 := e0.trans hb
          replace hE := hE.trans hb
          replace hX8 := hX8.trans hb
          replace hX74 := hX74.trans hb
          replace bO15_0 := BoxAt.ext hb bO15_0
          replace bO15_1 := BoxAt.ext hb bO15_1
          replace bO15_2 := BoxAt.ext hb bO15_2
          replace bO15_3 := BoxAt.ext hb bO15_3
          replace bO15_4 := BoxAt.ext hb bO15_4
          replace bO15_5 := BoxAt.ext hb bO15_5
          replace bO15_6 := BoxAt.ext hb bO15_6
          replace bO15_7 := BoxAt.ext hb bO15_7
          replace b88 := BoxAt.ext hb b88
          have hs77 := hb.size
          clear hb
          have lt78 := bO75_0.lt
          have hbs89 := own9.base
          have hbk90 := own9.lt
          obtain ⟨g79, cap80, w81, hrun82, own83, hgr84, hgb85⟩ := own_app1k (P := Try.prog) (ty := 50) optT ((own9.ext hX8)) (Nat.le_trans hs5 (Nat.le_trans hn46 (Nat.le_trans hs49 hs77))) (k := i) hml9 (O := O75) (c := 1) (x := (⟨((i : Nat) : Int), p12, 0, 0, p9, (p9 + 1) + p14, 0, 1 + p13, sl⟩ : Mem.Opt)) (d := [.int .i64 (((i : Nat) : Int) : Int), .int .i64 (p12 : Int), .int .i64 0, .int .i64 0, .int .i64 (p9 : Int), .int .i64 ((p9 + 1) + p14 : Int), .int .i64 0, .int .i64 (1 + p13 : Int), .slice (some ⟨bq, 0, none⟩) k cq]) (F := [bq]) rfl (cells9 (bO75_0.1) (bO75_1.1) (bO75_2.1) (bO75_3.1) (bO75_4.1) (bO75_5.1) (bO75_6.1) (bO75_7.1) (bO75_8.1)) (by simp [Value.oneCell']) (⟨⟨bq, k, cq, rfl, hsls.ext hX74, hk0, rfl⟩, fresh1 (Nat.le_trans (Nat.le_trans hs5 hn46) hbq)⟩) (away_cons (own_not2 hbk90 (Nat.le_trans hn46 hbq)) (fun b hb => by cases hb)) (by omega) (by omega)
          refine pl_step rfl (by kernel_rfl) (by kernel_rfl) (by kernel_rfl) (sn_eff (v := .slice (some ⟨g79, 0, none⟩) (i + 1) cap80) (w' := w81) (ex_append rfl (by kernel_rfl) (by kernel_rfl) hrun82) ?_)
          replace bO15_0 := BoxAt.grownR bO15_0 hgb85 (own_not2 hbk90 hn47)
          replace bO15_1 := BoxAt.grownR bO15_1 hgb85 (own_not2 hbk90 hn47)
          replace bO15_2 := BoxAt.grownR bO15_2 hgb85 (own_not2 hbk90 hn47)
          replace bO15_3 := BoxAt.grownR bO15_3 hgb85 (own_not2 hbk90 hn47)
          replace bO15_4 := BoxAt.grownR bO15_4 hgb85 (own_not2 hbk90 hn47)
          replace bO15_5 := BoxAt.grownR bO15_5 hgb85 (own_not2 hbk90 hn47)
          replace bO15_6 := BoxAt.grownR bO15_6 hgb85 (own_not2 hbk90 hn47)
          replace bO15_7 := BoxAt.grownR bO15_7 hgb85 (own_not2 hbk90 hn47)
          replace b88 := BoxAt.grownR b88 hgb85 (own_not2 hbk90 hn47)
          replace bO75_0 := BoxAt.grownR bO75_0 hgb85 (own_not2 hbk90 (Nat.le_trans (Nat.le_trans hn46 hs49) (Nat.le_of_eq hzO75)))
          replace bO75_1 := BoxAt.grownR bO75_1 hgb85 (own_not2 hbk90 (Nat.le_trans (Nat.le_trans hn46 hs49) (Nat.le_of_eq hzO75)))
          replace bO75_2 := BoxAt.grownR bO75_2 hgb85 (own_not2 hbk90 (Nat.le_trans (Nat.le_trans hn46 hs49) (Nat.le_of_eq hzO75)))
          replace bO75_3 := BoxAt.grownR bO75_3 hgb85 (own_not2 hbk90 (Nat.le_trans (Nat.le_trans hn46 hs49) (Nat.le_of_eq hzO75)))
          replace bO75_4 := BoxAt.grownR bO75_4 hgb85 (own_not2 hbk90 (Nat.le_trans (Nat.le_trans hn46 hs49) (Nat.le_of_eq hzO75)))
          replace bO75_5 := BoxAt.grownR bO75_5 hgb85 (own_not2 hbk90 (Nat.le_trans (Nat.le_trans hn46 hs49) (Nat.le_of_eq hzO75)))
          replace bO75_6 := BoxAt.grownR bO75_6 hgb85 (own_not2 hbk90 (Nat.le_trans (Nat.le_trans hn46 hs49) (Nat.le_of_eq hzO75)))
          replace bO75_7 := BoxAt.grownR bO75_7 hgb85 (own_not2 hbk90 (Nat.le_trans (Nat.le_trans hn46 hs49) (Nat.le_of_eq hzO75)))
          replace bO75_8 := BoxAt.grownR bO75_8 hgb85 (own_not2 hbk90 (Nat.le_trans (Nat.le_trans hn46 hs49) (Nat.le_of_eq hzO75)))
          replace e0 := hgr84.ext _ e0 hs0
          replace hE := hgr84.ext _ hE (Nat.le_refl _)
          have hs86 := hgr84.size
          have hl87 := own83.base g79 rfl; have hh88 := own83.lt g79 rfl
          refine pT (.slice (some ⟨g79, 0, none⟩) (i + 1) cap80) ?_
          refine pl_nil ?_
          refine qw_block ?_
          refine qw_then ?_
          refine cw_clean [0, 3, 4] (ws' := [(0, .slice (some ⟨b6, o6, none⟩) n c), (3, .slice (some ⟨g79, 0, none⟩) (i + 1) cap80), (4, .int .i64 (((i : Nat) : Int) : Int))]) (by kernel_rfl) (fun L => ?_)
          refine cw_plain ?_
          refine pT (.int .i64 (((i : Nat) : Int) : Int)) ?_
          refine pl_take (.int .i64 (((i + 1 : Nat) : Int) : Int)) rfl (by kernel_rfl) (by kernel_rfl) (by kernel_rfl) (ev_wrap (by kernel_rfl) (by omega) (by omega)) ?_
          refine pT (.int .i64 (((i + 1 : Nat) : Int) : Int)) ?_
          refine pl_nil ?_
          refine qw_round [0, 3, 4] (ws' := [(0, .slice (some ⟨b6, o6, none⟩) n c), (3, .slice (some ⟨g79, 0, none⟩) (i + 1) cap80), (4, .int .i64 (((i + 1 : Nat) : Int) : Int))]) (by kernel_rfl) _ ?_ ⟨(i + 1), (some ⟨g79, 0, none⟩), cap80, (ops ++ [⟨((i : Nat) : Int), p12, 0, 0, p9, (p9 + 1) + p14, 0, 1 + p13, sl⟩]), rfl, rfl, (Nat.le_trans hs5 (Nat.le_trans hn46 (Nat.le_trans hs49 (Nat.le_trans hs77 hs86)))), e0, hE, own83, by omega, by omega, (by rw [List.length_append, hml9]; rfl), (hgo.snoc hml9 (by omega) rfl hcan)⟩
          omega
    ·
      refine cw_seq ?_
      refine cw_seq ?_
      refine cw_plain ?_
      refine pT (.int .i64 (((i : Nat) : Int) : Int)) ?_
      refine pT (.slice a n c) ?_
      refine pT (.int .i64 (((n : Nat) : Int) : Int)) ?_
      refine pl_take (.bool true) rfl (by kernel_rfl) (by kernel_rfl) (by kernel_rfl) (ev_dec (show _ = Result.ok (Next.value (Value.bool (decide ((((i : Nat) : Int) : Int) < (((n : Nat) : Int) : Int))))) _ from by kernel_rfl) (by omega)) ?_
      refine pT (.bool true) ?_
      refine pT (.int .i64 (((i : Nat) : Int) : Int)) ?_
      refine pl_take (.bool false) rfl (by kernel_rfl) (by kernel_rfl) (by kernel_rfl) (ev_ndec (show _ = Result.ok (Next.value (Value.bool (decide ((((i : Nat) : Int) : Int) < (8 : Int))))) _ from by kernel_rfl) (by omega)) ?_
      refine pT (.bool false) ?_
      refine pl_nil ?_
      refine qw_then ?_
      refine cw_f (by kernel_rfl) ?_
      refine cw_exit ?_
      refine qw_then_exit ?_
      refine qw_then_exit ?_
      refine qw_block_out ?_
      refine qw_then ?_
      refine cw_seq ?_
      refine cw_plain ?_
      refine pT (.slice a9 i c9) ?_
      refine pT (.slice a9 i c9) ?_
      refine pl_nil ?_
      refine qw_then ?_
      refine cw_ret ?_
      refine qw_ret [.slice a9 i c9] rfl ⟨(by kernel_rfl), trivial⟩ ?_
      exact ⟨_, _, _, _, rfl, hi2, by omega, own_opts own9 hml9 (by omega), hgo, hE⟩
  ·
    refine cw_seq ?_
    refine cw_seq ?_
    refine cw_plain ?_
    refine pT (.int .i64 (((i : Nat) : Int) : Int)) ?_
    refine pT (.slice a n c) ?_
    refine pT (.int .i64 (((n : Nat) : Int) : Int)) ?_
    refine pl_take (.bool false) rfl (by kernel_rfl) (by kernel_rfl) (by kernel_rfl) (ev_ndec (show _ = Result.ok (Next.value (Value.bool (decide ((((i : Nat) : Int) : Int) < (((n : Nat) : Int) : Int))))) _ from by kernel_rfl) (by omega)) ?_
    refine pT (.bool false) ?_
    refine pl_skip rfl (by kernel_rfl) (by kernel_rfl) (by kernel_rfl) ?_
    refine pl_skip rfl (by kernel_rfl) (by kernel_rfl) (by kernel_rfl) ?_
    refine pT (.bool false) ?_
    refine pl_nil ?_
    refine qw_then ?_
    refine cw_f (by kernel_rfl) ?_
    refine cw_exit ?_
    refine qw_then_exit ?_
    refine qw_then_exit ?_
    refine qw_block_out ?_
    refine qw_then ?_
    refine cw_seq ?_
    refine cw_plain ?_
    refine pT (.slice a9 i c9) ?_
    refine pT (.slice a9 i c9) ?_
    refine pl_nil ?_
    refine qw_then ?_
    refine cw_ret ?_
    refine qw_ret [.slice a9 i c9] rfl ⟨(by kernel_rfl), trivial⟩ ?_
    exact ⟨_, _, _, _, rfl, hi2, by omega, own_opts own9 hml9 (by omega), hgo, hE⟩

end Go.Proofs.Ytnbjjddfcondlaa

/- What the rows say of the fill of some of the images. -/
namespace Go.Proofs.Ytnbjjddfcondlaa
open Go.RowKit

theorem pickvN_c (c : Int) (n : Nat) (w : World) (hc : IsI c) (h0 : 0 < n) (h1 : n ≤ 100000000) : Calls Try.prog 12 #[.int .i64 c, .int .i64 (n : Int)] w fun e w' => ∃ k : Nat, e = .returned (.int .i64 (k : Int)) ∧ k < n ∧ w = w' :=
  (pickv_c c n w hc (by omega) (by omega)).mono fun _ _ ⟨k, he, hk, hw⟩ => ⟨k.toNat, by rw [he, Int.toNat_of_nonneg hk.1], by omega, hw⟩
namespace Mem
theorem row_is {l : List St} {i : Nat} (h : i < (rowsR l).length) : ∃ t ∈ begs l, maxAt l t = true ∧ snN (rowsR l) i = alive l t := by
  have hm := List.mem_of_getElem? (snN_at h)
  rw [rows_eq] at hm
  obtain ⟨t, ht, e⟩ := List.mem_map.1 hm
  obtain ⟨h1, h2⟩ := List.mem_filter.1 ht
  exact ⟨t, h1, h2, by rw [rows_eq]; exact e.symm⟩
theorem row_len {l : List St} (i : Nat) : (snN (rowsR l) i).length ≤ l.length := by
  rcases Nat.lt_or_ge i (rowsR l).length with h | h
  · obtain ⟨t, _, _, e⟩ := row_is h; rw [e]; exact alive_len l t
  · unfold snN; rw [List.getElem?_eq_none h]; exact Nat.zero_le _
end Mem

end Go.Proofs.Ytnbjjddfcondlaa

/- What MemoryRows says of the rows. -/
namespace Go.Proofs.Ytnbjjddfcondlaa
open Go.RowKit

namespace Mem
end Mem

end Go.Proofs.Ytnbjjddfcondlaa

/- Images that are turned around and moved by some minutes. -/
namespace Go.Proofs.Ytnbjjddfcondlaa
open Go.RowKit

namespace Mem
def shift (n : Int) (x : St) : St := ⟨x.im, x.un, x.fr + n, x.to + n⟩
theorem mod_turn {i k L : Nat} (hi : i < L) (hk : k ≤ L) : (i + k) % L = if i + k < L then i + k else i + k - L := by
  split
  · rename_i h; exact Nat.mod_eq_of_lt h
  · rename_i h; rw [Nat.mod_eq_sub_mod (by omega)]; exact Nat.mod_eq_of_lt (by omega)
theorem live_shift (t n : Int) (x : St) : live t (shift n x) = live (t - n) x := by
  rw [Bool.eq_iff_iff, live_iff, live_iff]; unfold shift; simp only []; omega
theorem distB_iff : ∀ l : List St, distB l = true ↔ l.Pairwise fun x y => y.im ≠ x.im
  | [] => by simp [distB]
  | x :: l => by
    unfold distB
    rw [Bool.and_eq_true_iff, distB_iff l, List.pairwise_cons, Bool.not_eq_true', ← Bool.not_eq_true, List.any_eq_true]
    constructor
    · rintro ⟨h1, h2⟩; exact ⟨fun y hy e => h1 ⟨y, hy, decide_eq_true e⟩, h2⟩
    · rintro ⟨h1, h2⟩; exact ⟨fun ⟨y, hy, e⟩ => h1 y hy (of_decide_eq_true e), h2⟩
/-- The list m is l, turned around by k, and moved by n minutes. -/
structure Mv (l m : List St) (n : Int) (k : Nat) : Prop where
  len : m.length = l.length
  fill : ∀ t, fill m t = Mem.fill l (t - n)
  mem : ∀ y, y ∈ m ↔ ∃ x ∈ l, y = shift n x
  get : ∀ j, j < l.length → stN m j = shift n (stN l ((j + k) % l.length))
section
variable {l m : List St} {n : Int} {k : Nat}
theorem Mv.most (h : Mv l m n k) {b w b' w' : Int} (h1 : IsMost l b w) (h2 : IsMost m b' w') : b = b' ∧ (0 < l.length → w + n = w') := by
  rcases h1 with ⟨rfl, rfl, rfl⟩ | ⟨h0, h3, ⟨x, hx, e⟩, h4, h5⟩
  · have : m = [] := List.eq_nil_of_length_eq_zero h.len
    obtain ⟨e, _⟩ := h2.uniq (.inl ⟨this, rfl, rfl⟩)
    exact ⟨e.symm, fun h => absurd h (by simp)⟩
  · have hm : IsMost m b (w + n) := .inr ⟨fun e => h0 (List.eq_nil_of_length_eq_zero (by rw [← h.len, e]; rfl)), by rw [h.fill, Int.add_sub_cancel]; exact h3, ⟨shift n x, (h.mem _).2 ⟨x, hx, rfl⟩, by show x.fr + n = _; omega⟩, fun t => by rw [h.fill]; exact h4 _, fun t ht => by rw [h.fill]; exact h5 _ (by omega)⟩
    obtain ⟨e1, e2⟩ := hm.uniq h2
    exact ⟨e1, fun _ => e2⟩
theorem Mv.over (h : Mv l m n k) (hf : ∀ x ∈ l, 0 ≤ x.fr) {lim t t' : Int} (h1 : IsOver l lim t) (h2 : IsOver m lim t') : (t < 0 → t' < 0) ∧ (0 ≤ t → t' = t + n) := by
  rcases h1 with ⟨rfl, h1⟩ | ⟨⟨x, hx, e⟩, h3, h4⟩
  · have := h2.uniq (.inl ⟨rfl, fun s => by rw [h.fill]; exact h1 _⟩)
    exact ⟨fun _ => by omega, fun h => absurd h (by omega)⟩
  · have := h2.uniq (t' := t + n) (.inr ⟨⟨shift n x, (h.mem _).2 ⟨x, hx, rfl⟩, by show x.fr + n = _; omega⟩, by rw [h.fill, Int.add_sub_cancel]; exact h3, fun s hs => by rw [h.fill]; exact h4 _ (by omega)⟩)
    have := hf x hx
    exact ⟨fun _ => by omega, fun _ => by omega⟩
theorem Mv.incl (h : Mv l m n k) (s t : Int) : incl m (s + n) (t + n) = incl l s t := by
  rw [Bool.eq_iff_iff, incl_iff, incl_iff]
  constructor
  · intro q x hx hl
    have := q _ ((h.mem _).2 ⟨x, hx, rfl⟩) (by rw [live_shift, Int.add_sub_cancel]; exact hl)
    rwa [live_shift, Int.add_sub_cancel] at this
  · intro q y hy hl
    obtain ⟨x, hx, rfl⟩ := (h.mem _).1 hy
    rw [live_shift, Int.add_sub_cancel] at hl ⊢
    exact q x hx hl
theorem Mv.begs (h : Mv l m n k) : begs m = (begs l).map (· + n) := by
  refine asc_uniq (begs_asc m) (List.pairwise_map.2 ((begs_asc l).imp fun h => by omega)) fun t => ?_
  rw [mem_begs, List.mem_map]
  constructor
  · rintro ⟨y, hy, e⟩
    obtain ⟨x, hx, rfl⟩ := (h.mem _).1 hy
    exact ⟨x.fr, mem_begs.2 ⟨x, hx, rfl⟩, e⟩
  · rintro ⟨s, hs, e⟩
    obtain ⟨x, hx, rfl⟩ := mem_begs.1 hs
    exact ⟨shift n x, (h.mem _).2 ⟨x, hx, rfl⟩, e⟩
theorem Mv.maxAt (h : Mv l m n k) (t : Int) : maxAt m (t + n) = maxAt l t := by
  rw [Bool.eq_iff_iff, maxAt_iff, maxAt_iff, h.begs]
  constructor
  · intro q s hs hi
    have := q (s + n) (List.mem_map.2 ⟨s, hs, rfl⟩) (by rw [h.incl]; exact hi)
    rwa [h.incl] at this
  · intro q s hs hi
    obtain ⟨r, hr, rfl⟩ := List.mem_map.1 hs
    rw [h.incl] at hi ⊢
    exact q r hr hi
theorem Mv.rows (h : Mv l m n k) : rowsR m = ((Mem.begs l).filter (Mem.maxAt l)).map fun t => alive m (t + n) := by
  rw [rows_eq, h.begs, List.filter_map, List.map_map]
  congr 1
  exact List.filter_congr fun t _ => h.maxAt t
theorem Mv.row (h : Mv l m n k) {r : Nat} (hr : r < (rowsR l).length) : ∃ t, snN (rowsR l) r = alive l t ∧ snN (rowsR m) r = alive m (t + n) := by
  have hlen : r < ((Mem.begs l).filter (Mem.maxAt l)).length := by rwa [rows_eq, List.length_map] at hr
  refine ⟨((Mem.begs l).filter (Mem.maxAt l))[r], ?_, ?_⟩
  · unfold snN; rw [rows_eq, List.getElem?_map, List.getElem?_eq_getElem hlen]; rfl
  · unfold snN; rw [h.rows, List.getElem?_map, List.getElem?_eq_getElem hlen]; rfl
theorem bits_ext {a b : List Nat} (h : ∀ i, i ∈ a ↔ i ∈ b) : bitsOf a = bitsOf b := Nat.eq_of_testBit_eq fun i => by
  rw [testBit_bits, testBit_bits, Bool.eq_iff_iff, decide_eq_true_iff, decide_eq_true_iff]; exact h i
theorem Mv.bits (h : Mv l m n k) (hk : k ≤ l.length) (t : Int) : bitsOf (alive l t) = bitsOf ((alive m (t + n)).map fun j => (j + k) % l.length) := by
  refine bits_ext fun i => ?_
  have hall : ∀ j, j < l.length → (j ∈ alive m (t + n) ↔ (j + k) % l.length ∈ alive l t) := fun j hj => by
    have hj2 : (j + k) % l.length < l.length := Nat.mod_lt _ (by omega)
    have e1 := stN_at (l := m) (i := j) (by rw [h.len]; exact hj)
    have e2 := stN_at hj2
    rw [mem_alive, mem_alive, e1, e2, h.get j hj]
    constructor
    · rintro ⟨x, e, hl⟩; cases e; rw [live_shift, Int.add_sub_cancel] at hl; exact ⟨_, rfl, hl⟩
    · rintro ⟨x, e, hl⟩; cases e; exact ⟨_, rfl, by rw [live_shift, Int.add_sub_cancel]; exact hl⟩
  rw [List.mem_map]
  constructor
  · intro hi
    obtain ⟨x, hx, _⟩ := mem_alive.1 hi
    have hil := (List.getElem?_eq_some_iff.1 hx).1
    obtain ⟨j, hj, e⟩ : ∃ j, j < l.length ∧ (j + k) % l.length = i := by
      rcases Nat.lt_or_ge i k with q | q
      · exact ⟨i + l.length - k, by omega, by rw [mod_turn (by omega) hk, if_neg (by omega)]; omega⟩
      · exact ⟨i - k, by omega, by rw [mod_turn (by omega) hk, if_pos (by omega)]; omega⟩
    exact ⟨j, (hall j hj).2 (by rw [e]; exact hi), e⟩
  · rintro ⟨j, hj, e⟩
    obtain ⟨x, hx, _⟩ := mem_alive.1 hj
    have hjl := (List.getElem?_eq_some_iff.1 hx).1
    rw [h.len] at hjl
    rw [← e]; exact (hall j hjl).1 hj
end
end Mem

end Go.Proofs.Ytnbjjddfcondlaa

/- What MemoryFrees says of options. -/
namespace Go.Proofs.Ytnbjjddfcondlaa
open Go.RowKit

theorem OwnL.grown {α : Type} {R : Rep α} {n₀ : Nat} {e : TypeId} {size : Nat} {v : Value} {w w' : World} {l : List α} {r : Option Nat} (h : OwnL R n₀ e size v w l) (hg : w.grownBy w' r) (ha : (v.ownBlock = none ∨ v.ownBlock ≠ r) ∧ ∀ w c x F, R.rel w c x F → F = []) : OwnL R n₀ e size v w' l := by
  obtain ⟨cs, q1, q2, q3, q4⟩ := h
  exact ⟨cs, q1, q2, q3.kept hg ha.1, fun j x c hx hc => by
    obtain ⟨F, k1, k2⟩ := q4 j x c hx hc
    have := ha.2 _ _ _ _ k1
    subst this
    exact ⟨[], R.keep k1 (fun b hb => by cases hb), fun b hb => by cases hb⟩⟩
/-- Two slices do not lie in the same block. -/
def Apart (v u : Value) : Prop := ∀ b, v.ownBlock = some b → u.ownBlock ≠ some b
theorem Apart.symm {v u : Value} (h : Apart v u) : Apart u v := fun b hu hv => h b hv hu
theorem Apart.kept {v u : Value} (h : Apart v u) : v.ownBlock = none ∨ v.ownBlock ≠ u.ownBlock := by
  cases q : v.ownBlock with
  | none => exact .inl rfl
  | some b => exact .inr fun e => h b q e.symm
theorem Apart.grow {v u : Value} {w : World} {g n c : Nat} (h : Apart v u) (hor : v.ownBlock = some g ∨ w.heap.size ≤ g) (hu : ∀ b, u.ownBlock = some b → b < w.heap.size) : Apart (.slice (some ⟨g, 0, none⟩) n c) u := fun b hb hub => by
  have e : g = b := Option.some.inj hb
  subst e
  rcases hor with q | q
  · exact h g q hub
  · have := hu g hub; omega
namespace Mem
theorem can_parts {o : Opt} (h : canB o = true) : chainB o.to o.sl = true ∧ (0 ≤ o.id ∧ o.id ≤ 63) ∧ (1 ≤ o.sz ∧ o.sz ≤ 1000000) ∧ ((0 ≤ o.fr ∧ o.fr < o.to) ∧ o.to ≤ 1000001) ∧ 1 ≤ o.sl.length ∧ o.sl.length ≤ 6 := by
  unfold canB at h
  obtain ⟨h1, h⟩ := Bool.and_eq_true_iff.1 h
  obtain ⟨h2, h⟩ := Bool.and_eq_true_iff.1 h
  obtain ⟨h3, h⟩ := Bool.and_eq_true_iff.1 h
  obtain ⟨h4, h⟩ := Bool.and_eq_true_iff.1 h
  have h5 := Globe.inB_t.1 h
  exact ⟨h1, Globe.inB_t.1 h2, Globe.inB_t.1 h3, spB_t.1 h4, by omega, by omega⟩
def Rel (a b : St) : Prop := b.im = a.im ∧ b.un = a.un ∧ b.fr = a.fr ∧ b.fr < b.to ∧ b.to ≤ a.to
def RelL : List St → List St → Prop
  | [], [] => True
  | a :: l, b :: m => Rel a b ∧ RelL l m
  | _, _ => False
theorem RelL.snoc : ∀ {l m : List St} {a b : St}, RelL l m → Rel a b → RelL (l ++ [a]) (m ++ [b])
  | [], [], _, _, _, h => ⟨h, trivial⟩
  | _ :: _, _ :: _, _, _, h, k => ⟨h.1, RelL.snoc h.2 k⟩
theorem RelL.fill : ∀ {l m : List St}, RelL l m → (∀ x ∈ l, okU x) → ∀ t, fill m t ≤ fill l t
  | [], [], _, _, _ => Int.le_refl _
  | a :: l, b :: m, h, hu, t => by
    have h1 := RelL.fill h.2 (fun x hx => hu x (List.mem_cons_of_mem _ hx)) t
    rw [fill_cons, fill_cons]
    obtain ⟨⟨_, r1, r2, r3, r4⟩, _⟩ := h
    have hn := (hu a (List.mem_cons_self ..)).1
    have : part t b ≤ part t a := by
      unfold part
      cases q : live t b
      · rw [if_neg (by simp)]; split <;> omega
      · have q := live_iff.1 q
        rw [if_pos rfl, if_pos (live_iff.2 ⟨by omega, by omega⟩)]; omega
    omega
theorem RelL.ims : ∀ {l m : List St}, RelL l m → m.map (·.im) = l.map (·.im)
  | [], [], _ => rfl
  | a :: l, b :: m, h => by rw [List.map_cons, List.map_cons, RelL.ims h.2, h.1.1]
theorem RelL.all : ∀ {l m : List St}, RelL l m → l.all okSt = true → m.all okSt = true
  | [], [], _, _ => rfl
  | a :: l, b :: m, h, k => by
    rw [List.all_cons] at k ⊢
    obtain ⟨k1, k2⟩ := Bool.and_eq_true_iff.1 k
    rw [RelL.all h.2 k2, Bool.and_true]
    obtain ⟨⟨r0, r1, r2, r3, r4⟩, _⟩ := h
    unfold okSt at k1
    obtain ⟨q1, q2⟩ := Bool.and_eq_true_iff.1 k1
    obtain ⟨q2, q3⟩ := Bool.and_eq_true_iff.1 q2
    have q1 := Globe.inB_t.1 q1
    have q2 := Globe.inB_t.1 q2
    have q3 := spB_t.1 q3
    simp only [] at q3
    exact okSt_mk (by omega) (by omega) (by omega)
theorem RelL.ok {l m : List St} (h : RelL l m) (hok : okL l = true) : okL m = true := by
  unfold okL at *
  obtain ⟨h1, h2⟩ := Bool.and_eq_true_iff.1 hok
  obtain ⟨h1, h3⟩ := Bool.and_eq_true_iff.1 h1
  have hl : m.length = l.length := by have := congrArg List.length h.ims; rwa [List.length_map, List.length_map] at this
  have hd : distB m = true := by
    have key : ∀ l : List St, distB l = true ↔ (l.map (·.im)).Pairwise fun x y => y ≠ x := fun l => by rw [distB_iff, List.pairwise_map]
    rw [key, h.ims]; exact (key l).1 h3
  rw [h.all h1, hd, hl, h2]; rfl
end Mem
end Go.Proofs.Ytnbjjddfcondlaa

/- Openers of lists of rows of six ints, and of ints. -/
namespace Go.Proofs.Ytnbjjddfcondlaa
open Go.ChangeShapes Go.WideShapes Go.ChangeAt Go.RowKit Go.Deep
section
variable {H : Type} {enc : TypeId × Value → H} {W : World}
end
end Go.Proofs.Ytnbjjddfcondlaa

/- Contracts of the reference of chapter 11: Valid, fill, Fill, Most, Over, Room. -/
namespace Go.Proofs.Ytnbjjddfcondlaa
open Go.RowKit

namespace Mem
theorem most_y {l : List St} {i : Nat} {b w : Int} (hi : i < l.length) (h : (l.take i).foldl (mostStep l) (0, -1) = (b, w)) (hc : b < fill l (stN l i).fr ∨ (fill l (stN l i).fr = b ∧ (stN l i).fr < w)) : (l.take (i + 1)).foldl (mostStep l) (0, -1) = (fill l (stN l i).fr, (stN l i).fr) := by
  rw [stN_take hi, List.foldl_append, h]; exact if_pos hc
theorem most_n {l : List St} {i : Nat} {b w : Int} (hi : i < l.length) (h : (l.take i).foldl (mostStep l) (0, -1) = (b, w)) (hc : ¬ (b < fill l (stN l i).fr ∨ (fill l (stN l i).fr = b ∧ (stN l i).fr < w))) : (l.take (i + 1)).foldl (mostStep l) (0, -1) = (b, w) := by
  rw [stN_take hi, List.foldl_append, h]; exact if_neg hc
theorem over_y {l : List St} {i : Nat} {f lim : Int} (hi : i < l.length) (h : (l.take i).foldl (overStep l lim) (-1) = f) (hc : lim < fill l (stN l i).fr ∧ (f < 0 ∨ (stN l i).fr < f)) : (l.take (i + 1)).foldl (overStep l lim) (-1) = (stN l i).fr := by
  rw [stN_take hi, List.foldl_append, h]; exact if_pos hc
theorem over_n {l : List St} {i : Nat} {f lim : Int} (hi : i < l.length) (h : (l.take i).foldl (overStep l lim) (-1) = f) (hc : ¬ (lim < fill l (stN l i).fr ∧ (f < 0 ∨ (stN l i).fr < f))) : (l.take (i + 1)).foldl (overStep l lim) (-1) = f := by
  rw [stN_take hi, List.foldl_append, h]; exact if_neg hc
theorem top_y {l : List St} {i : Nat} {a b m : Int} (hi : i < l.length) (h : (l.take i).foldl (topStep l a b) (fill l a) = m) (hc : a ≤ (stN l i).fr ∧ (stN l i).fr < b) : (l.take (i + 1)).foldl (topStep l a b) (fill l a) = max m (fill l (stN l i).fr) := by
  rw [stN_take hi, List.foldl_append, h]; exact if_pos hc
theorem top_n {l : List St} {i : Nat} {a b m : Int} (hi : i < l.length) (h : (l.take i).foldl (topStep l a b) (fill l a) = m) (hc : ¬ (a ≤ (stN l i).fr ∧ (stN l i).fr < b)) : (l.take (i + 1)).foldl (topStep l a b) (fill l a) = m := by
  rw [stN_take hi, List.foldl_append, h]; exact if_neg hc
theorem fill_nx {l : List St} {i : Nat} {t : Int} (hi : i < l.length) : fill (l.take (i + 1)) t = fill (l.take i) t + part t (stN l i) := by rw [stN_take hi, fill_app]; show _ + (part t _ + 0) = _; omega
theorem part_y {x : St} {t : Int} (h : x.fr ≤ t ∧ t < x.to) : part t x = x.un := by unfold part; rw [if_pos (live_iff.2 h)]
theorem part_n {x : St} {t : Int} (h : ¬ (x.fr ≤ t ∧ t < x.to)) : part t x = 0 := by unfold part; rw [if_neg (fun q => h (live_iff.1 q))]
theorem any_take {l : List St} {k i : Nat} {v : Int} (hk : k < i) (hi : i ≤ l.length) (h : (stN l k).im = v) : ((l.take i).any fun y => decide (y.im = v)) = true := by
  rw [List.any_eq_true]
  refine ⟨stN l k, ?_, decide_eq_true h⟩
  have : (l.take i)[k]? = some (stN l k) := by rw [List.getElem?_take_of_lt hk]; exact stN_at (by omega)
  exact List.mem_of_getElem? this
theorem any_next {l : List St} {k : Nat} {v : Int} (hk : k < l.length) (h : ((l.take k).any fun y => decide (y.im = v)) = false) (hn : ¬ (stN l k).im = v) : ((l.take (k + 1)).any fun y => decide (y.im = v)) = false := by
  rw [stN_take hk, List.any_append, h]; simp [hn]
theorem okSt_iff {x : St} : okSt x = true ↔ (0 ≤ x.im ∧ x.im ≤ 63) ∧ (1 ≤ x.un ∧ x.un ≤ 1000000) ∧ spB (x.fr, x.to) = true := by
  unfold okSt; rw [Bool.and_eq_true_iff, Bool.and_eq_true_iff, Globe.inB_t, Globe.inB_t]
end Mem
set_option maxRecDepth 1000000 in
set_option maxHeartbeats 4000000 in
theorem rValid_c {w0 : World} {a : Option Addr} {n : Nat} {l : List Mem.St} (c : Nat) (w : World) (h : StsAt w0 a n l) (e0 : Ext w0 w) : Calls Try.prog 19 #[.slice a n c] w fun e w' => e = .returned (.bool (Mem.okL l)) ∧ Ext w w' := by
  have hln := h.1; have hmx := h.2.1
  have hs0 := e0.size
  obtain ⟨bs, os, ha, hbl, hx⟩ := h.parts
  refine calls_cw 73 [(0, .slice a n c)] Try.func19 rfl Try.ntmps19 (by kernel_rfl) (by kernel_rfl) (fun L => ?_)
  have hE : Ext w w := Ext.refl w
  refine cw_seq ?_
  refine cw_plain ?_
  refine pT (.bool false) ?_
  refine pl_nil ?_
  refine qw_then ?_
  refine cw_seq ?_
  refine cw_seq ?_
  refine cw_plain ?_
  refine pT (.int .i64 0) ?_
  refine pl_nil ?_
  refine qw_then ?_
  refine cw_block ?_
  refine cw_loop [0, 3] (fun ws' wr m => ∃ i : Nat, ws' = [(0, .slice a n c), (3, .int .i64 (((i : Nat) : Int) : Int))] ∧ m = n - i ∧ w.heap.size ≤ wr.heap.size ∧ Ext w0 wr ∧ Ext w wr ∧ i ≤ n ∧ i ≤ 25 ∧ ((l.take i).all Mem.okSt = true ∧ Mem.distB (l.take i) = true)) (ws0 := [(0, .slice a n c), (3, .int .i64 0)]) (by kernel_rfl) _ ⟨0, rfl, rfl, Nat.le_refl _, e0, hE, Nat.zero_le _, Nat.zero_le _, ⟨by rw [List.take_zero]; rfl, by rw [List.take_zero]; rfl⟩⟩ ?_
  clear e0 hE
  rintro m7 L ws w6 ⟨i, rfl, rfl, hs5, e0, hE, hi, hi2, hpre⟩
  by_cases hlt : i < n
  ·
    by_cases hlt2 : i < 25
    ·
      obtain rfl := ha (by omega)
      obtain ⟨q8, q9, q10, q11⟩ := hx i hlt
      refine cw_seq ?_
      refine cw_seq ?_
      refine cw_plain ?_
      refine pT (.int .i64 (((i : Nat) : Int) : Int)) ?_
      refine pT (.slice (some ⟨bs, os, none⟩) n c) ?_
      refine pT (.int .i64 (((n : Nat) : Int) : Int)) ?_
      refine pl_take (.bool true) rfl (by kernel_rfl) (by kernel_rfl) (by kernel_rfl) (ev_dec (show _ = Result.ok (Next.value (Value.bool (decide ((((i : Nat) : Int) : Int) < (((n : Nat) : Int) : Int))))) _ from by kernel_rfl) (by omega)) ?_
      refine pT (.bool true) ?_
      refine pT (.int .i64 (((i : Nat) : Int) : Int)) ?_
      refine pl_take (.bool true) rfl (by kernel_rfl) (by kernel_rfl) (by kernel_rfl) (ev_dec (show _ = Result.ok (Next.value (Value.bool (decide ((((i : Nat) : Int) : Int) < (25 : Int))))) _ from by kernel_rfl) (by omega)) ?_
      refine pT (.bool true) ?_
      refine pl_nil ?_
      refine qw_then ?_
      refine cw_t (by kernel_rfl) ?_
      refine cw_skip ?_
      refine qw_then ?_
      refine cw_seq ?_
      refine cw_block ?_
      refine cw_seq ?_
      refine cw_seq ?_
      refine cw_plain ?_
      refine pT (.slice (some ⟨bs, os, none⟩) n c) ?_
      refine pT (.int .i64 (((i : Nat) : Int) : Int)) ?_
      refine pl_take (.pointer (some ⟨bs, os + i * 4, none⟩)) rfl (by kernel_rfl) (by kernel_rfl) (by kernel_rfl) (ex_index (p := .slice (some ⟨bs, os, none⟩) n c) (i := .int .i64 ((i : Nat) : Int)) rfl (by kernel_rfl) (by kernel_rfl) (ix27 (k := i) (by omega))) ?_
      refine pT (.pointer (some ⟨bs, os + i * 4, none⟩)) ?_
      refine pl_take (.int .i64 ((stN l i).im : Int)) rfl (by kernel_rfl) (by kernel_rfl) (by kernel_rfl) (ex_load rfl (by kernel_rfl) (ld3 ((e0.cell q8)))) ?_
      by_cases hc12 : ((stN l i).im : Int) < (0 : Int)
      ·
        refine pl_take (.bool true) rfl (by kernel_rfl) (by kernel_rfl) (by kernel_rfl) (ev_dec (show _ = Result.ok (Next.value (Value.bool (decide (((stN l i).im : Int) < (0 : Int))))) _ from by kernel_rfl) (hc12)) ?_
        refine pT (.bool true) ?_
        refine pl_skip rfl (by kernel_rfl) (by kernel_rfl) (by kernel_rfl) ?_
        refine pl_skip rfl (by kernel_rfl) (by kernel_rfl) (by kernel_rfl) ?_
        refine pl_skip rfl (by kernel_rfl) (by kernel_rfl) (by kernel_rfl) ?_
        refine pl_skip rfl (by kernel_rfl) (by kernel_rfl) (by kernel_rfl) ?_
        refine pl_skip rfl (by kernel_rfl) (by kernel_rfl) (by kernel_rfl) ?_
        refine pl_skip rfl (by kernel_rfl) (by kernel_rfl) (by kernel_rfl) ?_
        refine pT (.bool true) ?_
        refine pT (.bool true) ?_
        refine pl_skip rfl (by kernel_rfl) (by kernel_rfl) (by kernel_rfl) ?_
        refine pl_skip rfl (by kernel_rfl) (by kernel_rfl) (by kernel_rfl) ?_
        refine pl_skip rfl (by kernel_rfl) (by kernel_rfl) (by kernel_rfl) ?_
        refine pl_skip rfl (by kernel_rfl) (by kernel_rfl) (by kernel_rfl) ?_
        refine pl_skip rfl (by kernel_rfl) (by kernel_rfl) (by kernel_rfl) ?_
        refine pl_skip rfl (by kernel_rfl) (by kernel_rfl) (by kernel_rfl) ?_
        refine pT (.bool true) ?_
        refine pT (.bool true) ?_
        refine pl_skip rfl (by kernel_rfl) (by kernel_rfl) (by kernel_rfl) ?_
        refine pl_skip rfl (by kernel_rfl) (by kernel_rfl) (by kernel_rfl) ?_
        refine pl_skip rfl (by kernel_rfl) (by kernel_rfl) (by kernel_rfl) ?_
        refine pl_skip rfl (by kernel_rfl) (by kernel_rfl) (by kernel_rfl) ?_
        refine pl_skip rfl (by kernel_rfl) (by kernel_rfl) (by kernel_rfl) ?_
        refine pl_skip rfl (by kernel_rfl) (by kernel_rfl) (by kernel_rfl) ?_
        refine pT (.bool true) ?_
        refine pT (.bool true) ?_
        refine pl_skip rfl (by kernel_rfl) (by kernel_rfl) (by kernel_rfl) ?_
        refine pl_skip rfl (by kernel_rfl) (by kernel_rfl) (by kernel_rfl) ?_
        refine pl_skip rfl (by kernel_rfl) (by kernel_rfl) (by kernel_rfl) ?_
        refine pl_skip rfl (by kernel_rfl) (by kernel_rfl) (by kernel_rfl) ?_
        refine pl_skip rfl (by kernel_rfl) (by kernel_rfl) (by kernel_rfl) ?_
        refine pl_skip rfl (by kernel_rfl) (by kernel_rfl) (by kernel_rfl) ?_
        refine pl_skip rfl (by kernel_rfl) (by kernel_rfl) (by kernel_rfl) ?_
        refine pT (.bool true) ?_
        refine pl_nil ?_
        refine qw_then ?_
        refine cw_clean [0, 3, 53] (ws' := [(0, .slice (some ⟨bs, os, none⟩) n c), (3, .int .i64 (((i : Nat) : Int) : Int)), (53, .bool true)]) (by kernel_rfl) (fun L => ?_)
        refine cw_t (by kernel_rfl) ?_
        refine cw_seq ?_
        refine cw_plain ?_
        refine pT (.bool false) ?_
        refine pl_nil ?_
        refine qw_then ?_
        refine cw_ret ?_
        refine qw_then_ret ?_
        refine qw_block_ret ?_
        refine qw_then_ret ?_
        refine qw_then_ret ?_
        refine qw_block_ret ?_
        refine qw_then_ret ?_
        refine qw_ret [.bool false] rfl ⟨(by kernel_rfl), trivial⟩ ?_
        exact ⟨congrArg (fun b => Ending.returned (Value.bool b)) (show Mem.okL l = false from Mem.bad_st (i := i) (by omega) (Bool.eq_false_iff.2 fun hz => by have := Mem.okSt_iff.1 hz; omega)).symm, hE⟩
      ·
        refine pl_take (.bool false) rfl (by kernel_rfl) (by kernel_rfl) (by kernel_rfl) (ev_ndec (show _ = Result.ok (Next.value (Value.bool (decide (((stN l i).im : Int) < (0 : Int))))) _ from by kernel_rfl) (hc12)) ?_
        refine pT (.bool false) ?_
        refine pT (.slice (some ⟨bs, os, none⟩) n c) ?_
        refine pT (.int .i64 (((i : Nat) : Int) : Int)) ?_
        refine pl_take (.pointer (some ⟨bs, os + i * 4, none⟩)) rfl (by kernel_rfl) (by kernel_rfl) (by kernel_rfl) (ex_index (p := .slice (some ⟨bs, os, none⟩) n c) (i := .int .i64 ((i : Nat) : Int)) rfl (by kernel_rfl) (by kernel_rfl) (ix27 (k := i) (by omega))) ?_
        refine pT (.pointer (some ⟨bs, os + i * 4, none⟩)) ?_
        refine pl_take (.int .i64 ((stN l i).im : Int)) rfl (by kernel_rfl) (by kernel_rfl) (by kernel_rfl) (ex_load rfl (by kernel_rfl) (ld3 ((e0.cell q8)))) ?_
        by_cases hc13 : ((stN l i).im : Int) > (63 : Int)
        ·
          refine pl_take (.bool true) rfl (by kernel_rfl) (by kernel_rfl) (by kernel_rfl) (ev_dec (show _ = Result.ok (Next.value (Value.bool (decide (((stN l i).im : Int) > (63 : Int))))) _ from by kernel_rfl) (hc13)) ?_
          refine pT (.bool true) ?_
          refine pT (.bool true) ?_
          refine pl_skip rfl (by kernel_rfl) (by kernel_rfl) (by kernel_rfl) ?_
          refine pl_skip rfl (by kernel_rfl) (by kernel_rfl) (by kernel_rfl) ?_
          refine pl_skip rfl (by kernel_rfl) (by kernel_rfl) (by kernel_rfl) ?_
          refine pl_skip rfl (by kernel_rfl) (by kernel_rfl) (by kernel_rfl) ?_
          refine pl_skip rfl (by kernel_rfl) (by kernel_rfl) (by kernel_rfl) ?_
          refine pl_skip rfl (by kernel_rfl) (by kernel_rfl) (by kernel_rfl) ?_
          refine pT (.bool true) ?_
          refine pT (.bool true) ?_
          refine pl_skip rfl (by kernel_rfl) (by kernel_rfl) (by kernel_rfl) ?_
          refine pl_skip rfl (by kernel_rfl) (by kernel_rfl) (by kernel_rfl) ?_
          refine pl_skip rfl (by kernel_rfl) (by kernel_rfl) (by kernel_rfl) ?_
          refine pl_skip rfl (by kernel_rfl) (by kernel_rfl) (by kernel_rfl) ?_
          refine pl_skip rfl (by kernel_rfl) (by kernel_rfl) (by kernel_rfl) ?_
          refine pl_skip rfl (by kernel_rfl) (by kernel_rfl) (by kernel_rfl) ?_
          refine pT (.bool true) ?_
          refine pT (.bool true) ?_
          refine pl_skip rfl (by kernel_rfl) (by kernel_rfl) (by kernel_rfl) ?_
          refine pl_skip rfl (by kernel_rfl) (by kernel_rfl) (by kernel_rfl) ?_
          refine pl_skip rfl (by kernel_rfl) (by kernel_rfl) (by kernel_rfl) ?_
          refine pl_skip rfl (by kernel_rfl) (by kernel_rfl) (by kernel_rfl) ?_
          refine pl_skip rfl (by kernel_rfl) (by kernel_rfl) (by kernel_rfl) ?_
          refine pl_skip rfl (by kernel_rfl) (by kernel_rfl) (by kernel_rfl) ?_
          refine pl_skip rfl (by kernel_rfl) (by kernel_rfl) (by kernel_rfl) ?_
          refine pT (.bool true) ?_
          refine pl_nil ?_
          refine qw_then ?_
          refine cw_clean [0, 3, 53] (ws' := [(0, .slice (some ⟨bs, os, none⟩) n c), (3, .int .i64 (((i : Nat) : Int) : Int)), (53, .bool true)]) (by kernel_rfl) (fun L => ?_)
          refine cw_t (by kernel_rfl) ?_
          refine cw_seq ?_
          refine cw_plain ?_
          refine pT (.bool false) ?_
          refine pl_nil ?_
          refine qw_then ?_
          refine cw_ret ?_
          refine qw_then_ret ?_
          refine qw_block_ret ?_
          refine qw_then_ret ?_
          refine qw_then_ret ?_
          refine qw_block_ret ?_
          refine qw_then_ret ?_
          refine qw_ret [.bool false] rfl ⟨(by kernel_rfl), trivial⟩ ?_
          exact ⟨congrArg (fun b => Ending.returned (Value.bool b)) (show Mem.okL l = false from Mem.bad_st (i := i) (by omega) (Bool.eq_false_iff.2 fun hz => by have := Mem.okSt_iff.1 hz; omega)).symm, hE⟩
        ·
          refine pl_take (.bool false) rfl (by kernel_rfl) (by kernel_rfl) (by kernel_rfl) (ev_ndec (show _ = Result.ok (Next.value (Value.bool (decide (((stN l i).im : Int) > (63 : Int))))) _ from by kernel_rfl) (hc13)) ?_
          refine pT (.bool false) ?_
          refine pT (.bool false) ?_
          refine pT (.slice (some ⟨bs, os, none⟩) n c) ?_
          refine pT (.int .i64 (((i : Nat) : Int) : Int)) ?_
          refine pl_take (.pointer (some ⟨bs, os + i * 4, none⟩)) rfl (by kernel_rfl) (by kernel_rfl) (by kernel_rfl) (ex_index (p := .slice (some ⟨bs, os, none⟩) n c) (i := .int .i64 ((i : Nat) : Int)) rfl (by kernel_rfl) (by kernel_rfl) (ix27 (k := i) (by omega))) ?_
          refine pT (.pointer (some ⟨bs, os + i * 4 + 1, none⟩)) ?_
          refine pl_take (.int .i64 ((stN l i).un : Int)) rfl (by kernel_rfl) (by kernel_rfl) (by kernel_rfl) (ex_load rfl (by kernel_rfl) (ld3 ((e0.cell q9)))) ?_
          by_cases hc14 : ((stN l i).un : Int) < (1 : Int)
          ·
            refine pl_take (.bool true) rfl (by kernel_rfl) (by kernel_rfl) (by kernel_rfl) (ev_dec (show _ = Result.ok (Next.value (Value.bool (decide (((stN l i).un : Int) < (1 : Int))))) _ from by kernel_rfl) (hc14)) ?_
            refine pT (.bool true) ?_
            refine pT (.bool true) ?_
            refine pl_skip rfl (by kernel_rfl) (by kernel_rfl) (by kernel_rfl) ?_
            refine pl_skip rfl (by kernel_rfl) (by kernel_rfl) (by kernel_rfl) ?_
            refine pl_skip rfl (by kernel_rfl) (by kernel_rfl) (by kernel_rfl) ?_
            refine pl_skip rfl (by kernel_rfl) (by kernel_rfl) (by kernel_rfl) ?_
            refine pl_skip rfl (by kernel_rfl) (by kernel_rfl) (by kernel_rfl) ?_
            refine pl_skip rfl (by kernel_rfl) (by kernel_rfl) (by kernel_rfl) ?_
            refine pT (.bool true) ?_
            refine pT (.bool true) ?_
            refine pl_skip rfl (by kernel_rfl) (by kernel_rfl) (by kernel_rfl) ?_
            refine pl_skip rfl (by kernel_rfl) (by kernel_rfl) (by kernel_rfl) ?_
            refine pl_skip rfl (by kernel_rfl) (by kernel_rfl) (by kernel_rfl) ?_
            refine pl_skip rfl (by kernel_rfl) (by kernel_rfl) (by kernel_rfl) ?_
            refine pl_skip rfl (by kernel_rfl) (by kernel_rfl) (by kernel_rfl) ?_
            refine pl_skip rfl (by kernel_rfl) (by kernel_rfl) (by kernel_rfl) ?_
            refine pl_skip rfl (by kernel_rfl) (by kernel_rfl) (by kernel_rfl) ?_
            refine pT (.bool true) ?_
            refine pl_nil ?_
            refine qw_then ?_
            refine cw_clean [0, 3, 53] (ws' := [(0, .slice (some ⟨bs, os, none⟩) n c), (3, .int .i64 (((i : Nat) : Int) : Int)), (53, .bool true)]) (by kernel_rfl) (fun L => ?_)
            refine cw_t (by kernel_rfl) ?_
            refine cw_seq ?_
            refine cw_plain ?_
            refine pT (.bool false) ?_
            refine pl_nil ?_
            refine qw_then ?_
            refine cw_ret ?_
            refine qw_then_ret ?_
            refine qw_block_ret ?_
            refine qw_then_ret ?_
            refine qw_then_ret ?_
            refine qw_block_ret ?_
            refine qw_then_ret ?_
            refine qw_ret [.bool false] rfl ⟨(by kernel_rfl), trivial⟩ ?_
            exact ⟨congrArg (fun b => Ending.returned (Value.bool b)) (show Mem.okL l = false from Mem.bad_st (i := i) (by omega) (Bool.eq_false_iff.2 fun hz => by have := Mem.okSt_iff.1 hz; omega)).symm, hE⟩
          ·
            refine pl_take (.bool false) rfl (by kernel_rfl) (by kernel_rfl) (by kernel_rfl) (ev_ndec (show _ = Result.ok (Next.value (Value.bool (decide (((stN l i).un : Int) < (1 : Int))))) _ from by kernel_rfl) (hc14)) ?_
            refine pT (.bool false) ?_
            refine pT (.bool false) ?_
            refine pT (.slice (some ⟨bs, os, none⟩) n c) ?_
            refine pT (.int .i64 (((i : Nat) : Int) : Int)) ?_
            refine pl_take (.pointer (some ⟨bs, os + i * 4, none⟩)) rfl (by kernel_rfl) (by kernel_rfl) (by kernel_rfl) (ex_index (p := .slice (some ⟨bs, os, none⟩) n c) (i := .int .i64 ((i : Nat) : Int)) rfl (by kernel_rfl) (by kernel_rfl) (ix27 (k := i) (by omega))) ?_
            refine pT (.pointer (some ⟨bs, os + i * 4 + 1, none⟩)) ?_
            refine pl_take (.int .i64 ((stN l i).un : Int)) rfl (by kernel_rfl) (by kernel_rfl) (by kernel_rfl) (ex_load rfl (by kernel_rfl) (ld3 ((e0.cell q9)))) ?_
            by_cases hc15 : ((stN l i).un : Int) > (1000000 : Int)
            ·
              refine pl_take (.bool true) rfl (by kernel_rfl) (by kernel_rfl) (by kernel_rfl) (ev_dec (show _ = Result.ok (Next.value (Value.bool (decide (((stN l i).un : Int) > (1000000 : Int))))) _ from by kernel_rfl) (hc15)) ?_
              refine pT (.bool true) ?_
              refine pT (.bool true) ?_
              refine pl_skip rfl (by kernel_rfl) (by kernel_rfl) (by kernel_rfl) ?_
              refine pl_skip rfl (by kernel_rfl) (by kernel_rfl) (by kernel_rfl) ?_
              refine pl_skip rfl (by kernel_rfl) (by kernel_rfl) (by kernel_rfl) ?_
              refine pl_skip rfl (by kernel_rfl) (by kernel_rfl) (by kernel_rfl) ?_
              refine pl_skip rfl (by kernel_rfl) (by kernel_rfl) (by kernel_rfl) ?_
              refine pl_skip rfl (by kernel_rfl) (by kernel_rfl) (by kernel_rfl) ?_
              refine pl_skip rfl (by kernel_rfl) (by kernel_rfl) (by kernel_rfl) ?_
              refine pT (.bool true) ?_
              refine pl_nil ?_
              refine qw_then ?_
              refine cw_clean [0, 3, 53] (ws' := [(0, .slice (some ⟨bs, os, none⟩) n c), (3, .int .i64 (((i : Nat) : Int) : Int)), (53, .bool true)]) (by kernel_rfl) (fun L => ?_)
              refine cw_t (by kernel_rfl) ?_
              refine cw_seq ?_
              refine cw_plain ?_
              refine pT (.bool false) ?_
              refine pl_nil ?_
              refine qw_then ?_
              refine cw_ret ?_
              refine qw_then_ret ?_
              refine qw_block_ret ?_
              refine qw_then_ret ?_
              refine qw_then_ret ?_
              refine qw_block_ret ?_
              refine qw_then_ret ?_
              refine qw_ret [.bool false] rfl ⟨(by kernel_rfl), trivial⟩ ?_
              exact ⟨congrArg (fun b => Ending.returned (Value.bool b)) (show Mem.okL l = false from Mem.bad_st (i := i) (by omega) (Bool.eq_false_iff.2 fun hz => by have := Mem.okSt_iff.1 hz; omega)).symm, hE⟩
            ·
              refine pl_take (.bool false) rfl (by kernel_rfl) (by kernel_rfl) (by kernel_rfl) (ev_ndec (show _ = Result.ok (Next.value (Value.bool (decide (((stN l i).un : Int) > (1000000 : Int))))) _ from by kernel_rfl) (hc15)) ?_
              refine pT (.bool false) ?_
              refine pT (.bool false) ?_
              refine pT (.slice (some ⟨bs, os, none⟩) n c) ?_
              refine pT (.int .i64 (((i : Nat) : Int) : Int)) ?_
              refine pl_take (.pointer (some ⟨bs, os + i * 4, none⟩)) rfl (by kernel_rfl) (by kernel_rfl) (by kernel_rfl) (ex_index (p := .slice (some ⟨bs, os, none⟩) n c) (i := .int .i64 ((i : Nat) : Int)) rfl (by kernel_rfl) (by kernel_rfl) (ix27 (k := i) (by omega))) ?_
              refine pT (.pointer (some ⟨bs, os + i * 4 + 2, none⟩)) ?_
              refine pl_take (.agg #[.int .i64 ((stN l i).fr : Int), .int .i64 ((stN l i).to : Int)]) rfl (by kernel_rfl) (by kernel_rfl) (by kernel_rfl) (ex_load rfl (by kernel_rfl) (ld24 ((e0.cell q10)) ((e0.cell q11)))) ?_
              rcases Bool.eq_false_or_eq_true (Mem.spB ((stN l i).fr, (stN l i).to)) with hb16 | hb16
              ·
                have hq17 := Mem.spB_t.1 hb16; simp only [] at hq17
                refine pl_step rfl (by kernel_rfl) (by kernel_rfl) (by kernel_rfl) (sn_call (f := 48) (args := #[.agg #[.int .i64 ((stN l i).fr : Int), .int .i64 ((stN l i).to : Int)]]) (by kernel_rfl) ((proper_r (r := true) ((stN l i).fr) ((stN l i).to) _ (hb16)).mono ?_))
                rintro e w18 ⟨rfl, hb⟩
                replace e0 := e0.trans hb
                replace hE := hE.trans hb
                have hs19 := hb.size
                clear hb
                refine ⟨_, rfl, ?_⟩
                refine pT (.bool false) ?_
                refine pT (.bool false) ?_
                refine pl_nil ?_
                refine qw_then ?_
                refine cw_clean [0, 3, 53] (ws' := [(0, .slice (some ⟨bs, os, none⟩) n c), (3, .int .i64 (((i : Nat) : Int) : Int)), (53, .bool false)]) (by kernel_rfl) (fun L => ?_)
                refine cw_f (by kernel_rfl) ?_
                refine cw_skip ?_
                refine qw_then ?_
                refine cw_seq ?_
                have hoki : Mem.okSt (stN l i) = true := Mem.okSt_iff.2 ⟨by omega, by omega, hb16⟩
                refine cw_plain ?_
                refine pT (.int .i64 0) ?_
                refine pl_nil ?_
                refine qw_then ?_
                refine cw_block ?_
                refine cw_loop [0, 3, 4] (fun ws' wr m => ∃ k : Nat, ws' = [(0, .slice (some ⟨bs, os, none⟩) n c), (3, .int .i64 (((i : Nat) : Int) : Int)), (4, .int .i64 (((k : Nat) : Int) : Int))] ∧ m = i - k ∧ w18.heap.size ≤ wr.heap.size ∧ Ext w0 wr ∧ Ext w wr ∧ k ≤ i ∧ ((l.take k).any fun y => decide (y.im = (stN l i).im)) = false) (ws0 := [(0, .slice (some ⟨bs, os, none⟩) n c), (3, .int .i64 (((i : Nat) : Int) : Int)), (4, .int .i64 0)]) (by kernel_rfl) _ ⟨0, rfl, rfl, Nat.le_refl _, e0, hE, Nat.zero_le _, (by rw [List.take_zero]; rfl)⟩ ?_
                clear e0 hE
                rintro m22 L ws w21 ⟨k, rfl, rfl, hs20, e0, hE, hk, hns⟩
                by_cases hlt : k < i
                ·
                  obtain ⟨q23, q24, q25, q26⟩ := hx k (show k < n by omega)
                  refine cw_seq ?_
                  refine cw_seq ?_
                  refine cw_plain ?_
                  refine pT (.int .i64 (((k : Nat) : Int) : Int)) ?_
                  refine pT (.int .i64 (((i : Nat) : Int) : Int)) ?_
                  refine pl_take (.bool true) rfl (by kernel_rfl) (by kernel_rfl) (by kernel_rfl) (ev_dec (show _ = Result.ok (Next.value (Value.bool (decide ((((k : Nat) : Int) : Int) < (((i : Nat) : Int) : Int))))) _ from by kernel_rfl) (by omega)) ?_
                  refine pl_nil ?_
                  refine qw_then ?_
                  refine cw_t (by kernel_rfl) ?_
                  refine cw_skip ?_
                  refine qw_then ?_
                  refine cw_seq ?_
                  refine cw_block ?_
                  refine cw_seq ?_
                  by_cases hne9 : ((stN l k).im : Int) = ((stN l i).im : Int)
                  ·
                    refine cw_draw [(some 59, [0], []), (some 60, [4], []), (some 61, [59, 60], [0, 1]), (some 62, [61], [2]), (some 63, [62], [3]), (some 64, [0], []), (some 65, [3], []), (some 66, [64, 65], [5, 6]), (some 67, [66], [7]), (some 68, [67], [8]), (some 69, [63, 68], [4, 9])] (fun w' => Ext w0 w') (by kernel_rfl) (by kernel_rfl) (by kernel_rfl) (by kernel_rfl) ((calm_then (calm_block (calm_then (calm_then (calm_block (calm_block (calm_then (calm_then (calm_block (calm_then calm_body))))))))))) (Ext.drew e0) (fun ops Q X27 hb hL hR hK => ?_)
                    replace e0 := e0.trans hb
                    replace hE := hE.trans hb
                    have hs28 := hb.size
                    clear hb
                    refine wd_take 0 (.slice (some ⟨bs, os, none⟩) n c) hR rfl (by kernel_rfl) rfl (by kernel_rfl) (fun w _ => by kernel_rfl) (e0) ?_
                    refine wd_take 1 (.int .i64 (((k : Nat) : Int) : Int)) hR rfl (by kernel_rfl) rfl (by kernel_rfl) (fun w _ => by kernel_rfl) (e0) ?_
                    refine wd_take 2 (.pointer (some ⟨bs, os + k * 4, none⟩)) hR rfl (by kernel_rfl) rfl (by kernel_rfl) (fun w _ => ex_index (p := .slice (some ⟨bs, os, none⟩) n c) (i := .int .i64 ((k : Nat) : Int)) rfl (by kernel_rfl) (by kernel_rfl) (ix27 (k := k) (by omega))) (e0) ?_
                    refine wd_take 3 (.pointer (some ⟨bs, os + k * 4, none⟩)) hR rfl (by kernel_rfl) rfl (by kernel_rfl) (fun w _ => by kernel_rfl) (e0) ?_
                    refine wd_take 4 (.int .i64 ((stN l k).im : Int)) hR rfl (by kernel_rfl) rfl (by kernel_rfl) (fun w hS => ex_load rfl (by kernel_rfl) (ld3 (hS.cell q23))) (e0) ?_
                    refine wd_take 5 (.slice (some ⟨bs, os, none⟩) n c) hR rfl (by kernel_rfl) rfl (by kernel_rfl) (fun w _ => by kernel_rfl) (e0) ?_
                    refine wd_take 6 (.int .i64 (((i : Nat) : Int) : Int)) hR rfl (by kernel_rfl) rfl (by kernel_rfl) (fun w _ => by kernel_rfl) (e0) ?_
                    refine wd_take 7 (.pointer (some ⟨bs, os + i * 4, none⟩)) hR rfl (by kernel_rfl) rfl (by kernel_rfl) (fun w _ => ex_index (p := .slice (some ⟨bs, os, none⟩) n c) (i := .int .i64 ((i : Nat) : Int)) rfl (by kernel_rfl) (by kernel_rfl) (ix27 (k := i) (by omega))) (e0) ?_
                    refine wd_take 8 (.pointer (some ⟨bs, os + i * 4, none⟩)) hR rfl (by kernel_rfl) rfl (by kernel_rfl) (fun w _ => by kernel_rfl) (e0) ?_
                    refine wd_take 9 (.int .i64 ((stN l i).im : Int)) hR rfl (by kernel_rfl) rfl (by kernel_rfl) (fun w hS => ex_load rfl (by kernel_rfl) (ld3 (hS.cell q8))) (e0) ?_
                    refine wd_take 10 (.bool true) hR rfl (by kernel_rfl) rfl (by kernel_rfl) (fun w _ => ev_eq (show _ = Result.ok (Next.value (Value.bool (((stN l k).im : Int) == ((stN l i).im : Int)))) _ from by kernel_rfl) (hne9)) (e0) ?_
                    refine wd_end hL hR hK (by kernel_rfl) ?_
                    refine qw_then ?_
                    refine cw_clean [0, 3, 4, 69] (ws' := [(0, .slice (some ⟨bs, os, none⟩) n c), (3, .int .i64 (((i : Nat) : Int) : Int)), (4, .int .i64 (((k : Nat) : Int) : Int)), (69, .bool true)]) (by kernel_rfl) (fun L => ?_)
                    refine cw_t (by kernel_rfl) ?_
                    refine cw_seq ?_
                    refine cw_plain ?_
                    refine pT (.bool false) ?_
                    refine pl_nil ?_
                    refine qw_then ?_
                    refine cw_ret ?_
                    refine qw_block_ret ?_
                    refine qw_then_ret ?_
                    refine qw_then_ret ?_
                    refine qw_block_ret ?_
                    refine qw_block_ret ?_
                    refine qw_then_ret ?_
                    refine qw_then_ret ?_
                    refine qw_block_ret ?_
                    refine qw_then_ret ?_
                    refine qw_ret [.bool false] rfl ⟨(by kernel_rfl), trivial⟩ ?_
                    exact ⟨congrArg (fun b => Ending.returned (Value.bool b)) (show Mem.okL l = false from Mem.bad_seen (i := i) (by omega) (Mem.any_take (k := k) (by omega) (by omega) hne9)).symm, hE⟩
                  ·
                    refine cw_draw [(some 59, [0], []), (some 60, [4], []), (some 61, [59, 60], [0, 1]), (some 62, [61], [2]), (some 63, [62], [3]), (some 64, [0], []), (some 65, [3], []), (some 66, [64, 65], [5, 6]), (some 67, [66], [7]), (some 68, [67], [8]), (some 69, [63, 68], [4, 9])] (fun w' => Ext w0 w') (by kernel_rfl) (by kernel_rfl) (by kernel_rfl) (by kernel_rfl) ((calm_then (calm_block (calm_then (calm_then (calm_block (calm_block (calm_then (calm_then (calm_block (calm_then calm_body))))))))))) (Ext.drew e0) (fun ops Q X29 hb hL hR hK => ?_)
                    replace e0 := e0.trans hb
                    replace hE := hE.trans hb
                    have hs30 := hb.size
                    clear hb
                    refine wd_take 0 (.slice (some ⟨bs, os, none⟩) n c) hR rfl (by kernel_rfl) rfl (by kernel_rfl) (fun w _ => by kernel_rfl) (e0) ?_
                    refine wd_take 1 (.int .i64 (((k : Nat) : Int) : Int)) hR rfl (by kernel_rfl) rfl (by kernel_rfl) (fun w _ => by kernel_rfl) (e0) ?_
                    refine wd_take 2 (.pointer (some ⟨bs, os + k * 4, none⟩)) hR rfl (by kernel_rfl) rfl (by kernel_rfl) (fun w _ => ex_index (p := .slice (some ⟨bs, os, none⟩) n c) (i := .int .i64 ((k : Nat) : Int)) rfl (by kernel_rfl) (by kernel_rfl) (ix27 (k := k) (by omega))) (e0) ?_
                    refine wd_take 3 (.pointer (some ⟨bs, os + k * 4, none⟩)) hR rfl (by kernel_rfl) rfl (by kernel_rfl) (fun w _ => by kernel_rfl) (e0) ?_
                    refine wd_take 4 (.int .i64 ((stN l k).im : Int)) hR rfl (by kernel_rfl) rfl (by kernel_rfl) (fun w hS => ex_load rfl (by kernel_rfl) (ld3 (hS.cell q23))) (e0) ?_
                    refine wd_take 5 (.slice (some ⟨bs, os, none⟩) n c) hR rfl (by kernel_rfl) rfl (by kernel_rfl) (fun w _ => by kernel_rfl) (e0) ?_
                    refine wd_take 6 (.int .i64 (((i : Nat) : Int) : Int)) hR rfl (by kernel_rfl) rfl (by kernel_rfl) (fun w _ => by kernel_rfl) (e0) ?_
                    refine wd_take 7 (.pointer (some ⟨bs, os + i * 4, none⟩)) hR rfl (by kernel_rfl) rfl (by kernel_rfl) (fun w _ => ex_index (p := .slice (some ⟨bs, os, none⟩) n c) (i := .int .i64 ((i : Nat) : Int)) rfl (by kernel_rfl) (by kernel_rfl) (ix27 (k := i) (by omega))) (e0) ?_
                    refine wd_take 8 (.pointer (some ⟨bs, os + i * 4, none⟩)) hR rfl (by kernel_rfl) rfl (by kernel_rfl) (fun w _ => by kernel_rfl) (e0) ?_
                    refine wd_take 9 (.int .i64 ((stN l i).im : Int)) hR rfl (by kernel_rfl) rfl (by kernel_rfl) (fun w hS => ex_load rfl (by kernel_rfl) (ld3 (hS.cell q8))) (e0) ?_
                    refine wd_take 10 (.bool false) hR rfl (by kernel_rfl) rfl (by kernel_rfl) (fun w _ => ev_neq (show _ = Result.ok (Next.value (Value.bool (((stN l k).im : Int) == ((stN l i).im : Int)))) _ from by kernel_rfl) (hne9)) (e0) ?_
                    refine wd_end hL hR hK (by kernel_rfl) ?_
                    refine qw_then ?_
                    refine cw_clean [0, 3, 4, 69] (ws' := [(0, .slice (some ⟨bs, os, none⟩) n c), (3, .int .i64 (((i : Nat) : Int) : Int)), (4, .int .i64 (((k : Nat) : Int) : Int)), (69, .bool false)]) (by kernel_rfl) (fun L => ?_)
                    refine cw_f (by kernel_rfl) ?_
                    refine cw_skip ?_
                    refine qw_block ?_
                    refine qw_then ?_
                    refine cw_plain ?_
                    refine pT (.int .i64 (((k : Nat) : Int) : Int)) ?_
                    refine pl_take (.int .i64 (((k + 1 : Nat) : Int) : Int)) rfl (by kernel_rfl) (by kernel_rfl) (by kernel_rfl) (ev_wrap (by kernel_rfl) (by omega) (by omega)) ?_
                    refine pT (.int .i64 (((k + 1 : Nat) : Int) : Int)) ?_
                    refine pl_nil ?_
                    refine qw_round [0, 3, 4] (ws' := [(0, .slice (some ⟨bs, os, none⟩) n c), (3, .int .i64 (((i : Nat) : Int) : Int)), (4, .int .i64 (((k + 1 : Nat) : Int) : Int))]) (by kernel_rfl) _ ?_ ⟨(k + 1), rfl, rfl, (Nat.le_trans hs20 hs30), e0, hE, by omega, (Mem.any_next (by omega) hns hne9)⟩
                    omega
                ·
                  have hki : k = i := by omega
                  have hns9 := hns; rw [hki] at hns9
                  refine cw_seq ?_
                  refine cw_seq ?_
                  refine cw_plain ?_
                  refine pT (.int .i64 (((k : Nat) : Int) : Int)) ?_
                  refine pT (.int .i64 (((i : Nat) : Int) : Int)) ?_
                  refine pl_take (.bool false) rfl (by kernel_rfl) (by kernel_rfl) (by kernel_rfl) (ev_ndec (show _ = Result.ok (Next.value (Value.bool (decide ((((k : Nat) : Int) : Int) < (((i : Nat) : Int) : Int))))) _ from by kernel_rfl) (by omega)) ?_
                  refine pl_nil ?_
                  refine qw_then ?_
                  refine cw_f (by kernel_rfl) ?_
                  refine cw_exit ?_
                  refine qw_then_exit ?_
                  refine qw_then_exit ?_
                  refine qw_block_out ?_
                  refine qw_block ?_
                  refine qw_then ?_
                  refine cw_plain ?_
                  refine pT (.int .i64 (((i : Nat) : Int) : Int)) ?_
                  refine pl_take (.int .i64 (((i + 1 : Nat) : Int) : Int)) rfl (by kernel_rfl) (by kernel_rfl) (by kernel_rfl) (ev_wrap (by kernel_rfl) (by omega) (by omega)) ?_
                  refine pT (.int .i64 (((i + 1 : Nat) : Int) : Int)) ?_
                  refine pl_nil ?_
                  refine qw_round [0, 3] (ws' := [(0, .slice (some ⟨bs, os, none⟩) n c), (3, .int .i64 (((i + 1 : Nat) : Int) : Int))]) (by kernel_rfl) _ ?_ ⟨(i + 1), rfl, rfl, (Nat.le_trans hs5 (Nat.le_trans hs19 hs20)), e0, hE, by omega, by omega, Mem.ok_next (by omega) hpre hoki hns9⟩
                  omega
              ·
                refine pl_step rfl (by kernel_rfl) (by kernel_rfl) (by kernel_rfl) (sn_call (f := 48) (args := #[.agg #[.int .i64 ((stN l i).fr : Int), .int .i64 ((stN l i).to : Int)]]) (by kernel_rfl) ((proper_r (r := false) ((stN l i).fr) ((stN l i).to) _ (hb16)).mono ?_))
                rintro e w31 ⟨rfl, hb⟩
                replace e0 := e0.trans hb
                replace hE := hE.trans hb
                have hs32 := hb.size
                clear hb
                refine ⟨_, rfl, ?_⟩
                refine pT (.bool true) ?_
                refine pT (.bool true) ?_
                refine pl_nil ?_
                refine qw_then ?_
                refine cw_clean [0, 3, 53] (ws' := [(0, .slice (some ⟨bs, os, none⟩) n c), (3, .int .i64 (((i : Nat) : Int) : Int)), (53, .bool true)]) (by kernel_rfl) (fun L => ?_)
                refine cw_t (by kernel_rfl) ?_
                refine cw_seq ?_
                refine cw_plain ?_
                refine pT (.bool false) ?_
                refine pl_nil ?_
                refine qw_then ?_
                refine cw_ret ?_
                refine qw_then_ret ?_
                refine qw_block_ret ?_
                refine qw_then_ret ?_
                refine qw_then_ret ?_
                refine qw_block_ret ?_
                refine qw_then_ret ?_
                refine qw_ret [.bool false] rfl ⟨(by kernel_rfl), trivial⟩ ?_
                exact ⟨congrArg (fun b => Ending.returned (Value.bool b)) (show Mem.okL l = false from Mem.bad_st (i := i) (by omega) (Bool.eq_false_iff.2 fun hz => by have := (Mem.okSt_iff.1 hz).2.2; rw [hb16] at this; cases this)).symm, hE⟩
    ·
      refine cw_seq ?_
      refine cw_seq ?_
      refine cw_plain ?_
      refine pT (.int .i64 (((i : Nat) : Int) : Int)) ?_
      refine pT (.slice a n c) ?_
      refine pT (.int .i64 (((n : Nat) : Int) : Int)) ?_
      refine pl_take (.bool true) rfl (by kernel_rfl) (by kernel_rfl) (by kernel_rfl) (ev_dec (show _ = Result.ok (Next.value (Value.bool (decide ((((i : Nat) : Int) : Int) < (((n : Nat) : Int) : Int))))) _ from by kernel_rfl) (by omega)) ?_
      refine pT (.bool true) ?_
      refine pT (.int .i64 (((i : Nat) : Int) : Int)) ?_
      refine pl_take (.bool false) rfl (by kernel_rfl) (by kernel_rfl) (by kernel_rfl) (ev_ndec (show _ = Result.ok (Next.value (Value.bool (decide ((((i : Nat) : Int) : Int) < (25 : Int))))) _ from by kernel_rfl) (by omega)) ?_
      refine pT (.bool false) ?_
      refine pl_nil ?_
      refine qw_then ?_
      refine cw_f (by kernel_rfl) ?_
      refine cw_exit ?_
      refine qw_then_exit ?_
      refine qw_then_exit ?_
      refine qw_block_out ?_
      refine qw_then ?_
      refine cw_seq ?_
      refine cw_plain ?_
      refine pT (.slice a n c) ?_
      refine pT (.int .i64 (((n : Nat) : Int) : Int)) ?_
      by_cases hc33 : (((n : Nat) : Int) : Int) ≤ (24 : Int)
      ·
        refine pl_take (.bool true) rfl (by kernel_rfl) (by kernel_rfl) (by kernel_rfl) (ev_dec (show _ = Result.ok (Next.value (Value.bool (decide ((((n : Nat) : Int) : Int) ≤ (24 : Int))))) _ from by kernel_rfl) (hc33)) ?_
        refine pT (.bool true) ?_
        refine pl_nil ?_
        refine qw_then ?_
        refine cw_ret ?_
        refine qw_ret [.bool true] rfl ⟨(by kernel_rfl), trivial⟩ ?_
        exact ⟨congrArg (fun b => Ending.returned (Value.bool b)) (show Mem.okL l = true from by have hz := hpre; rw [List.take_of_length_le (show l.length ≤ i by omega)] at hz; unfold Mem.okL; rw [hz.1, hz.2, decide_eq_true (show l.length ≤ 24 by omega)]; rfl).symm, hE⟩
      ·
        refine pl_take (.bool false) rfl (by kernel_rfl) (by kernel_rfl) (by kernel_rfl) (ev_ndec (show _ = Result.ok (Next.value (Value.bool (decide ((((n : Nat) : Int) : Int) ≤ (24 : Int))))) _ from by kernel_rfl) (hc33)) ?_
        refine pT (.bool false) ?_
        refine pl_nil ?_
        refine qw_then ?_
        refine cw_ret ?_
        refine qw_ret [.bool false] rfl ⟨(by kernel_rfl), trivial⟩ ?_
        exact ⟨congrArg (fun b => Ending.returned (Value.bool b)) (show Mem.okL l = false from by unfold Mem.okL; rw [decide_eq_false (show ¬ l.length ≤ 24 by omega)]; simp).symm, hE⟩
  ·
    refine cw_seq ?_
    refine cw_seq ?_
    refine cw_plain ?_
    refine pT (.int .i64 (((i : Nat) : Int) : Int)) ?_
    refine pT (.slice a n c) ?_
    refine pT (.int .i64 (((n : Nat) : Int) : Int)) ?_
    refine pl_take (.bool false) rfl (by kernel_rfl) (by kernel_rfl) (by kernel_rfl) (ev_ndec (show _ = Result.ok (Next.value (Value.bool (decide ((((i : Nat) : Int) : Int) < (((n : Nat) : Int) : Int))))) _ from by kernel_rfl) (by omega)) ?_
    refine pT (.bool false) ?_
    refine pl_skip rfl (by kernel_rfl) (by kernel_rfl) (by kernel_rfl) ?_
    refine pl_skip rfl (by kernel_rfl) (by kernel_rfl) (by kernel_rfl) ?_
    refine pT (.bool false) ?_
    refine pl_nil ?_
    refine qw_then ?_
    refine cw_f (by kernel_rfl) ?_
    refine cw_exit ?_
    refine qw_then_exit ?_
    refine qw_then_exit ?_
    refine qw_block_out ?_
    refine qw_then ?_
    refine cw_seq ?_
    refine cw_plain ?_
    refine pT (.slice a n c) ?_
    refine pT (.int .i64 (((n : Nat) : Int) : Int)) ?_
    by_cases hc34 : (((n : Nat) : Int) : Int) ≤ (24 : Int)
    ·
      refine pl_take (.bool true) rfl (by kernel_rfl) (by kernel_rfl) (by kernel_rfl) (ev_dec (show _ = Result.ok (Next.value (Value.bool (decide ((((n : Nat) : Int) : Int) ≤ (24 : Int))))) _ from by kernel_rfl) (hc34)) ?_
      refine pT (.bool true) ?_
      refine pl_nil ?_
      refine qw_then ?_
      refine cw_ret ?_
      refine qw_ret [.bool true] rfl ⟨(by kernel_rfl), trivial⟩ ?_
      exact ⟨congrArg (fun b => Ending.returned (Value.bool b)) (show Mem.okL l = true from by have hz := hpre; rw [List.take_of_length_le (show l.length ≤ i by omega)] at hz; unfold Mem.okL; rw [hz.1, hz.2, decide_eq_true (show l.length ≤ 24 by omega)]; rfl).symm, hE⟩
    ·
      refine pl_take (.bool false) rfl (by kernel_rfl) (by kernel_rfl) (by kernel_rfl) (ev_ndec (show _ = Result.ok (Next.value (Value.bool (decide ((((n : Nat) : Int) : Int) ≤ (24 : Int))))) _ from by kernel_rfl) (hc34)) ?_
      refine pT (.bool false) ?_
      refine pl_nil ?_
      refine qw_then ?_
      refine cw_ret ?_
      refine qw_ret [.bool false] rfl ⟨(by kernel_rfl), trivial⟩ ?_
      exact ⟨congrArg (fun b => Ending.returned (Value.bool b)) (show Mem.okL l = false from by unfold Mem.okL; rw [decide_eq_false (show ¬ l.length ≤ 24 by omega)]; simp).symm, hE⟩
theorem rValid_r {w0 : World} {a : Option Addr} {n : Nat} {l : List Mem.St} {r : Bool} (c : Nat) (w : World) (h : StsAt w0 a n l) (e0 : Ext w0 w) (hr : Mem.okL l = r) : Calls Try.prog 19 #[.slice a n c] w fun e w' => e = .returned (.bool r) ∧ Ext w w' := hr ▸ rValid_c c w h e0
set_option maxRecDepth 1000000 in
set_option maxHeartbeats 4000000 in
theorem rfill_c {w0 : World} {a : Option Addr} {n : Nat} {l : List Mem.St} (t : Int) (c : Nat) (w : World) (h : StsAt w0 a n l) (e0 : Ext w0 w) (hok : Mem.okL l = true) : Calls Try.prog 34 #[.slice a n c, .int .i64 t] w fun e w' => e = .returned (.int .i64 (Mem.fill l t)) ∧ Ext w w' := by
  have hln := h.1; have hmx := h.2.1
  have hs0 := e0.size
  obtain ⟨bs, os, ha, hbl, hx⟩ := h.parts
  refine calls_cw 39 [(1, .int .i64 (t : Int)), (0, .slice a n c)] Try.func34 rfl Try.ntmps34 (by kernel_rfl) (by kernel_rfl) (fun L => ?_)
  have hE : Ext w w := Ext.refl w
  refine cw_seq ?_
  refine cw_plain ?_
  refine pT (.int .i64 0) ?_
  refine pl_nil ?_
  refine qw_then ?_
  refine cw_seq ?_
  refine cw_plain ?_
  refine pT (.int .i64 0) ?_
  refine pl_nil ?_
  refine qw_then ?_
  refine cw_seq ?_
  refine cw_seq ?_
  refine cw_plain ?_
  refine pT (.int .i64 0) ?_
  refine pl_nil ?_
  refine qw_then ?_
  refine cw_block ?_
  refine cw_loop [0, 1, 5, 6] (fun ws' wr m => ∃ i : Nat, ∃ sm : Int, ws' = [(0, .slice a n c), (1, .int .i64 (t : Int)), (5, .int .i64 (sm : Int)), (6, .int .i64 (((i : Nat) : Int) : Int))] ∧ m = n - i ∧ w.heap.size ≤ wr.heap.size ∧ Ext w0 wr ∧ Ext w wr ∧ i ≤ n ∧ sm = Mem.fill (l.take i) t) (ws0 := [(0, .slice a n c), (1, .int .i64 (t : Int)), (5, .int .i64 0), (6, .int .i64 0)]) (by kernel_rfl) _ ⟨0, 0, rfl, rfl, Nat.le_refl _, e0, hE, Nat.zero_le _, (by rw [List.take_zero]; rfl)⟩ ?_
  clear e0 hE
  rintro m7 L ws w6 ⟨i, sm, rfl, rfl, hs5, e0, hE, hi, hsm⟩
  by_cases hlt : i < n
  ·
    obtain rfl := ha (by omega)
    obtain ⟨q8, q9, q10, q11⟩ := hx i hlt
    have hb9 := Mem.fill_take_bd hok (i + 1) t; have hb8 := Mem.fill_bd hok t
    have hnx := Mem.fill_nx (l := l) (t := t) (show i < l.length by omega)
    have hxb := Mem.okL_at hok (stN_mem (show i < l.length by omega))
    refine cw_seq ?_
    refine cw_seq ?_
    refine cw_plain ?_
    refine pT (.int .i64 (((i : Nat) : Int) : Int)) ?_
    refine pT (.slice (some ⟨bs, os, none⟩) n c) ?_
    refine pT (.int .i64 (((n : Nat) : Int) : Int)) ?_
    refine pl_take (.bool true) rfl (by kernel_rfl) (by kernel_rfl) (by kernel_rfl) (ev_dec (show _ = Result.ok (Next.value (Value.bool (decide ((((i : Nat) : Int) : Int) < (((n : Nat) : Int) : Int))))) _ from by kernel_rfl) (by omega)) ?_
    refine pl_nil ?_
    refine qw_then ?_
    refine cw_t (by kernel_rfl) ?_
    refine cw_skip ?_
    refine qw_then ?_
    refine cw_seq ?_
    refine cw_block ?_
    refine cw_seq ?_
    refine cw_plain ?_
    refine pT (.slice (some ⟨bs, os, none⟩) n c) ?_
    refine pT (.int .i64 (((i : Nat) : Int) : Int)) ?_
    refine pl_take (.pointer (some ⟨bs, os + i * 4, none⟩)) rfl (by kernel_rfl) (by kernel_rfl) (by kernel_rfl) (ex_index (p := .slice (some ⟨bs, os, none⟩) n c) (i := .int .i64 ((i : Nat) : Int)) rfl (by kernel_rfl) (by kernel_rfl) (ix27 (k := i) (by omega))) ?_
    refine pT (.pointer (some ⟨bs, os + i * 4 + 2, none⟩)) ?_
    refine pT (.pointer (some ⟨bs, os + i * 4 + 2, none⟩)) ?_
    refine pl_take (.int .i64 ((stN l i).fr : Int)) rfl (by kernel_rfl) (by kernel_rfl) (by kernel_rfl) (ex_load rfl (by kernel_rfl) (ld3 ((e0.cell q10)))) ?_
    refine pT (.int .i64 (t : Int)) ?_
    by_cases hc12 : ((stN l i).fr : Int) ≤ (t : Int)
    ·
      refine pl_take (.bool true) rfl (by kernel_rfl) (by kernel_rfl) (by kernel_rfl) (ev_dec (show _ = Result.ok (Next.value (Value.bool (decide (((stN l i).fr : Int) ≤ (t : Int))))) _ from by kernel_rfl) (hc12)) ?_
      refine pT (.bool true) ?_
      refine pT (.int .i64 (t : Int)) ?_
      refine pT (.slice (some ⟨bs, os, none⟩) n c) ?_
      refine pT (.int .i64 (((i : Nat) : Int) : Int)) ?_
      refine pl_take (.pointer (some ⟨bs, os + i * 4, none⟩)) rfl (by kernel_rfl) (by kernel_rfl) (by kernel_rfl) (ex_index (p := .slice (some ⟨bs, os, none⟩) n c) (i := .int .i64 ((i : Nat) : Int)) rfl (by kernel_rfl) (by kernel_rfl) (ix27 (k := i) (by omega))) ?_
      refine pT (.pointer (some ⟨bs, os + i * 4 + 2, none⟩)) ?_
      refine pT (.pointer (some ⟨bs, os + i * 4 + 2 + 1, none⟩)) ?_
      refine pl_take (.int .i64 ((stN l i).to : Int)) rfl (by kernel_rfl) (by kernel_rfl) (by kernel_rfl) (ex_load rfl (by kernel_rfl) (ld3 ((e0.cell q11)))) ?_
      by_cases hc13 : (t : Int) < ((stN l i).to : Int)
      ·
        refine pl_take (.bool true) rfl (by kernel_rfl) (by kernel_rfl) (by kernel_rfl) (ev_dec (show _ = Result.ok (Next.value (Value.bool (decide ((t : Int) < ((stN l i).to : Int))))) _ from by kernel_rfl) (hc13)) ?_
        refine pT (.bool true) ?_
        refine pl_nil ?_
        refine qw_then ?_
        refine cw_clean [0, 1, 5, 6, 30] (ws' := [(0, .slice (some ⟨bs, os, none⟩) n c), (1, .int .i64 (t : Int)), (5, .int .i64 (sm : Int)), (6, .int .i64 (((i : Nat) : Int) : Int)), (30, .bool true)]) (by kernel_rfl) (fun L => ?_)
        refine cw_t (by kernel_rfl) ?_
        have hpy := Mem.part_y (x := (stN l i)) (t := t) ⟨by omega, by omega⟩
        have hb7 := Mem.fill_take_bd hok i t
        refine cw_plain ?_
        refine pT (.int .i64 (sm : Int)) ?_
        refine pT (.slice (some ⟨bs, os, none⟩) n c) ?_
        refine pT (.int .i64 (((i : Nat) : Int) : Int)) ?_
        refine pl_take (.pointer (some ⟨bs, os + i * 4, none⟩)) rfl (by kernel_rfl) (by kernel_rfl) (by kernel_rfl) (ex_index (p := .slice (some ⟨bs, os, none⟩) n c) (i := .int .i64 ((i : Nat) : Int)) rfl (by kernel_rfl) (by kernel_rfl) (ix27 (k := i) (by omega))) ?_
        refine pT (.pointer (some ⟨bs, os + i * 4 + 1, none⟩)) ?_
        refine pl_take (.int .i64 ((stN l i).un : Int)) rfl (by kernel_rfl) (by kernel_rfl) (by kernel_rfl) (ex_load rfl (by kernel_rfl) (ld3 ((e0.cell q9)))) ?_
        refine pl_take (.int .i64 (sm + ((stN l i).un) : Int)) rfl (by kernel_rfl) (by kernel_rfl) (by kernel_rfl) (ev_wrap (by kernel_rfl) (by omega) (by omega)) ?_
        refine pT (.int .i64 (sm + ((stN l i).un) : Int)) ?_
        refine pl_nil ?_
        refine qw_block ?_
        refine qw_then ?_
        refine cw_plain ?_
        refine pT (.int .i64 (((i : Nat) : Int) : Int)) ?_
        refine pl_take (.int .i64 (((i + 1 : Nat) : Int) : Int)) rfl (by kernel_rfl) (by kernel_rfl) (by kernel_rfl) (ev_wrap (by kernel_rfl) (by omega) (by omega)) ?_
        refine pT (.int .i64 (((i + 1 : Nat) : Int) : Int)) ?_
        refine pl_nil ?_
        have hpt : Mem.part t (stN l i) = (stN l i).un := Mem.part_y ⟨by omega, by omega⟩
        refine qw_round [0, 1, 5, 6] (ws' := [(0, .slice (some ⟨bs, os, none⟩) n c), (1, .int .i64 (t : Int)), (5, .int .i64 (sm + ((stN l i).un) : Int)), (6, .int .i64 (((i + 1 : Nat) : Int) : Int))]) (by kernel_rfl) _ ?_ ⟨(i + 1), sm + ((stN l i).un), rfl, rfl, hs5, e0, hE, by omega, by omega⟩
        omega
      ·
        refine pl_take (.bool false) rfl (by kernel_rfl) (by kernel_rfl) (by kernel_rfl) (ev_ndec (show _ = Result.ok (Next.value (Value.bool (decide ((t : Int) < ((stN l i).to : Int))))) _ from by kernel_rfl) (hc13)) ?_
        refine pT (.bool false) ?_
        refine pl_nil ?_
        refine qw_then ?_
        refine cw_clean [0, 1, 5, 6, 30] (ws' := [(0, .slice (some ⟨bs, os, none⟩) n c), (1, .int .i64 (t : Int)), (5, .int .i64 (sm : Int)), (6, .int .i64 (((i : Nat) : Int) : Int)), (30, .bool false)]) (by kernel_rfl) (fun L => ?_)
        refine cw_f (by kernel_rfl) ?_
        refine cw_skip ?_
        refine qw_block ?_
        refine qw_then ?_
        refine cw_plain ?_
        refine pT (.int .i64 (((i : Nat) : Int) : Int)) ?_
        refine pl_take (.int .i64 (((i + 1 : Nat) : Int) : Int)) rfl (by kernel_rfl) (by kernel_rfl) (by kernel_rfl) (ev_wrap (by kernel_rfl) (by omega) (by omega)) ?_
        refine pT (.int .i64 (((i + 1 : Nat) : Int) : Int)) ?_
        refine pl_nil ?_
        have hpt : Mem.part t (stN l i) = 0 := Mem.part_n (fun hz => by omega)
        refine qw_round [0, 1, 5, 6] (ws' := [(0, .slice (some ⟨bs, os, none⟩) n c), (1, .int .i64 (t : Int)), (5, .int .i64 (sm : Int)), (6, .int .i64 (((i + 1 : Nat) : Int) : Int))]) (by kernel_rfl) _ ?_ ⟨(i + 1), sm, rfl, rfl, hs5, e0, hE, by omega, by omega⟩
        omega
    ·
      refine pl_take (.bool false) rfl (by kernel_rfl) (by kernel_rfl) (by kernel_rfl) (ev_ndec (show _ = Result.ok (Next.value (Value.bool (decide (((stN l i).fr : Int) ≤ (t : Int))))) _ from by kernel_rfl) (hc12)) ?_
      refine pT (.bool false) ?_
      refine pl_skip rfl (by kernel_rfl) (by kernel_rfl) (by kernel_rfl) ?_
      refine pl_skip rfl (by kernel_rfl) (by kernel_rfl) (by kernel_rfl) ?_
      refine pl_skip rfl (by kernel_rfl) (by kernel_rfl) (by kernel_rfl) ?_
      refine pl_skip rfl (by kernel_rfl) (by kernel_rfl) (by kernel_rfl) ?_
      refine pl_skip rfl (by kernel_rfl) (by kernel_rfl) (by kernel_rfl) ?_
      refine pl_skip rfl (by kernel_rfl) (by kernel_rfl) (by kernel_rfl) ?_
      refine pl_skip rfl (by kernel_rfl) (by kernel_rfl) (by kernel_rfl) ?_
      refine pl_skip rfl (by kernel_rfl) (by kernel_rfl) (by kernel_rfl) ?_
      refine pT (.bool false) ?_
      refine pl_nil ?_
      refine qw_then ?_
      refine cw_clean [0, 1, 5, 6, 30] (ws' := [(0, .slice (some ⟨bs, os, none⟩) n c), (1, .int .i64 (t : Int)), (5, .int .i64 (sm : Int)), (6, .int .i64 (((i : Nat) : Int) : Int)), (30, .bool false)]) (by kernel_rfl) (fun L => ?_)
      refine cw_f (by kernel_rfl) ?_
      refine cw_skip ?_
      refine qw_block ?_
      refine qw_then ?_
      refine cw_plain ?_
      refine pT (.int .i64 (((i : Nat) : Int) : Int)) ?_
      refine pl_take (.int .i64 (((i + 1 : Nat) : Int) : Int)) rfl (by kernel_rfl) (by kernel_rfl) (by kernel_rfl) (ev_wrap (by kernel_rfl) (by omega) (by omega)) ?_
      refine pT (.int .i64 (((i + 1 : Nat) : Int) : Int)) ?_
      refine pl_nil ?_
      have hpt : Mem.part t (stN l i) = 0 := Mem.part_n (fun hz => by omega)
      refine qw_round [0, 1, 5, 6] (ws' := [(0, .slice (some ⟨bs, os, none⟩) n c), (1, .int .i64 (t : Int)), (5, .int .i64 (sm : Int)), (6, .int .i64 (((i + 1 : Nat) : Int) : Int))]) (by kernel_rfl) _ ?_ ⟨(i + 1), sm, rfl, rfl, hs5, e0, hE, by omega, by omega⟩
      omega
  ·
    have hv9 : sm = Mem.fill l t := by rw [hsm, List.take_of_length_le (by omega)]
    refine cw_seq ?_
    refine cw_seq ?_
    refine cw_plain ?_
    refine pT (.int .i64 (((i : Nat) : Int) : Int)) ?_
    refine pT (.slice a n c) ?_
    refine pT (.int .i64 (((n : Nat) : Int) : Int)) ?_
    refine pl_take (.bool false) rfl (by kernel_rfl) (by kernel_rfl) (by kernel_rfl) (ev_ndec (show _ = Result.ok (Next.value (Value.bool (decide ((((i : Nat) : Int) : Int) < (((n : Nat) : Int) : Int))))) _ from by kernel_rfl) (by omega)) ?_
    refine pl_nil ?_
    refine qw_then ?_
    refine cw_f (by kernel_rfl) ?_
    refine cw_exit ?_
    refine qw_then_exit ?_
    refine qw_then_exit ?_
    refine qw_block_out ?_
    refine qw_then ?_
    refine cw_seq ?_
    refine cw_plain ?_
    refine pT (.int .i64 (sm : Int)) ?_
    refine pT (.int .i64 (sm : Int)) ?_
    refine pl_nil ?_
    refine qw_then ?_
    refine cw_ret ?_
    refine qw_ret [.int .i64 (sm : Int)] rfl ⟨(by kernel_rfl), trivial⟩ ?_
    rw [← hv9]; exact ⟨rfl, hE⟩
set_option maxRecDepth 1000000 in
set_option maxHeartbeats 4000000 in
theorem rFill_c {w0 : World} {a : Option Addr} {n : Nat} {l : List Mem.St} (t : Int) (c : Nat) (w : World) (h : StsAt w0 a n l) (e0 : Ext w0 w) : Calls Try.prog 21 #[.slice a n c, .int .i64 t] w fun e w' => e = .returned (.tuple #[.int .i64 (Mem.ansV (Mem.okL l && Globe.inB t 0 1000000) (Mem.fill l t)), .int .i64 (Mem.ansE (Mem.okL l && Globe.inB t 0 1000000))]) ∧ Ext w w' := by
  have hln := h.1; have hmx := h.2.1
  have hs0 := e0.size
  obtain ⟨bs, os, ha, hbl, hx⟩ := h.parts
  refine calls_cw 20 [(1, .int .i64 (t : Int)), (0, .slice a n c)] Try.func21 rfl Try.ntmps21 (by kernel_rfl) (by kernel_rfl) (fun L => ?_)
  have hE : Ext w w := Ext.refl w
  refine cw_seq ?_
  refine cw_plain ?_
  refine pT (.int .i64 0) ?_
  refine pT (.int .i64 0) ?_
  refine pl_nil ?_
  refine qw_then ?_
  refine cw_seq ?_
  refine cw_seq ?_
  refine cw_plain ?_
  refine pT (.slice a n c) ?_
  rcases Bool.eq_false_or_eq_true (Mem.okL l) with hb5 | hb5
  ·
    refine pl_step rfl (by kernel_rfl) (by kernel_rfl) (by kernel_rfl) (sn_call (f := 19) (args := #[.slice a n c]) (by kernel_rfl) ((rValid_r (l := l) (r := true) _ _ h e0 hb5).mono ?_))
    rintro e w6 ⟨rfl, hb⟩
    replace e0 := e0.trans hb
    replace hE := hE.trans hb
    have hs7 := hb.size
    clear hb
    refine ⟨_, rfl, ?_⟩
    refine pT (.bool false) ?_
    refine pT (.bool false) ?_
    refine pT (.int .i64 (t : Int)) ?_
    by_cases hc8 : (t : Int) < (0 : Int)
    ·
      refine pl_take (.bool true) rfl (by kernel_rfl) (by kernel_rfl) (by kernel_rfl) (ev_dec (show _ = Result.ok (Next.value (Value.bool (decide ((t : Int) < (0 : Int))))) _ from by kernel_rfl) (hc8)) ?_
      refine pT (.bool true) ?_
      refine pT (.bool true) ?_
      refine pl_skip rfl (by kernel_rfl) (by kernel_rfl) (by kernel_rfl) ?_
      refine pl_skip rfl (by kernel_rfl) (by kernel_rfl) (by kernel_rfl) ?_
      refine pT (.bool true) ?_
      refine pl_nil ?_
      refine qw_then ?_
      refine cw_clean [0, 1, 16] (ws' := [(0, .slice a n c), (1, .int .i64 (t : Int)), (16, .bool true)]) (by kernel_rfl) (fun L => ?_)
      refine cw_t (by kernel_rfl) ?_
      refine cw_seq ?_
      refine cw_plain ?_
      refine pT (.int .i64 0) ?_
      refine pT (.int .i64 110) ?_
      refine pl_nil ?_
      refine qw_then ?_
      refine cw_ret ?_
      refine qw_then_ret ?_
      refine qw_ret [.int .i64 0, .int .i64 110] rfl ⟨(by kernel_rfl), (by kernel_rfl), trivial⟩ ?_
      have hB : (Mem.okL l && Globe.inB t 0 1000000) = false := Bool.eq_false_iff.2 fun hz => by
        have hz := Bool.and_eq_true_iff.1 hz
        have hz := Globe.inB_t.1 hz.2; omega
      rw [hB]; exact ⟨rfl, hE⟩
    ·
      refine pl_take (.bool false) rfl (by kernel_rfl) (by kernel_rfl) (by kernel_rfl) (ev_ndec (show _ = Result.ok (Next.value (Value.bool (decide ((t : Int) < (0 : Int))))) _ from by kernel_rfl) (hc8)) ?_
      refine pT (.bool false) ?_
      refine pT (.bool false) ?_
      refine pT (.int .i64 (t : Int)) ?_
      by_cases hc9 : (t : Int) > (1000000 : Int)
      ·
        refine pl_take (.bool true) rfl (by kernel_rfl) (by kernel_rfl) (by kernel_rfl) (ev_dec (show _ = Result.ok (Next.value (Value.bool (decide ((t : Int) > (1000000 : Int))))) _ from by kernel_rfl) (hc9)) ?_
        refine pT (.bool true) ?_
        refine pl_nil ?_
        refine qw_then ?_
        refine cw_clean [0, 1, 16] (ws' := [(0, .slice a n c), (1, .int .i64 (t : Int)), (16, .bool true)]) (by kernel_rfl) (fun L => ?_)
        refine cw_t (by kernel_rfl) ?_
        refine cw_seq ?_
        refine cw_plain ?_
        refine pT (.int .i64 0) ?_
        refine pT (.int .i64 110) ?_
        refine pl_nil ?_
        refine qw_then ?_
        refine cw_ret ?_
        refine qw_then_ret ?_
        refine qw_ret [.int .i64 0, .int .i64 110] rfl ⟨(by kernel_rfl), (by kernel_rfl), trivial⟩ ?_
        have hB : (Mem.okL l && Globe.inB t 0 1000000) = false := Bool.eq_false_iff.2 fun hz => by
          have hz := Bool.and_eq_true_iff.1 hz
          have hz := Globe.inB_t.1 hz.2; omega
        rw [hB]; exact ⟨rfl, hE⟩
      ·
        refine pl_take (.bool false) rfl (by kernel_rfl) (by kernel_rfl) (by kernel_rfl) (ev_ndec (show _ = Result.ok (Next.value (Value.bool (decide ((t : Int) > (1000000 : Int))))) _ from by kernel_rfl) (hc9)) ?_
        refine pT (.bool false) ?_
        refine pl_nil ?_
        refine qw_then ?_
        refine cw_clean [0, 1, 16] (ws' := [(0, .slice a n c), (1, .int .i64 (t : Int)), (16, .bool false)]) (by kernel_rfl) (fun L => ?_)
        refine cw_f (by kernel_rfl) ?_
        refine cw_skip ?_
        refine qw_then ?_
        refine cw_seq ?_
        have hok9 := hb5
        refine cw_plain ?_
        refine pT (.slice a n c) ?_
        refine pT (.int .i64 (t : Int)) ?_
        refine pl_step rfl (by kernel_rfl) (by kernel_rfl) (by kernel_rfl) (sn_call (f := 34) (args := #[.slice a n c, .int .i64 (t : Int)]) (by kernel_rfl) ((rfill_c t _ _ h e0 hok9).mono ?_))
        rintro e w10 ⟨rfl, hb⟩
        replace e0 := e0.trans hb
        replace hE := hE.trans hb
        have hs11 := hb.size
        clear hb
        refine ⟨_, rfl, ?_⟩
        refine pT (.int .i64 (Mem.fill l t : Int)) ?_
        refine pT (.int .i64 0) ?_
        refine pl_nil ?_
        refine qw_then ?_
        refine cw_ret ?_
        refine qw_ret [.int .i64 (Mem.fill l t : Int), .int .i64 0] rfl ⟨(by kernel_rfl), (by kernel_rfl), trivial⟩ ?_
        have hB : (Mem.okL l && Globe.inB t 0 1000000) = true := by rw [hok9, show Globe.inB t 0 1000000 = true from Globe.inB_t.2 ⟨by omega, by omega⟩]; rfl
        rw [hB, Mem.ansV_t]; exact ⟨rfl, hE⟩
  ·
    refine pl_step rfl (by kernel_rfl) (by kernel_rfl) (by kernel_rfl) (sn_call (f := 19) (args := #[.slice a n c]) (by kernel_rfl) ((rValid_r (l := l) (r := false) _ _ h e0 hb5).mono ?_))
    rintro e w12 ⟨rfl, hb⟩
    replace e0 := e0.trans hb
    replace hE := hE.trans hb
    have hs13 := hb.size
    clear hb
    refine ⟨_, rfl, ?_⟩
    refine pT (.bool true) ?_
    refine pT (.bool true) ?_
    refine pl_skip rfl (by kernel_rfl) (by kernel_rfl) (by kernel_rfl) ?_
    refine pl_skip rfl (by kernel_rfl) (by kernel_rfl) (by kernel_rfl) ?_
    refine pT (.bool true) ?_
    refine pT (.bool true) ?_
    refine pl_skip rfl (by kernel_rfl) (by kernel_rfl) (by kernel_rfl) ?_
    refine pl_skip rfl (by kernel_rfl) (by kernel_rfl) (by kernel_rfl) ?_
    refine pT (.bool true) ?_
    refine pl_nil ?_
    refine qw_then ?_
    refine cw_clean [0, 1, 16] (ws' := [(0, .slice a n c), (1, .int .i64 (t : Int)), (16, .bool true)]) (by kernel_rfl) (fun L => ?_)
    refine cw_t (by kernel_rfl) ?_
    refine cw_seq ?_
    refine cw_plain ?_
    refine pT (.int .i64 0) ?_
    refine pT (.int .i64 110) ?_
    refine pl_nil ?_
    refine qw_then ?_
    refine cw_ret ?_
    refine qw_then_ret ?_
    refine qw_ret [.int .i64 0, .int .i64 110] rfl ⟨(by kernel_rfl), (by kernel_rfl), trivial⟩ ?_
    have hB : (Mem.okL l && Globe.inB t 0 1000000) = false := by rw [hb5]; simp
    rw [hB]; exact ⟨rfl, hE⟩
set_option maxRecDepth 1000000 in
set_option maxHeartbeats 4000000 in
theorem rMost_c {w0 : World} {a : Option Addr} {n : Nat} {l : List Mem.St} (c : Nat) (w : World) (h : StsAt w0 a n l) (e0 : Ext w0 w) : Calls Try.prog 14 #[.slice a n c] w fun e w' => e = .returned (.tuple #[.int .i64 (Mem.ansV (Mem.okL l) ((Mem.mostR l).1)), .int .i64 (Mem.ansV (Mem.okL l) ((Mem.mostR l).2)), .int .i64 (Mem.ansE (Mem.okL l))]) ∧ Ext w w' := by
  have hln := h.1; have hmx := h.2.1
  have hs0 := e0.size
  obtain ⟨bs, os, ha, hbl, hx⟩ := h.parts
  refine calls_cw 45 [(0, .slice a n c)] Try.func14 rfl Try.ntmps14 (by kernel_rfl) (by kernel_rfl) (fun L => ?_)
  have hE : Ext w w := Ext.refl w
  refine cw_seq ?_
  refine cw_plain ?_
  refine pT (.int .i64 0) ?_
  refine pT (.int .i64 0) ?_
  refine pT (.int .i64 0) ?_
  refine pl_nil ?_
  refine qw_then ?_
  refine cw_seq ?_
  refine cw_seq ?_
  refine cw_plain ?_
  refine pT (.slice a n c) ?_
  rcases Bool.eq_false_or_eq_true (Mem.okL l) with hb5 | hb5
  ·
    refine pl_step rfl (by kernel_rfl) (by kernel_rfl) (by kernel_rfl) (sn_call (f := 19) (args := #[.slice a n c]) (by kernel_rfl) ((rValid_r (l := l) (r := true) _ _ h e0 hb5).mono ?_))
    rintro e w6 ⟨rfl, hb⟩
    replace e0 := e0.trans hb
    replace hE := hE.trans hb
    have hs7 := hb.size
    clear hb
    refine ⟨_, rfl, ?_⟩
    refine pT (.bool false) ?_
    refine pl_nil ?_
    refine qw_then ?_
    refine cw_f (by kernel_rfl) ?_
    refine cw_skip ?_
    refine qw_then ?_
    refine cw_seq ?_
    have hok9 := hb5
    refine cw_plain ?_
    refine pT (.int .i64 0) ?_
    refine pl_nil ?_
    refine qw_then ?_
    refine cw_seq ?_
    refine cw_plain ?_
    refine pT (.int .i64 (-1 : Int)) ?_
    refine pl_nil ?_
    refine qw_then ?_
    refine cw_seq ?_
    refine cw_seq ?_
    refine cw_plain ?_
    refine pT (.int .i64 0) ?_
    refine pl_nil ?_
    refine qw_then ?_
    refine cw_block ?_
    refine cw_loop [0, 5, 6, 7] (fun ws' wr m => ∃ i : Nat, ∃ b5 : Int, ∃ y6 : Int, ws' = [(0, .slice a n c), (5, .int .i64 (b5 : Int)), (6, .int .i64 (y6 : Int)), (7, .int .i64 (((i : Nat) : Int) : Int))] ∧ m = n - i ∧ w6.heap.size ≤ wr.heap.size ∧ Ext w0 wr ∧ Ext w wr ∧ i ≤ n ∧ (l.take i).foldl (Mem.mostStep l) (0, -1) = (b5, y6)) (ws0 := [(0, .slice a n c), (5, .int .i64 0), (6, .int .i64 (-1 : Int)), (7, .int .i64 0)]) (by kernel_rfl) _ ⟨0, 0, -1, rfl, rfl, Nat.le_refl _, e0, hE, Nat.zero_le _, (by rw [List.take_zero]; rfl)⟩ ?_
    clear e0 hE
    rintro m10 L ws w9 ⟨i, b5, y6, rfl, rfl, hs8, e0, hE, hi, hms⟩
    by_cases hlt : i < n
    ·
      obtain rfl := ha (by omega)
      obtain ⟨q11, q12, q13, q14⟩ := hx i hlt
      refine cw_seq ?_
      refine cw_seq ?_
      refine cw_plain ?_
      refine pT (.int .i64 (((i : Nat) : Int) : Int)) ?_
      refine pT (.slice (some ⟨bs, os, none⟩) n c) ?_
      refine pT (.int .i64 (((n : Nat) : Int) : Int)) ?_
      refine pl_take (.bool true) rfl (by kernel_rfl) (by kernel_rfl) (by kernel_rfl) (ev_dec (show _ = Result.ok (Next.value (Value.bool (decide ((((i : Nat) : Int) : Int) < (((n : Nat) : Int) : Int))))) _ from by kernel_rfl) (by omega)) ?_
      refine pl_nil ?_
      refine qw_then ?_
      refine cw_t (by kernel_rfl) ?_
      refine cw_skip ?_
      refine qw_then ?_
      refine cw_seq ?_
      refine cw_block ?_
      refine cw_seq ?_
      refine cw_plain ?_
      refine pT (.slice (some ⟨bs, os, none⟩) n c) ?_
      refine pT (.int .i64 (((i : Nat) : Int) : Int)) ?_
      refine pl_take (.pointer (some ⟨bs, os + i * 4, none⟩)) rfl (by kernel_rfl) (by kernel_rfl) (by kernel_rfl) (ex_index (p := .slice (some ⟨bs, os, none⟩) n c) (i := .int .i64 ((i : Nat) : Int)) rfl (by kernel_rfl) (by kernel_rfl) (ix27 (k := i) (by omega))) ?_
      refine pT (.pointer (some ⟨bs, os + i * 4 + 2, none⟩)) ?_
      refine pT (.pointer (some ⟨bs, os + i * 4 + 2, none⟩)) ?_
      refine pl_take (.int .i64 ((stN l i).fr : Int)) rfl (by kernel_rfl) (by kernel_rfl) (by kernel_rfl) (ex_load rfl (by kernel_rfl) (ld3 ((e0.cell q13)))) ?_
      refine pT (.int .i64 ((stN l i).fr : Int)) ?_
      refine pl_nil ?_
      refine qw_then ?_
      refine cw_clean [0, 5, 6, 7, 8] (ws' := [(0, .slice (some ⟨bs, os, none⟩) n c), (5, .int .i64 (b5 : Int)), (6, .int .i64 (y6 : Int)), (7, .int .i64 (((i : Nat) : Int) : Int)), (8, .int .i64 ((stN l i).fr : Int))]) (by kernel_rfl) (fun L => ?_)
      refine cw_seq ?_
      refine cw_plain ?_
      refine pT (.slice (some ⟨bs, os, none⟩) n c) ?_
      refine pT (.int .i64 ((stN l i).fr : Int)) ?_
      refine pl_step rfl (by kernel_rfl) (by kernel_rfl) (by kernel_rfl) (sn_call (f := 34) (args := #[.slice (some ⟨bs, os, none⟩) n c, .int .i64 ((stN l i).fr : Int)]) (by kernel_rfl) ((rfill_c ((stN l i).fr) _ _ h e0 hok9).mono ?_))
      rintro e w15 ⟨rfl, hb⟩
      replace e0 := e0.trans hb
      replace hE := hE.trans hb
      have hs16 := hb.size
      clear hb
      refine ⟨_, rfl, ?_⟩
      refine pT (.int .i64 (Mem.fill l ((stN l i).fr) : Int)) ?_
      refine pl_nil ?_
      refine qw_then ?_
      refine cw_seq ?_
      refine cw_plain ?_
      refine pT (.int .i64 (Mem.fill l ((stN l i).fr) : Int)) ?_
      refine pT (.int .i64 (b5 : Int)) ?_
      by_cases hc17 : (Mem.fill l ((stN l i).fr) : Int) > (b5 : Int)
      ·
        refine pl_take (.bool true) rfl (by kernel_rfl) (by kernel_rfl) (by kernel_rfl) (ev_dec (show _ = Result.ok (Next.value (Value.bool (decide ((Mem.fill l ((stN l i).fr) : Int) > (b5 : Int))))) _ from by kernel_rfl) (hc17)) ?_
        refine pT (.bool true) ?_
        refine pl_skip rfl (by kernel_rfl) (by kernel_rfl) (by kernel_rfl) ?_
        refine pl_skip rfl (by kernel_rfl) (by kernel_rfl) (by kernel_rfl) ?_
        refine pl_skip rfl (by kernel_rfl) (by kernel_rfl) (by kernel_rfl) ?_
        refine pl_skip rfl (by kernel_rfl) (by kernel_rfl) (by kernel_rfl) ?_
        refine pl_skip rfl (by kernel_rfl) (by kernel_rfl) (by kernel_rfl) ?_
        refine pl_skip rfl (by kernel_rfl) (by kernel_rfl) (by kernel_rfl) ?_
        refine pl_skip rfl (by kernel_rfl) (by kernel_rfl) (by kernel_rfl) ?_
        refine pl_skip rfl (by kernel_rfl) (by kernel_rfl) (by kernel_rfl) ?_
        refine pT (.bool true) ?_
        refine pl_nil ?_
        refine qw_then ?_
        refine cw_clean [0, 5, 6, 7, 8, 9, 40] (ws' := [(0, .slice (some ⟨bs, os, none⟩) n c), (5, .int .i64 (b5 : Int)), (6, .int .i64 (y6 : Int)), (7, .int .i64 (((i : Nat) : Int) : Int)), (8, .int .i64 ((stN l i).fr : Int)), (9, .int .i64 (Mem.fill l ((stN l i).fr) : Int)), (40, .bool true)]) (by kernel_rfl) (fun L => ?_)
        refine cw_t (by kernel_rfl) ?_
        refine cw_seq ?_
        refine cw_plain ?_
        refine pT (.int .i64 (Mem.fill l ((stN l i).fr) : Int)) ?_
        refine pT (.int .i64 (Mem.fill l ((stN l i).fr) : Int)) ?_
        refine pl_nil ?_
        refine qw_then ?_
        refine cw_plain ?_
        refine pT (.int .i64 ((stN l i).fr : Int)) ?_
        refine pT (.int .i64 ((stN l i).fr : Int)) ?_
        refine pl_nil ?_
        refine qw_block ?_
        refine qw_then ?_
        refine cw_plain ?_
        refine pT (.int .i64 (((i : Nat) : Int) : Int)) ?_
        refine pl_take (.int .i64 (((i + 1 : Nat) : Int) : Int)) rfl (by kernel_rfl) (by kernel_rfl) (by kernel_rfl) (ev_wrap (by kernel_rfl) (by omega) (by omega)) ?_
        refine pT (.int .i64 (((i + 1 : Nat) : Int) : Int)) ?_
        refine pl_nil ?_
        refine qw_round [0, 5, 6, 7] (ws' := [(0, .slice (some ⟨bs, os, none⟩) n c), (5, .int .i64 (Mem.fill l ((stN l i).fr) : Int)), (6, .int .i64 ((stN l i).fr : Int)), (7, .int .i64 (((i + 1 : Nat) : Int) : Int))]) (by kernel_rfl) _ ?_ ⟨(i + 1), Mem.fill l ((stN l i).fr), (stN l i).fr, rfl, rfl, (Nat.le_trans hs8 hs16), e0, hE, by omega, (Mem.most_y (by omega) hms (by omega))⟩
        omega
      ·
        refine pl_take (.bool false) rfl (by kernel_rfl) (by kernel_rfl) (by kernel_rfl) (ev_ndec (show _ = Result.ok (Next.value (Value.bool (decide ((Mem.fill l ((stN l i).fr) : Int) > (b5 : Int))))) _ from by kernel_rfl) (hc17)) ?_
        refine pT (.bool false) ?_
        refine pT (.int .i64 (Mem.fill l ((stN l i).fr) : Int)) ?_
        refine pT (.int .i64 (b5 : Int)) ?_
        by_cases hc18 : (Mem.fill l ((stN l i).fr) : Int) = (b5 : Int)
        ·
          refine pl_take (.bool true) rfl (by kernel_rfl) (by kernel_rfl) (by kernel_rfl) (ev_eq (show _ = Result.ok (Next.value (Value.bool ((Mem.fill l ((stN l i).fr) : Int) == (b5 : Int)))) _ from by kernel_rfl) (hc18)) ?_
          refine pT (.bool true) ?_
          refine pT (.int .i64 ((stN l i).fr : Int)) ?_
          refine pT (.int .i64 (y6 : Int)) ?_
          by_cases hc19 : ((stN l i).fr : Int) < (y6 : Int)
          ·
            refine pl_take (.bool true) rfl (by kernel_rfl) (by kernel_rfl) (by kernel_rfl) (ev_dec (show _ = Result.ok (Next.value (Value.bool (decide (((stN l i).fr : Int) < (y6 : Int))))) _ from by kernel_rfl) (hc19)) ?_
            refine pT (.bool true) ?_
            refine pT (.bool true) ?_
            refine pl_nil ?_
            refine qw_then ?_
            refine cw_clean [0, 5, 6, 7, 8, 9, 40] (ws' := [(0, .slice (some ⟨bs, os, none⟩) n c), (5, .int .i64 (b5 : Int)), (6, .int .i64 (y6 : Int)), (7, .int .i64 (((i : Nat) : Int) : Int)), (8, .int .i64 ((stN l i).fr : Int)), (9, .int .i64 (Mem.fill l ((stN l i).fr) : Int)), (40, .bool true)]) (by kernel_rfl) (fun L => ?_)
            refine cw_t (by kernel_rfl) ?_
            refine cw_seq ?_
            refine cw_plain ?_
            refine pT (.int .i64 (Mem.fill l ((stN l i).fr) : Int)) ?_
            refine pT (.int .i64 (Mem.fill l ((stN l i).fr) : Int)) ?_
            refine pl_nil ?_
            refine qw_then ?_
            refine cw_plain ?_
            refine pT (.int .i64 ((stN l i).fr : Int)) ?_
            refine pT (.int .i64 ((stN l i).fr : Int)) ?_
            refine pl_nil ?_
            refine qw_block ?_
            refine qw_then ?_
            refine cw_plain ?_
            refine pT (.int .i64 (((i : Nat) : Int) : Int)) ?_
            refine pl_take (.int .i64 (((i + 1 : Nat) : Int) : Int)) rfl (by kernel_rfl) (by kernel_rfl) (by kernel_rfl) (ev_wrap (by kernel_rfl) (by omega) (by omega)) ?_
            refine pT (.int .i64 (((i + 1 : Nat) : Int) : Int)) ?_
            refine pl_nil ?_
            refine qw_round [0, 5, 6, 7] (ws' := [(0, .slice (some ⟨bs, os, none⟩) n c), (5, .int .i64 (Mem.fill l ((stN l i).fr) : Int)), (6, .int .i64 ((stN l i).fr : Int)), (7, .int .i64 (((i + 1 : Nat) : Int) : Int))]) (by kernel_rfl) _ ?_ ⟨(i + 1), Mem.fill l ((stN l i).fr), (stN l i).fr, rfl, rfl, (Nat.le_trans hs8 hs16), e0, hE, by omega, (Mem.most_y (by omega) hms (by omega))⟩
            omega
          ·
            refine pl_take (.bool false) rfl (by kernel_rfl) (by kernel_rfl) (by kernel_rfl) (ev_ndec (show _ = Result.ok (Next.value (Value.bool (decide (((stN l i).fr : Int) < (y6 : Int))))) _ from by kernel_rfl) (hc19)) ?_
            refine pT (.bool false) ?_
            refine pT (.bool false) ?_
            refine pl_nil ?_
            refine qw_then ?_
            refine cw_clean [0, 5, 6, 7, 8, 9, 40] (ws' := [(0, .slice (some ⟨bs, os, none⟩) n c), (5, .int .i64 (b5 : Int)), (6, .int .i64 (y6 : Int)), (7, .int .i64 (((i : Nat) : Int) : Int)), (8, .int .i64 ((stN l i).fr : Int)), (9, .int .i64 (Mem.fill l ((stN l i).fr) : Int)), (40, .bool false)]) (by kernel_rfl) (fun L => ?_)
            refine cw_f (by kernel_rfl) ?_
            refine cw_skip ?_
            refine qw_block ?_
            refine qw_then ?_
            refine cw_plain ?_
            refine pT (.int .i64 (((i : Nat) : Int) : Int)) ?_
            refine pl_take (.int .i64 (((i + 1 : Nat) : Int) : Int)) rfl (by kernel_rfl) (by kernel_rfl) (by kernel_rfl) (ev_wrap (by kernel_rfl) (by omega) (by omega)) ?_
            refine pT (.int .i64 (((i + 1 : Nat) : Int) : Int)) ?_
            refine pl_nil ?_
            refine qw_round [0, 5, 6, 7] (ws' := [(0, .slice (some ⟨bs, os, none⟩) n c), (5, .int .i64 (b5 : Int)), (6, .int .i64 (y6 : Int)), (7, .int .i64 (((i + 1 : Nat) : Int) : Int))]) (by kernel_rfl) _ ?_ ⟨(i + 1), b5, y6, rfl, rfl, (Nat.le_trans hs8 hs16), e0, hE, by omega, (Mem.most_n (by omega) hms (by omega))⟩
            omega
        ·
          refine pl_take (.bool false) rfl (by kernel_rfl) (by kernel_rfl) (by kernel_rfl) (ev_neq (show _ = Result.ok (Next.value (Value.bool ((Mem.fill l ((stN l i).fr) : Int) == (b5 : Int)))) _ from by kernel_rfl) (hc18)) ?_
          refine pT (.bool false) ?_
          refine pl_skip rfl (by kernel_rfl) (by kernel_rfl) (by kernel_rfl) ?_
          refine pl_skip rfl (by kernel_rfl) (by kernel_rfl) (by kernel_rfl) ?_
          refine pl_skip rfl (by kernel_rfl) (by kernel_rfl) (by kernel_rfl) ?_
          refine pT (.bool false) ?_
          refine pT (.bool false) ?_
          refine pl_nil ?_
          refine qw_then ?_
          refine cw_clean [0, 5, 6, 7, 8, 9, 40] (ws' := [(0, .slice (some ⟨bs, os, none⟩) n c), (5, .int .i64 (b5 : Int)), (6, .int .i64 (y6 : Int)), (7, .int .i64 (((i : Nat) : Int) : Int)), (8, .int .i64 ((stN l i).fr : Int)), (9, .int .i64 (Mem.fill l ((stN l i).fr) : Int)), (40, .bool false)]) (by kernel_rfl) (fun L => ?_)
          refine cw_f (by kernel_rfl) ?_
          refine cw_skip ?_
          refine qw_block ?_
          refine qw_then ?_
          refine cw_plain ?_
          refine pT (.int .i64 (((i : Nat) : Int) : Int)) ?_
          refine pl_take (.int .i64 (((i + 1 : Nat) : Int) : Int)) rfl (by kernel_rfl) (by kernel_rfl) (by kernel_rfl) (ev_wrap (by kernel_rfl) (by omega) (by omega)) ?_
          refine pT (.int .i64 (((i + 1 : Nat) : Int) : Int)) ?_
          refine pl_nil ?_
          refine qw_round [0, 5, 6, 7] (ws' := [(0, .slice (some ⟨bs, os, none⟩) n c), (5, .int .i64 (b5 : Int)), (6, .int .i64 (y6 : Int)), (7, .int .i64 (((i + 1 : Nat) : Int) : Int))]) (by kernel_rfl) _ ?_ ⟨(i + 1), b5, y6, rfl, rfl, (Nat.le_trans hs8 hs16), e0, hE, by omega, (Mem.most_n (by omega) hms (by omega))⟩
          omega
    ·
      have hv9 : Mem.mostR l = (b5, y6) := by rw [← hms, List.take_of_length_le (by omega)]; rfl
      refine cw_seq ?_
      refine cw_seq ?_
      refine cw_plain ?_
      refine pT (.int .i64 (((i : Nat) : Int) : Int)) ?_
      refine pT (.slice a n c) ?_
      refine pT (.int .i64 (((n : Nat) : Int) : Int)) ?_
      refine pl_take (.bool false) rfl (by kernel_rfl) (by kernel_rfl) (by kernel_rfl) (ev_ndec (show _ = Result.ok (Next.value (Value.bool (decide ((((i : Nat) : Int) : Int) < (((n : Nat) : Int) : Int))))) _ from by kernel_rfl) (by omega)) ?_
      refine pl_nil ?_
      refine qw_then ?_
      refine cw_f (by kernel_rfl) ?_
      refine cw_exit ?_
      refine qw_then_exit ?_
      refine qw_then_exit ?_
      refine qw_block_out ?_
      refine qw_then ?_
      refine cw_seq ?_
      refine cw_plain ?_
      refine pT (.int .i64 (b5 : Int)) ?_
      refine pT (.int .i64 (y6 : Int)) ?_
      refine pT (.int .i64 (b5 : Int)) ?_
      refine pT (.int .i64 (y6 : Int)) ?_
      refine pT (.int .i64 0) ?_
      refine pl_nil ?_
      refine qw_then ?_
      refine cw_ret ?_
      refine qw_ret [.int .i64 (b5 : Int), .int .i64 (y6 : Int), .int .i64 0] rfl ⟨(by kernel_rfl), (by kernel_rfl), (by kernel_rfl), trivial⟩ ?_
      rw [hok9, hv9]; exact ⟨rfl, hE⟩
  ·
    refine pl_step rfl (by kernel_rfl) (by kernel_rfl) (by kernel_rfl) (sn_call (f := 19) (args := #[.slice a n c]) (by kernel_rfl) ((rValid_r (l := l) (r := false) _ _ h e0 hb5).mono ?_))
    rintro e w20 ⟨rfl, hb⟩
    replace e0 := e0.trans hb
    replace hE := hE.trans hb
    have hs21 := hb.size
    clear hb
    refine ⟨_, rfl, ?_⟩
    refine pT (.bool true) ?_
    refine pl_nil ?_
    refine qw_then ?_
    refine cw_t (by kernel_rfl) ?_
    refine cw_seq ?_
    refine cw_plain ?_
    refine pT (.int .i64 0) ?_
    refine pT (.int .i64 0) ?_
    refine pT (.int .i64 110) ?_
    refine pl_nil ?_
    refine qw_then ?_
    refine cw_ret ?_
    refine qw_then_ret ?_
    refine qw_ret [.int .i64 0, .int .i64 0, .int .i64 110] rfl ⟨(by kernel_rfl), (by kernel_rfl), (by kernel_rfl), trivial⟩ ?_
    rw [hb5]; exact ⟨rfl, hE⟩
set_option maxRecDepth 1000000 in
set_option maxHeartbeats 4000000 in
theorem rOver_c {w0 : World} {a : Option Addr} {n : Nat} {l : List Mem.St} (st : Int) (c : Nat) (w : World) (h : StsAt w0 a n l) (e0 : Ext w0 w) : Calls Try.prog 23 #[.slice a n c, .int .i64 st] w fun e w' => e = .returned (.tuple #[.int .i64 (Mem.ansV (Mem.okL l && Globe.inB st 0 1000000) (Mem.overR l st)), .int .i64 (Mem.ansE (Mem.okL l && Globe.inB st 0 1000000))]) ∧ Ext w w' := by
  have hln := h.1; have hmx := h.2.1
  have hs0 := e0.size
  obtain ⟨bs, os, ha, hbl, hx⟩ := h.parts
  refine calls_cw 48 [(1, .int .i64 (st : Int)), (0, .slice a n c)] Try.func23 rfl Try.ntmps23 (by kernel_rfl) (by kernel_rfl) (fun L => ?_)
  have hE : Ext w w := Ext.refl w
  refine cw_seq ?_
  refine cw_plain ?_
  refine pT (.int .i64 0) ?_
  refine pT (.int .i64 0) ?_
  refine pl_nil ?_
  refine qw_then ?_
  refine cw_seq ?_
  refine cw_seq ?_
  refine cw_plain ?_
  refine pT (.slice a n c) ?_
  rcases Bool.eq_false_or_eq_true (Mem.okL l) with hb5 | hb5
  ·
    refine pl_step rfl (by kernel_rfl) (by kernel_rfl) (by kernel_rfl) (sn_call (f := 19) (args := #[.slice a n c]) (by kernel_rfl) ((rValid_r (l := l) (r := true) _ _ h e0 hb5).mono ?_))
    rintro e w6 ⟨rfl, hb⟩
    replace e0 := e0.trans hb
    replace hE := hE.trans hb
    have hs7 := hb.size
    clear hb
    refine ⟨_, rfl, ?_⟩
    refine pT (.bool false) ?_
    refine pT (.bool false) ?_
    refine pT (.int .i64 (st : Int)) ?_
    by_cases hc8 : (st : Int) < (0 : Int)
    ·
      refine pl_take (.bool true) rfl (by kernel_rfl) (by kernel_rfl) (by kernel_rfl) (ev_dec (show _ = Result.ok (Next.value (Value.bool (decide ((st : Int) < (0 : Int))))) _ from by kernel_rfl) (hc8)) ?_
      refine pT (.bool true) ?_
      refine pT (.bool true) ?_
      refine pl_skip rfl (by kernel_rfl) (by kernel_rfl) (by kernel_rfl) ?_
      refine pl_skip rfl (by kernel_rfl) (by kernel_rfl) (by kernel_rfl) ?_
      refine pT (.bool true) ?_
      refine pl_nil ?_
      refine qw_then ?_
      refine cw_clean [0, 1, 19] (ws' := [(0, .slice a n c), (1, .int .i64 (st : Int)), (19, .bool true)]) (by kernel_rfl) (fun L => ?_)
      refine cw_t (by kernel_rfl) ?_
      refine cw_seq ?_
      refine cw_plain ?_
      refine pT (.int .i64 0) ?_
      refine pT (.int .i64 110) ?_
      refine pl_nil ?_
      refine qw_then ?_
      refine cw_ret ?_
      refine qw_then_ret ?_
      refine qw_ret [.int .i64 0, .int .i64 110] rfl ⟨(by kernel_rfl), (by kernel_rfl), trivial⟩ ?_
      have hB : (Mem.okL l && Globe.inB st 0 1000000) = false := Bool.eq_false_iff.2 fun hz => by
        have hz := Bool.and_eq_true_iff.1 hz
        have hz := Globe.inB_t.1 hz.2; omega
      rw [hB]; exact ⟨rfl, hE⟩
    ·
      refine pl_take (.bool false) rfl (by kernel_rfl) (by kernel_rfl) (by kernel_rfl) (ev_ndec (show _ = Result.ok (Next.value (Value.bool (decide ((st : Int) < (0 : Int))))) _ from by kernel_rfl) (hc8)) ?_
      refine pT (.bool false) ?_
      refine pT (.bool false) ?_
      refine pT (.int .i64 (st : Int)) ?_
      by_cases hc9 : (st : Int) > (1000000 : Int)
      ·
        refine pl_take (.bool true) rfl (by kernel_rfl) (by kernel_rfl) (by kernel_rfl) (ev_dec (show _ = Result.ok (Next.value (Value.bool (decide ((st : Int) > (1000000 : Int))))) _ from by kernel_rfl) (hc9)) ?_
        refine pT (.bool true) ?_
        refine pl_nil ?_
        refine qw_then ?_
        refine cw_clean [0, 1, 19] (ws' := [(0, .slice a n c), (1, .int .i64 (st : Int)), (19, .bool true)]) (by kernel_rfl) (fun L => ?_)
        refine cw_t (by kernel_rfl) ?_
        refine cw_seq ?_
        refine cw_plain ?_
        refine pT (.int .i64 0) ?_
        refine pT (.int .i64 110) ?_
        refine pl_nil ?_
        refine qw_then ?_
        refine cw_ret ?_
        refine qw_then_ret ?_
        refine qw_ret [.int .i64 0, .int .i64 110] rfl ⟨(by kernel_rfl), (by kernel_rfl), trivial⟩ ?_
        have hB : (Mem.okL l && Globe.inB st 0 1000000) = false := Bool.eq_false_iff.2 fun hz => by
          have hz := Bool.and_eq_true_iff.1 hz
          have hz := Globe.inB_t.1 hz.2; omega
        rw [hB]; exact ⟨rfl, hE⟩
      ·
        refine pl_take (.bool false) rfl (by kernel_rfl) (by kernel_rfl) (by kernel_rfl) (ev_ndec (show _ = Result.ok (Next.value (Value.bool (decide ((st : Int) > (1000000 : Int))))) _ from by kernel_rfl) (hc9)) ?_
        refine pT (.bool false) ?_
        refine pl_nil ?_
        refine qw_then ?_
        refine cw_clean [0, 1, 19] (ws' := [(0, .slice a n c), (1, .int .i64 (st : Int)), (19, .bool false)]) (by kernel_rfl) (fun L => ?_)
        refine cw_f (by kernel_rfl) ?_
        refine cw_skip ?_
        refine qw_then ?_
        refine cw_seq ?_
        have hok9 := hb5
        refine cw_plain ?_
        refine pT (.int .i64 (-1 : Int)) ?_
        refine pl_nil ?_
        refine qw_then ?_
        refine cw_seq ?_
        refine cw_seq ?_
        refine cw_plain ?_
        refine pT (.int .i64 0) ?_
        refine pl_nil ?_
        refine qw_then ?_
        refine cw_block ?_
        refine cw_loop [0, 1, 6, 7] (fun ws' wr m => ∃ i : Nat, ∃ f6 : Int, ws' = [(0, .slice a n c), (1, .int .i64 (st : Int)), (6, .int .i64 (f6 : Int)), (7, .int .i64 (((i : Nat) : Int) : Int))] ∧ m = n - i ∧ w6.heap.size ≤ wr.heap.size ∧ Ext w0 wr ∧ Ext w wr ∧ i ≤ n ∧ (l.take i).foldl (Mem.overStep l st) (-1) = f6) (ws0 := [(0, .slice a n c), (1, .int .i64 (st : Int)), (6, .int .i64 (-1 : Int)), (7, .int .i64 0)]) (by kernel_rfl) _ ⟨0, -1, rfl, rfl, Nat.le_refl _, e0, hE, Nat.zero_le _, (by rw [List.take_zero]; rfl)⟩ ?_
        clear e0 hE
        rintro m12 L ws w11 ⟨i, f6, rfl, rfl, hs10, e0, hE, hi, hms⟩
        by_cases hlt : i < n
        ·
          obtain rfl := ha (by omega)
          obtain ⟨q13, q14, q15, q16⟩ := hx i hlt
          refine cw_seq ?_
          refine cw_seq ?_
          refine cw_plain ?_
          refine pT (.int .i64 (((i : Nat) : Int) : Int)) ?_
          refine pT (.slice (some ⟨bs, os, none⟩) n c) ?_
          refine pT (.int .i64 (((n : Nat) : Int) : Int)) ?_
          refine pl_take (.bool true) rfl (by kernel_rfl) (by kernel_rfl) (by kernel_rfl) (ev_dec (show _ = Result.ok (Next.value (Value.bool (decide ((((i : Nat) : Int) : Int) < (((n : Nat) : Int) : Int))))) _ from by kernel_rfl) (by omega)) ?_
          refine pl_nil ?_
          refine qw_then ?_
          refine cw_t (by kernel_rfl) ?_
          refine cw_skip ?_
          refine qw_then ?_
          refine cw_seq ?_
          refine cw_block ?_
          refine cw_seq ?_
          refine cw_plain ?_
          refine pT (.slice (some ⟨bs, os, none⟩) n c) ?_
          refine pT (.int .i64 (((i : Nat) : Int) : Int)) ?_
          refine pl_take (.pointer (some ⟨bs, os + i * 4, none⟩)) rfl (by kernel_rfl) (by kernel_rfl) (by kernel_rfl) (ex_index (p := .slice (some ⟨bs, os, none⟩) n c) (i := .int .i64 ((i : Nat) : Int)) rfl (by kernel_rfl) (by kernel_rfl) (ix27 (k := i) (by omega))) ?_
          refine pT (.pointer (some ⟨bs, os + i * 4 + 2, none⟩)) ?_
          refine pT (.pointer (some ⟨bs, os + i * 4 + 2, none⟩)) ?_
          refine pl_take (.int .i64 ((stN l i).fr : Int)) rfl (by kernel_rfl) (by kernel_rfl) (by kernel_rfl) (ex_load rfl (by kernel_rfl) (ld3 ((e0.cell q15)))) ?_
          refine pT (.int .i64 ((stN l i).fr : Int)) ?_
          refine pl_nil ?_
          refine qw_then ?_
          refine cw_clean [0, 1, 6, 7, 8] (ws' := [(0, .slice (some ⟨bs, os, none⟩) n c), (1, .int .i64 (st : Int)), (6, .int .i64 (f6 : Int)), (7, .int .i64 (((i : Nat) : Int) : Int)), (8, .int .i64 ((stN l i).fr : Int))]) (by kernel_rfl) (fun L => ?_)
          refine cw_seq ?_
          refine cw_plain ?_
          refine pT (.slice (some ⟨bs, os, none⟩) n c) ?_
          refine pT (.int .i64 ((stN l i).fr : Int)) ?_
          refine pl_step rfl (by kernel_rfl) (by kernel_rfl) (by kernel_rfl) (sn_call (f := 34) (args := #[.slice (some ⟨bs, os, none⟩) n c, .int .i64 ((stN l i).fr : Int)]) (by kernel_rfl) ((rfill_c ((stN l i).fr) _ _ h e0 hok9).mono ?_))
          rintro e w17 ⟨rfl, hb⟩
          replace e0 := e0.trans hb
          replace hE := hE.trans hb
          have hs18 := hb.size
          clear hb
          refine ⟨_, rfl, ?_⟩
          refine pT (.int .i64 (st : Int)) ?_
          by_cases hc19 : (Mem.fill l ((stN l i).fr) : Int) > (st : Int)
          ·
            refine pl_take (.bool true) rfl (by kernel_rfl) (by kernel_rfl) (by kernel_rfl) (ev_dec (show _ = Result.ok (Next.value (Value.bool (decide ((Mem.fill l ((stN l i).fr) : Int) > (st : Int))))) _ from by kernel_rfl) (hc19)) ?_
            refine pT (.bool true) ?_
            refine pT (.int .i64 (f6 : Int)) ?_
            by_cases hc20 : (f6 : Int) < (0 : Int)
            ·
              refine pl_take (.bool true) rfl (by kernel_rfl) (by kernel_rfl) (by kernel_rfl) (ev_dec (show _ = Result.ok (Next.value (Value.bool (decide ((f6 : Int) < (0 : Int))))) _ from by kernel_rfl) (hc20)) ?_
              refine pT (.bool true) ?_
              refine pl_skip rfl (by kernel_rfl) (by kernel_rfl) (by kernel_rfl) ?_
              refine pl_skip rfl (by kernel_rfl) (by kernel_rfl) (by kernel_rfl) ?_
              refine pl_skip rfl (by kernel_rfl) (by kernel_rfl) (by kernel_rfl) ?_
              refine pT (.bool true) ?_
              refine pT (.bool true) ?_
              refine pl_nil ?_
              refine qw_then ?_
              refine cw_clean [0, 1, 6, 7, 8, 45] (ws' := [(0, .slice (some ⟨bs, os, none⟩) n c), (1, .int .i64 (st : Int)), (6, .int .i64 (f6 : Int)), (7, .int .i64 (((i : Nat) : Int) : Int)), (8, .int .i64 ((stN l i).fr : Int)), (45, .bool true)]) (by kernel_rfl) (fun L => ?_)
              refine cw_t (by kernel_rfl) ?_
              refine cw_plain ?_
              refine pT (.int .i64 ((stN l i).fr : Int)) ?_
              refine pT (.int .i64 ((stN l i).fr : Int)) ?_
              refine pl_nil ?_
              refine qw_block ?_
              refine qw_then ?_
              refine cw_plain ?_
              refine pT (.int .i64 (((i : Nat) : Int) : Int)) ?_
              refine pl_take (.int .i64 (((i + 1 : Nat) : Int) : Int)) rfl (by kernel_rfl) (by kernel_rfl) (by kernel_rfl) (ev_wrap (by kernel_rfl) (by omega) (by omega)) ?_
              refine pT (.int .i64 (((i + 1 : Nat) : Int) : Int)) ?_
              refine pl_nil ?_
              refine qw_round [0, 1, 6, 7] (ws' := [(0, .slice (some ⟨bs, os, none⟩) n c), (1, .int .i64 (st : Int)), (6, .int .i64 ((stN l i).fr : Int)), (7, .int .i64 (((i + 1 : Nat) : Int) : Int))]) (by kernel_rfl) _ ?_ ⟨(i + 1), (stN l i).fr, rfl, rfl, (Nat.le_trans hs10 hs18), e0, hE, by omega, (Mem.over_y (by omega) hms (by omega))⟩
              omega
            ·
              refine pl_take (.bool false) rfl (by kernel_rfl) (by kernel_rfl) (by kernel_rfl) (ev_ndec (show _ = Result.ok (Next.value (Value.bool (decide ((f6 : Int) < (0 : Int))))) _ from by kernel_rfl) (hc20)) ?_
              refine pT (.bool false) ?_
              refine pT (.int .i64 ((stN l i).fr : Int)) ?_
              refine pT (.int .i64 (f6 : Int)) ?_
              by_cases hc21 : ((stN l i).fr : Int) < (f6 : Int)
              ·
                refine pl_take (.bool true) rfl (by kernel_rfl) (by kernel_rfl) (by kernel_rfl) (ev_dec (show _ = Result.ok (Next.value (Value.bool (decide (((stN l i).fr : Int) < (f6 : Int))))) _ from by kernel_rfl) (hc21)) ?_
                refine pT (.bool true) ?_
                refine pT (.bool true) ?_
                refine pl_nil ?_
                refine qw_then ?_
                refine cw_clean [0, 1, 6, 7, 8, 45] (ws' := [(0, .slice (some ⟨bs, os, none⟩) n c), (1, .int .i64 (st : Int)), (6, .int .i64 (f6 : Int)), (7, .int .i64 (((i : Nat) : Int) : Int)), (8, .int .i64 ((stN l i).fr : Int)), (45, .bool true)]) (by kernel_rfl) (fun L => ?_)
                refine cw_t (by kernel_rfl) ?_
                refine cw_plain ?_
                refine pT (.int .i64 ((stN l i).fr : Int)) ?_
                refine pT (.int .i64 ((stN l i).fr : Int)) ?_
                refine pl_nil ?_
                refine qw_block ?_
                refine qw_then ?_
                refine cw_plain ?_
                refine pT (.int .i64 (((i : Nat) : Int) : Int)) ?_
                refine pl_take (.int .i64 (((i + 1 : Nat) : Int) : Int)) rfl (by kernel_rfl) (by kernel_rfl) (by kernel_rfl) (ev_wrap (by kernel_rfl) (by omega) (by omega)) ?_
                refine pT (.int .i64 (((i + 1 : Nat) : Int) : Int)) ?_
                refine pl_nil ?_
                refine qw_round [0, 1, 6, 7] (ws' := [(0, .slice (some ⟨bs, os, none⟩) n c), (1, .int .i64 (st : Int)), (6, .int .i64 ((stN l i).fr : Int)), (7, .int .i64 (((i + 1 : Nat) : Int) : Int))]) (by kernel_rfl) _ ?_ ⟨(i + 1), (stN l i).fr, rfl, rfl, (Nat.le_trans hs10 hs18), e0, hE, by omega, (Mem.over_y (by omega) hms (by omega))⟩
                omega
              ·
                refine pl_take (.bool false) rfl (by kernel_rfl) (by kernel_rfl) (by kernel_rfl) (ev_ndec (show _ = Result.ok (Next.value (Value.bool (decide (((stN l i).fr : Int) < (f6 : Int))))) _ from by kernel_rfl) (hc21)) ?_
                refine pT (.bool false) ?_
                refine pT (.bool false) ?_
                refine pl_nil ?_
                refine qw_then ?_
                refine cw_clean [0, 1, 6, 7, 8, 45] (ws' := [(0, .slice (some ⟨bs, os, none⟩) n c), (1, .int .i64 (st : Int)), (6, .int .i64 (f6 : Int)), (7, .int .i64 (((i : Nat) : Int) : Int)), (8, .int .i64 ((stN l i).fr : Int)), (45, .bool false)]) (by kernel_rfl) (fun L => ?_)
                refine cw_f (by kernel_rfl) ?_
                refine cw_skip ?_
                refine qw_block ?_
                refine qw_then ?_
                refine cw_plain ?_
                refine pT (.int .i64 (((i : Nat) : Int) : Int)) ?_
                refine pl_take (.int .i64 (((i + 1 : Nat) : Int) : Int)) rfl (by kernel_rfl) (by kernel_rfl) (by kernel_rfl) (ev_wrap (by kernel_rfl) (by omega) (by omega)) ?_
                refine pT (.int .i64 (((i + 1 : Nat) : Int) : Int)) ?_
                refine pl_nil ?_
                refine qw_round [0, 1, 6, 7] (ws' := [(0, .slice (some ⟨bs, os, none⟩) n c), (1, .int .i64 (st : Int)), (6, .int .i64 (f6 : Int)), (7, .int .i64 (((i + 1 : Nat) : Int) : Int))]) (by kernel_rfl) _ ?_ ⟨(i + 1), f6, rfl, rfl, (Nat.le_trans hs10 hs18), e0, hE, by omega, (Mem.over_n (by omega) hms (by omega))⟩
                omega
          ·
            refine pl_take (.bool false) rfl (by kernel_rfl) (by kernel_rfl) (by kernel_rfl) (ev_ndec (show _ = Result.ok (Next.value (Value.bool (decide ((Mem.fill l ((stN l i).fr) : Int) > (st : Int))))) _ from by kernel_rfl) (hc19)) ?_
            refine pT (.bool false) ?_
            refine pl_skip rfl (by kernel_rfl) (by kernel_rfl) (by kernel_rfl) ?_
            refine pl_skip rfl (by kernel_rfl) (by kernel_rfl) (by kernel_rfl) ?_
            refine pl_skip rfl (by kernel_rfl) (by kernel_rfl) (by kernel_rfl) ?_
            refine pl_skip rfl (by kernel_rfl) (by kernel_rfl) (by kernel_rfl) ?_
            refine pl_skip rfl (by kernel_rfl) (by kernel_rfl) (by kernel_rfl) ?_
            refine pl_skip rfl (by kernel_rfl) (by kernel_rfl) (by kernel_rfl) ?_
            refine pl_skip rfl (by kernel_rfl) (by kernel_rfl) (by kernel_rfl) ?_
            refine pT (.bool false) ?_
            refine pl_nil ?_
            refine qw_then ?_
            refine cw_clean [0, 1, 6, 7, 8, 45] (ws' := [(0, .slice (some ⟨bs, os, none⟩) n c), (1, .int .i64 (st : Int)), (6, .int .i64 (f6 : Int)), (7, .int .i64 (((i : Nat) : Int) : Int)), (8, .int .i64 ((stN l i).fr : Int)), (45, .bool false)]) (by kernel_rfl) (fun L => ?_)
            refine cw_f (by kernel_rfl) ?_
            refine cw_skip ?_
            refine qw_block ?_
            refine qw_then ?_
            refine cw_plain ?_
            refine pT (.int .i64 (((i : Nat) : Int) : Int)) ?_
            refine pl_take (.int .i64 (((i + 1 : Nat) : Int) : Int)) rfl (by kernel_rfl) (by kernel_rfl) (by kernel_rfl) (ev_wrap (by kernel_rfl) (by omega) (by omega)) ?_
            refine pT (.int .i64 (((i + 1 : Nat) : Int) : Int)) ?_
            refine pl_nil ?_
            refine qw_round [0, 1, 6, 7] (ws' := [(0, .slice (some ⟨bs, os, none⟩) n c), (1, .int .i64 (st : Int)), (6, .int .i64 (f6 : Int)), (7, .int .i64 (((i + 1 : Nat) : Int) : Int))]) (by kernel_rfl) _ ?_ ⟨(i + 1), f6, rfl, rfl, (Nat.le_trans hs10 hs18), e0, hE, by omega, (Mem.over_n (by omega) hms (by omega))⟩
            omega
        ·
          have hv9 : Mem.overR l st = f6 := by rw [← hms, List.take_of_length_le (by omega)]; rfl
          refine cw_seq ?_
          refine cw_seq ?_
          refine cw_plain ?_
          refine pT (.int .i64 (((i : Nat) : Int) : Int)) ?_
          refine pT (.slice a n c) ?_
          refine pT (.int .i64 (((n : Nat) : Int) : Int)) ?_
          refine pl_take (.bool false) rfl (by kernel_rfl) (by kernel_rfl) (by kernel_rfl) (ev_ndec (show _ = Result.ok (Next.value (Value.bool (decide ((((i : Nat) : Int) : Int) < (((n : Nat) : Int) : Int))))) _ from by kernel_rfl) (by omega)) ?_
          refine pl_nil ?_
          refine qw_then ?_
          refine cw_f (by kernel_rfl) ?_
          refine cw_exit ?_
          refine qw_then_exit ?_
          refine qw_then_exit ?_
          refine qw_block_out ?_
          refine qw_then ?_
          refine cw_seq ?_
          refine cw_plain ?_
          refine pT (.int .i64 (f6 : Int)) ?_
          refine pT (.int .i64 (f6 : Int)) ?_
          refine pT (.int .i64 0) ?_
          refine pl_nil ?_
          refine qw_then ?_
          refine cw_ret ?_
          refine qw_ret [.int .i64 (f6 : Int), .int .i64 0] rfl ⟨(by kernel_rfl), (by kernel_rfl), trivial⟩ ?_
          have hB : (Mem.okL l && Globe.inB st 0 1000000) = true := by rw [hok9, show Globe.inB st 0 1000000 = true from Globe.inB_t.2 ⟨by omega, by omega⟩]; rfl
          rw [hB, Mem.ansV_t, hv9]; exact ⟨rfl, hE⟩
  ·
    refine pl_step rfl (by kernel_rfl) (by kernel_rfl) (by kernel_rfl) (sn_call (f := 19) (args := #[.slice a n c]) (by kernel_rfl) ((rValid_r (l := l) (r := false) _ _ h e0 hb5).mono ?_))
    rintro e w22 ⟨rfl, hb⟩
    replace e0 := e0.trans hb
    replace hE := hE.trans hb
    have hs23 := hb.size
    clear hb
    refine ⟨_, rfl, ?_⟩
    refine pT (.bool true) ?_
    refine pT (.bool true) ?_
    refine pl_skip rfl (by kernel_rfl) (by kernel_rfl) (by kernel_rfl) ?_
    refine pl_skip rfl (by kernel_rfl) (by kernel_rfl) (by kernel_rfl) ?_
    refine pT (.bool true) ?_
    refine pT (.bool true) ?_
    refine pl_skip rfl (by kernel_rfl) (by kernel_rfl) (by kernel_rfl) ?_
    refine pl_skip rfl (by kernel_rfl) (by kernel_rfl) (by kernel_rfl) ?_
    refine pT (.bool true) ?_
    refine pl_nil ?_
    refine qw_then ?_
    refine cw_clean [0, 1, 19] (ws' := [(0, .slice a n c), (1, .int .i64 (st : Int)), (19, .bool true)]) (by kernel_rfl) (fun L => ?_)
    refine cw_t (by kernel_rfl) ?_
    refine cw_seq ?_
    refine cw_plain ?_
    refine pT (.int .i64 0) ?_
    refine pT (.int .i64 110) ?_
    refine pl_nil ?_
    refine qw_then ?_
    refine cw_ret ?_
    refine qw_then_ret ?_
    refine qw_ret [.int .i64 0, .int .i64 110] rfl ⟨(by kernel_rfl), (by kernel_rfl), trivial⟩ ?_
    have hB : (Mem.okL l && Globe.inB st 0 1000000) = false := by rw [hb5]; simp
    rw [hB]; exact ⟨rfl, hE⟩
set_option maxRecDepth 1000000 in
set_option maxHeartbeats 4000000 in
theorem rRoom_c {w0 : World} {a : Option Addr} {n : Nat} {l : List Mem.St} (st f t : Int) (c : Nat) (w : World) (h : StsAt w0 a n l) (e0 : Ext w0 w) : Calls Try.prog 25 #[.slice a n c, .int .i64 st, .agg #[.int .i64 f, .int .i64 t]] w fun e w' => e = .returned (.tuple #[.int .i64 (Mem.ansV (Mem.okL l && Globe.inB st 0 1000000 && Mem.spB (f, t)) (max 0 (st - Mem.topR l f t))), .int .i64 (Mem.ansE (Mem.okL l && Globe.inB st 0 1000000 && Mem.spB (f, t)))]) ∧ Ext w w' := by
  have hln := h.1; have hmx := h.2.1
  have hs0 := e0.size
  obtain ⟨bs, os, ha, hbl, hx⟩ := h.parts
  refine calls_cw 70 [(2, .agg #[.int .i64 (f : Int), .int .i64 (t : Int)]), (1, .int .i64 (st : Int)), (0, .slice a n c)] Try.func25 rfl Try.ntmps25 (by kernel_rfl) (by kernel_rfl) (fun L => ?_)
  have hE : Ext w w := Ext.refl w
  refine cw_seq ?_
  refine cw_plain ?_
  refine pl_step rfl (by kernel_rfl) (by kernel_rfl) (by kernel_rfl) (sn_new (us := #[.int .i64 (f : Int), .int .i64 (t : Int)]) (t := 24) (by kernel_rfl) ?_)
  intro O5 X6 hO hOs hb hbx
  have hzO5 := hO; have hyO5 := hOs; clear hO hOs
  have bO5_0 : BoxAt X6 O5 0 (.int .i64 (f : Int)) := hbx 0 _ rfl
  have bO5_1 : BoxAt X6 O5 1 (.int .i64 (t : Int)) := hbx 1 _ rfl
  clear hbx
  replace e0 := e0.trans hb
  replace hE := hE.trans hb
  have hs7 := hb.size
  clear hb
  have lt8 := bO5_0.lt
  refine pT (.int .i64 0) ?_
  refine pT (.int .i64 0) ?_
  refine pl_nil ?_
  refine qw_then ?_
  refine cw_seq ?_
  refine cw_seq ?_
  refine cw_plain ?_
  refine pT (.slice a n c) ?_
  rcases Bool.eq_false_or_eq_true (Mem.okL l) with hb9 | hb9
  ·
    refine pl_step rfl (by kernel_rfl) (by kernel_rfl) (by kernel_rfl) (sn_call (f := 19) (args := #[.slice a n c]) (by kernel_rfl) ((rValid_r (l := l) (r := true) _ _ h e0 hb9).mono ?_))
    rintro e w10 ⟨rfl, hb⟩
    replace e0 := e0.trans hb
    replace hE := hE.trans hb
    replace bO5_0 := BoxAt.ext hb bO5_0
    replace bO5_1 := BoxAt.ext hb bO5_1
    have hs11 := hb.size
    clear hb
    refine ⟨_, rfl, ?_⟩
    refine pT (.bool false) ?_
    refine pT (.bool false) ?_
    refine pT (.int .i64 (st : Int)) ?_
    by_cases hc12 : (st : Int) < (0 : Int)
    ·
      refine pl_take (.bool true) rfl (by kernel_rfl) (by kernel_rfl) (by kernel_rfl) (ev_dec (show _ = Result.ok (Next.value (Value.bool (decide ((st : Int) < (0 : Int))))) _ from by kernel_rfl) (hc12)) ?_
      refine pT (.bool true) ?_
      refine pT (.bool true) ?_
      refine pl_skip rfl (by kernel_rfl) (by kernel_rfl) (by kernel_rfl) ?_
      refine pl_skip rfl (by kernel_rfl) (by kernel_rfl) (by kernel_rfl) ?_
      refine pT (.bool true) ?_
      refine pT (.bool true) ?_
      refine pl_skip rfl (by kernel_rfl) (by kernel_rfl) (by kernel_rfl) ?_
      refine pl_skip rfl (by kernel_rfl) (by kernel_rfl) (by kernel_rfl) ?_
      refine pl_skip rfl (by kernel_rfl) (by kernel_rfl) (by kernel_rfl) ?_
      refine pT (.bool true) ?_
      refine pl_nil ?_
      refine qw_then ?_
      refine cw_clean [0, 1, 5, 25] (ws' := [(0, .slice a n c), (1, .int .i64 (st : Int)), (5, .pointer (some ⟨O5, 0, none⟩)), (25, .bool true)]) (by kernel_rfl) (fun L => ?_)
      refine cw_t (by kernel_rfl) ?_
      refine cw_seq ?_
      refine cw_plain ?_
      refine pT (.int .i64 0) ?_
      refine pT (.int .i64 110) ?_
      refine pl_nil ?_
      refine qw_then ?_
      refine cw_ret ?_
      refine qw_then_ret ?_
      refine qw_ret [.int .i64 0, .int .i64 110] rfl ⟨(by kernel_rfl), (by kernel_rfl), trivial⟩ ?_
      have hB : (Mem.okL l && Globe.inB st 0 1000000 && Mem.spB (f, t)) = false := Bool.eq_false_iff.2 fun hz => by
        have hz := Bool.and_eq_true_iff.1 hz
        have hw := (Bool.and_eq_true_iff.1 hz.1).2
        have hz := Globe.inB_t.1 hw; omega
      rw [hB]; exact ⟨rfl, hE⟩
    ·
      refine pl_take (.bool false) rfl (by kernel_rfl) (by kernel_rfl) (by kernel_rfl) (ev_ndec (show _ = Result.ok (Next.value (Value.bool (decide ((st : Int) < (0 : Int))))) _ from by kernel_rfl) (hc12)) ?_
      refine pT (.bool false) ?_
      refine pT (.bool false) ?_
      refine pT (.int .i64 (st : Int)) ?_
      by_cases hc13 : (st : Int) > (1000000 : Int)
      ·
        refine pl_take (.bool true) rfl (by kernel_rfl) (by kernel_rfl) (by kernel_rfl) (ev_dec (show _ = Result.ok (Next.value (Value.bool (decide ((st : Int) > (1000000 : Int))))) _ from by kernel_rfl) (hc13)) ?_
        refine pT (.bool true) ?_
        refine pT (.bool true) ?_
        refine pl_skip rfl (by kernel_rfl) (by kernel_rfl) (by kernel_rfl) ?_
        refine pl_skip rfl (by kernel_rfl) (by kernel_rfl) (by kernel_rfl) ?_
        refine pl_skip rfl (by kernel_rfl) (by kernel_rfl) (by kernel_rfl) ?_
        refine pT (.bool true) ?_
        refine pl_nil ?_
        refine qw_then ?_
        refine cw_clean [0, 1, 5, 25] (ws' := [(0, .slice a n c), (1, .int .i64 (st : Int)), (5, .pointer (some ⟨O5, 0, none⟩)), (25, .bool true)]) (by kernel_rfl) (fun L => ?_)
        refine cw_t (by kernel_rfl) ?_
        refine cw_seq ?_
        refine cw_plain ?_
        refine pT (.int .i64 0) ?_
        refine pT (.int .i64 110) ?_
        refine pl_nil ?_
        refine qw_then ?_
        refine cw_ret ?_
        refine qw_then_ret ?_
        refine qw_ret [.int .i64 0, .int .i64 110] rfl ⟨(by kernel_rfl), (by kernel_rfl), trivial⟩ ?_
        have hB : (Mem.okL l && Globe.inB st 0 1000000 && Mem.spB (f, t)) = false := Bool.eq_false_iff.2 fun hz => by
          have hz := Bool.and_eq_true_iff.1 hz
          have hw := (Bool.and_eq_true_iff.1 hz.1).2
          have hz := Globe.inB_t.1 hw; omega
        rw [hB]; exact ⟨rfl, hE⟩
      ·
        refine pl_take (.bool false) rfl (by kernel_rfl) (by kernel_rfl) (by kernel_rfl) (ev_ndec (show _ = Result.ok (Next.value (Value.bool (decide ((st : Int) > (1000000 : Int))))) _ from by kernel_rfl) (hc13)) ?_
        refine pT (.bool false) ?_
        refine pT (.bool false) ?_
        refine pl_take (.agg #[.int .i64 (f : Int), .int .i64 (t : Int)]) rfl (by kernel_rfl) (by kernel_rfl) (by kernel_rfl) (ex_load rfl (by kernel_rfl) (ld24 (bO5_0.1) (bO5_1.1))) ?_
        rcases Bool.eq_false_or_eq_true (Mem.spB (f, t)) with hb14 | hb14
        ·
          have hq15 := Mem.spB_t.1 hb14; simp only [] at hq15
          refine pl_step rfl (by kernel_rfl) (by kernel_rfl) (by kernel_rfl) (sn_call (f := 48) (args := #[.agg #[.int .i64 (f : Int), .int .i64 (t : Int)]]) (by kernel_rfl) ((proper_r (r := true) f t _ (hb14)).mono ?_))
          rintro e w16 ⟨rfl, hb⟩
          replace e0 := e0.trans hb
          replace hE := hE.trans hb
          replace bO5_0 := BoxAt.ext hb bO5_0
          replace bO5_1 := BoxAt.ext hb bO5_1
          have hs17 := hb.size
          clear hb
          refine ⟨_, rfl, ?_⟩
          refine pT (.bool false) ?_
          refine pT (.bool false) ?_
          refine pl_nil ?_
          refine qw_then ?_
          refine cw_clean [0, 1, 5, 25] (ws' := [(0, .slice a n c), (1, .int .i64 (st : Int)), (5, .pointer (some ⟨O5, 0, none⟩)), (25, .bool false)]) (by kernel_rfl) (fun L => ?_)
          refine cw_f (by kernel_rfl) ?_
          refine cw_skip ?_
          refine qw_then ?_
          refine cw_seq ?_
          have hok9 := hb9
          have hsp9 := hb14
          have hfb := Mem.fill_bd hok9 f
          refine cw_plain ?_
          refine pT (.slice a n c) ?_
          refine pT (.pointer (some ⟨O5, 0, none⟩)) ?_
          refine pl_take (.int .i64 (f : Int)) rfl (by kernel_rfl) (by kernel_rfl) (by kernel_rfl) (ex_load rfl (by kernel_rfl) (ld3 (bO5_0.1))) ?_
          refine pl_step rfl (by kernel_rfl) (by kernel_rfl) (by kernel_rfl) (sn_call (f := 34) (args := #[.slice a n c, .int .i64 (f : Int)]) (by kernel_rfl) ((rfill_c f _ _ h e0 hok9).mono ?_))
          rintro e w18 ⟨rfl, hb⟩
          replace e0 := e0.trans hb
          replace hE := hE.trans hb
          replace bO5_0 := BoxAt.ext hb bO5_0
          replace bO5_1 := BoxAt.ext hb bO5_1
          have hs19 := hb.size
          clear hb
          refine ⟨_, rfl, ?_⟩
          refine pT (.int .i64 (Mem.fill l f : Int)) ?_
          refine pl_nil ?_
          refine qw_then ?_
          refine cw_seq ?_
          refine cw_seq ?_
          refine cw_plain ?_
          refine pT (.int .i64 0) ?_
          refine pl_nil ?_
          refine qw_then ?_
          refine cw_block ?_
          refine cw_loop [0, 1, 5, 8, 9] (fun ws' wr m => ∃ i : Nat, ∃ m8 : Int, ws' = [(0, .slice a n c), (1, .int .i64 (st : Int)), (5, .pointer (some ⟨O5, 0, none⟩)), (8, .int .i64 (m8 : Int)), (9, .int .i64 (((i : Nat) : Int) : Int))] ∧ m = n - i ∧ w18.heap.size ≤ wr.heap.size ∧ Ext w0 wr ∧ Ext w wr ∧ BoxAt wr O5 0 (.int .i64 (f : Int)) ∧ BoxAt wr O5 1 (.int .i64 (t : Int)) ∧ i ≤ n ∧ (l.take i).foldl (Mem.topStep l f t) (Mem.fill l f) = m8 ∧ (0 ≤ m8 ∧ m8 ≤ 24000000)) (ws0 := [(0, .slice a n c), (1, .int .i64 (st : Int)), (5, .pointer (some ⟨O5, 0, none⟩)), (8, .int .i64 (Mem.fill l f : Int)), (9, .int .i64 0)]) (by kernel_rfl) _ ⟨0, Mem.fill l f, rfl, rfl, Nat.le_refl _, e0, hE, bO5_0, bO5_1, Nat.zero_le _, (by rw [List.take_zero]; rfl), by omega⟩ ?_
          clear bO5_0 bO5_1 e0 hE
          rintro m22 L ws w21 ⟨i, m8, rfl, rfl, hs20, e0, hE, bO5_0, bO5_1, hi, hms, hm8⟩
          by_cases hlt : i < n
          ·
            obtain rfl := ha (by omega)
            obtain ⟨q23, q24, q25, q26⟩ := hx i hlt
            have hfx := Mem.fill_bd hok9 (stN l i).fr
            refine cw_seq ?_
            refine cw_seq ?_
            refine cw_plain ?_
            refine pT (.int .i64 (((i : Nat) : Int) : Int)) ?_
            refine pT (.slice (some ⟨bs, os, none⟩) n c) ?_
            refine pT (.int .i64 (((n : Nat) : Int) : Int)) ?_
            refine pl_take (.bool true) rfl (by kernel_rfl) (by kernel_rfl) (by kernel_rfl) (ev_dec (show _ = Result.ok (Next.value (Value.bool (decide ((((i : Nat) : Int) : Int) < (((n : Nat) : Int) : Int))))) _ from by kernel_rfl) (by omega)) ?_
            refine pl_nil ?_
            refine qw_then ?_
            refine cw_t (by kernel_rfl) ?_
            refine cw_skip ?_
            refine qw_then ?_
            refine cw_seq ?_
            refine cw_block ?_
            refine cw_seq ?_
            by_cases hx1 : ((stN l i).fr : Int) ≥ (f : Int)
            ·
              by_cases hx2 : ((stN l i).fr : Int) < (t : Int)
              ·
                refine cw_draw [(some 36, [0], []), (some 37, [9], []), (some 38, [36, 37], [0, 1]), (some 39, [38], [2]), (some 40, [39], [3]), (some 41, [40], [4]), (some 42, [5], []), (some 43, [42], [6]), (some 44, [41, 43], [5, 7]), (some 45, [44], [8]), (some 46, [0, 45], [9]), (some 47, [9, 45], [9]), (some 48, [46, 47, 45], [10, 11, 9]), (some 49, [48, 45], [12, 9]), (some 50, [49, 45], [13, 9]), (some 51, [50, 45], [14, 9]), (some 52, [5, 45], [9]), (some 53, [52, 45], [16, 9]), (some 54, [51, 53, 45], [15, 17, 9]), (some 55, [45, 54], [9, 18])] (fun w' => w'.cell? ⟨bs, os + i * 4 + 2, none⟩ = some (.int .i64 ((stN l i).fr : Int)) ∧ w'.cell? ⟨O5, 0, none⟩ = some (.int .i64 (f : Int)) ∧ w'.cell? ⟨O5, 1, none⟩ = some (.int .i64 (t : Int))) (by kernel_rfl) (by kernel_rfl) (by kernel_rfl) (by kernel_rfl) ((calm_then (calm_block (calm_then (calm_then (calm_block (calm_then calm_body))))))) (⟨(e0.cell q25), bO5_0.1, bO5_1.1⟩) (fun ops Q X27 hb hL hR hK => ?_)
                replace e0 := e0.trans hb
                replace hE := hE.trans hb
                replace bO5_0 := BoxAt.ext hb bO5_0
                replace bO5_1 := BoxAt.ext hb bO5_1
                have hs28 := hb.size
                clear hb
                refine wd_take 0 (.slice (some ⟨bs, os, none⟩) n c) hR rfl (by kernel_rfl) rfl (by kernel_rfl) (fun w _ => by kernel_rfl) (⟨(e0.cell q25), bO5_0.1, bO5_1.1⟩) ?_
                refine wd_take 1 (.int .i64 (((i : Nat) : Int) : Int)) hR rfl (by kernel_rfl) rfl (by kernel_rfl) (fun w _ => by kernel_rfl) (⟨(e0.cell q25), bO5_0.1, bO5_1.1⟩) ?_
                refine wd_take 2 (.pointer (some ⟨bs, os + i * 4, none⟩)) hR rfl (by kernel_rfl) rfl (by kernel_rfl) (fun w _ => ex_index (p := .slice (some ⟨bs, os, none⟩) n c) (i := .int .i64 ((i : Nat) : Int)) rfl (by kernel_rfl) (by kernel_rfl) (ix27 (k := i) (by omega))) (⟨(e0.cell q25), bO5_0.1, bO5_1.1⟩) ?_
                refine wd_take 3 (.pointer (some ⟨bs, os + i * 4 + 2, none⟩)) hR rfl (by kernel_rfl) rfl (by kernel_rfl) (fun w _ => by kernel_rfl) (⟨(e0.cell q25), bO5_0.1, bO5_1.1⟩) ?_
                refine wd_take 4 (.pointer (some ⟨bs, os + i * 4 + 2, none⟩)) hR rfl (by kernel_rfl) rfl (by kernel_rfl) (fun w _ => by kernel_rfl) (⟨(e0.cell q25), bO5_0.1, bO5_1.1⟩) ?_
                refine wd_take 5 (.int .i64 ((stN l i).fr : Int)) hR rfl (by kernel_rfl) rfl (by kernel_rfl) (fun w hS => ex_load rfl (by kernel_rfl) (ld3 (hS.1))) (⟨(e0.cell q25), bO5_0.1, bO5_1.1⟩) ?_
                refine wd_take 6 (.pointer (some ⟨O5, 0, none⟩)) hR rfl (by kernel_rfl) rfl (by kernel_rfl) (fun w _ => by kernel_rfl) (⟨(e0.cell q25), bO5_0.1, bO5_1.1⟩) ?_
                refine wd_take 7 (.int .i64 (f : Int)) hR rfl (by kernel_rfl) rfl (by kernel_rfl) (fun w hS => ex_load rfl (by kernel_rfl) (ld3 (hS.2.1))) (⟨(e0.cell q25), bO5_0.1, bO5_1.1⟩) ?_
                refine wd_take 8 (.bool true) hR rfl (by kernel_rfl) rfl (by kernel_rfl) (fun w _ => ev_dec (show _ = Result.ok (Next.value (Value.bool (decide (((stN l i).fr : Int) ≥ (f : Int))))) _ from by kernel_rfl) (hx1)) (⟨(e0.cell q25), bO5_0.1, bO5_1.1⟩) ?_
                refine wd_take 9 (.bool true) hR rfl (by kernel_rfl) rfl (by kernel_rfl) (fun w _ => by kernel_rfl) (⟨(e0.cell q25), bO5_0.1, bO5_1.1⟩) ?_
                refine wd_take 10 (.slice (some ⟨bs, os, none⟩) n c) hR rfl (by kernel_rfl) rfl (by kernel_rfl) (fun w _ => by kernel_rfl) (⟨(e0.cell q25), bO5_0.1, bO5_1.1⟩) ?_
                refine wd_take 11 (.int .i64 (((i : Nat) : Int) : Int)) hR rfl (by kernel_rfl) rfl (by kernel_rfl) (fun w _ => by kernel_rfl) (⟨(e0.cell q25), bO5_0.1, bO5_1.1⟩) ?_
                refine wd_take 12 (.pointer (some ⟨bs, os + i * 4, none⟩)) hR rfl (by kernel_rfl) rfl (by kernel_rfl) (fun w _ => ex_index (p := .slice (some ⟨bs, os, none⟩) n c) (i := .int .i64 ((i : Nat) : Int)) rfl (by kernel_rfl) (by kernel_rfl) (ix27 (k := i) (by omega))) (⟨(e0.cell q25), bO5_0.1, bO5_1.1⟩) ?_
                refine wd_take 13 (.pointer (some ⟨bs, os + i * 4 + 2, none⟩)) hR rfl (by kernel_rfl) rfl (by kernel_rfl) (fun w _ => by kernel_rfl) (⟨(e0.cell q25), bO5_0.1, bO5_1.1⟩) ?_
                refine wd_take 14 (.pointer (some ⟨bs, os + i * 4 + 2, none⟩)) hR rfl (by kernel_rfl) rfl (by kernel_rfl) (fun w _ => by kernel_rfl) (⟨(e0.cell q25), bO5_0.1, bO5_1.1⟩) ?_
                refine wd_take 15 (.int .i64 ((stN l i).fr : Int)) hR rfl (by kernel_rfl) rfl (by kernel_rfl) (fun w hS => ex_load rfl (by kernel_rfl) (ld3 (hS.1))) (⟨(e0.cell q25), bO5_0.1, bO5_1.1⟩) ?_
                refine wd_take 16 (.pointer (some ⟨O5, 1, none⟩)) hR rfl (by kernel_rfl) rfl (by kernel_rfl) (fun w _ => by kernel_rfl) (⟨(e0.cell q25), bO5_0.1, bO5_1.1⟩) ?_
                refine wd_take 17 (.int .i64 (t : Int)) hR rfl (by kernel_rfl) rfl (by kernel_rfl) (fun w hS => ex_load rfl (by kernel_rfl) (ld3 (hS.2.2))) (⟨(e0.cell q25), bO5_0.1, bO5_1.1⟩) ?_
                refine wd_take 18 (.bool true) hR rfl (by kernel_rfl) rfl (by kernel_rfl) (fun w _ => ev_dec (show _ = Result.ok (Next.value (Value.bool (decide (((stN l i).fr : Int) < (t : Int))))) _ from by kernel_rfl) (hx2)) (⟨(e0.cell q25), bO5_0.1, bO5_1.1⟩) ?_
                refine wd_take 19 (.bool true) hR rfl (by kernel_rfl) rfl (by kernel_rfl) (fun w _ => by kernel_rfl) (⟨(e0.cell q25), bO5_0.1, bO5_1.1⟩) ?_
                refine wd_end hL hR hK (by kernel_rfl) ?_
                refine qw_then ?_
                refine cw_clean [0, 1, 5, 8, 9, 55] (ws' := [(0, .slice (some ⟨bs, os, none⟩) n c), (1, .int .i64 (st : Int)), (5, .pointer (some ⟨O5, 0, none⟩)), (8, .int .i64 (m8 : Int)), (9, .int .i64 (((i : Nat) : Int) : Int)), (55, .bool true)]) (by kernel_rfl) (fun L => ?_)
                refine cw_t (by kernel_rfl) ?_
                refine cw_plain ?_
                refine pT (.int .i64 (m8 : Int)) ?_
                refine pT (.slice (some ⟨bs, os, none⟩) n c) ?_
                refine pT (.slice (some ⟨bs, os, none⟩) n c) ?_
                refine pT (.int .i64 (((i : Nat) : Int) : Int)) ?_
                refine pl_take (.pointer (some ⟨bs, os + i * 4, none⟩)) rfl (by kernel_rfl) (by kernel_rfl) (by kernel_rfl) (ex_index (p := .slice (some ⟨bs, os, none⟩) n c) (i := .int .i64 ((i : Nat) : Int)) rfl (by kernel_rfl) (by kernel_rfl) (ix27 (k := i) (by omega))) ?_
                refine pT (.pointer (some ⟨bs, os + i * 4 + 2, none⟩)) ?_
                refine pT (.pointer (some ⟨bs, os + i * 4 + 2, none⟩)) ?_
                refine pl_take (.int .i64 ((stN l i).fr : Int)) rfl (by kernel_rfl) (by kernel_rfl) (by kernel_rfl) (ex_load rfl (by kernel_rfl) (ld3 ((e0.cell q25)))) ?_
                refine pl_step rfl (by kernel_rfl) (by kernel_rfl) (by kernel_rfl) (sn_call (f := 34) (args := #[.slice (some ⟨bs, os, none⟩) n c, .int .i64 ((stN l i).fr : Int)]) (by kernel_rfl) ((rfill_c ((stN l i).fr) _ _ h e0 hok9).mono ?_))
                rintro e w29 ⟨rfl, hb⟩
                replace e0 := e0.trans hb
                replace hE := hE.trans hb
                replace bO5_0 := BoxAt.ext hb bO5_0
                replace bO5_1 := BoxAt.ext hb bO5_1
                have hs30 := hb.size
                clear hb
                refine ⟨_, rfl, ?_⟩
                refine pl_take (.int .i64 (max (m8 : Int) (Mem.fill l ((stN l i).fr) : Int) : Int)) rfl (by kernel_rfl) (by kernel_rfl) (by kernel_rfl) (ev_int (show _ = Result.ok (Next.value (Value.int .i64 (if (m8 : Int) < (Mem.fill l ((stN l i).fr) : Int) then (Mem.fill l ((stN l i).fr) : Int) else (m8 : Int)))) _ from by kernel_rfl) (by split <;> omega)) ?_
                refine pT (.int .i64 (max (m8 : Int) (Mem.fill l ((stN l i).fr) : Int) : Int)) ?_
                refine pl_nil ?_
                refine qw_block ?_
                refine qw_then ?_
                refine cw_clean [0, 1, 5, 8, 9] (ws' := [(0, .slice (some ⟨bs, os, none⟩) n c), (1, .int .i64 (st : Int)), (5, .pointer (some ⟨O5, 0, none⟩)), (8, .int .i64 (max (m8 : Int) (Mem.fill l ((stN l i).fr) : Int) : Int)), (9, .int .i64 (((i : Nat) : Int) : Int))]) (by kernel_rfl) (fun L => ?_)
                refine cw_plain ?_
                refine pT (.int .i64 (((i : Nat) : Int) : Int)) ?_
                refine pl_take (.int .i64 (((i + 1 : Nat) : Int) : Int)) rfl (by kernel_rfl) (by kernel_rfl) (by kernel_rfl) (ev_wrap (by kernel_rfl) (by omega) (by omega)) ?_
                refine pT (.int .i64 (((i + 1 : Nat) : Int) : Int)) ?_
                refine pl_nil ?_
                refine qw_round [0, 1, 5, 8, 9] (ws' := [(0, .slice (some ⟨bs, os, none⟩) n c), (1, .int .i64 (st : Int)), (5, .pointer (some ⟨O5, 0, none⟩)), (8, .int .i64 (max (m8 : Int) (Mem.fill l ((stN l i).fr) : Int) : Int)), (9, .int .i64 (((i + 1 : Nat) : Int) : Int))]) (by kernel_rfl) _ ?_ ⟨(i + 1), max (m8 : Int) (Mem.fill l ((stN l i).fr) : Int), rfl, rfl, (Nat.le_trans hs20 (Nat.le_trans hs28 hs30)), e0, hE, bO5_0, bO5_1, by omega, (Mem.top_y (by omega) hms (by omega)), by omega⟩
                omega
              ·
                refine cw_draw [(some 36, [0], []), (some 37, [9], []), (some 38, [36, 37], [0, 1]), (some 39, [38], [2]), (some 40, [39], [3]), (some 41, [40], [4]), (some 42, [5], []), (some 43, [42], [6]), (some 44, [41, 43], [5, 7]), (some 45, [44], [8]), (some 46, [0, 45], [9]), (some 47, [9, 45], [9]), (some 48, [46, 47, 45], [10, 11, 9]), (some 49, [48, 45], [12, 9]), (some 50, [49, 45], [13, 9]), (some 51, [50, 45], [14, 9]), (some 52, [5, 45], [9]), (some 53, [52, 45], [16, 9]), (some 54, [51, 53, 45], [15, 17, 9]), (some 55, [45, 54], [9, 18])] (fun w' => w'.cell? ⟨bs, os + i * 4 + 2, none⟩ = some (.int .i64 ((stN l i).fr : Int)) ∧ w'.cell? ⟨O5, 0, none⟩ = some (.int .i64 (f : Int)) ∧ w'.cell? ⟨O5, 1, none⟩ = some (.int .i64 (t : Int))) (by kernel_rfl) (by kernel_rfl) (by kernel_rfl) (by kernel_rfl) ((calm_then (calm_block (calm_then (calm_then (calm_block (calm_then calm_body))))))) (⟨(e0.cell q25), bO5_0.1, bO5_1.1⟩) (fun ops Q X31 hb hL hR hK => ?_)
                replace e0 := e0.trans hb
                replace hE := hE.trans hb
                replace bO5_0 := BoxAt.ext hb bO5_0
                replace bO5_1 := BoxAt.ext hb bO5_1
                have hs32 := hb.size
                clear hb
                refine wd_take 0 (.slice (some ⟨bs, os, none⟩) n c) hR rfl (by kernel_rfl) rfl (by kernel_rfl) (fun w _ => by kernel_rfl) (⟨(e0.cell q25), bO5_0.1, bO5_1.1⟩) ?_
                refine wd_take 1 (.int .i64 (((i : Nat) : Int) : Int)) hR rfl (by kernel_rfl) rfl (by kernel_rfl) (fun w _ => by kernel_rfl) (⟨(e0.cell q25), bO5_0.1, bO5_1.1⟩) ?_
                refine wd_take 2 (.pointer (some ⟨bs, os + i * 4, none⟩)) hR rfl (by kernel_rfl) rfl (by kernel_rfl) (fun w _ => ex_index (p := .slice (some ⟨bs, os, none⟩) n c) (i := .int .i64 ((i : Nat) : Int)) rfl (by kernel_rfl) (by kernel_rfl) (ix27 (k := i) (by omega))) (⟨(e0.cell q25), bO5_0.1, bO5_1.1⟩) ?_
                refine wd_take 3 (.pointer (some ⟨bs, os + i * 4 + 2, none⟩)) hR rfl (by kernel_rfl) rfl (by kernel_rfl) (fun w _ => by kernel_rfl) (⟨(e0.cell q25), bO5_0.1, bO5_1.1⟩) ?_
                refine wd_take 4 (.pointer (some ⟨bs, os + i * 4 + 2, none⟩)) hR rfl (by kernel_rfl) rfl (by kernel_rfl) (fun w _ => by kernel_rfl) (⟨(e0.cell q25), bO5_0.1, bO5_1.1⟩) ?_
                refine wd_take 5 (.int .i64 ((stN l i).fr : Int)) hR rfl (by kernel_rfl) rfl (by kernel_rfl) (fun w hS => ex_load rfl (by kernel_rfl) (ld3 (hS.1))) (⟨(e0.cell q25), bO5_0.1, bO5_1.1⟩) ?_
                refine wd_take 6 (.pointer (some ⟨O5, 0, none⟩)) hR rfl (by kernel_rfl) rfl (by kernel_rfl) (fun w _ => by kernel_rfl) (⟨(e0.cell q25), bO5_0.1, bO5_1.1⟩) ?_
                refine wd_take 7 (.int .i64 (f : Int)) hR rfl (by kernel_rfl) rfl (by kernel_rfl) (fun w hS => ex_load rfl (by kernel_rfl) (ld3 (hS.2.1))) (⟨(e0.cell q25), bO5_0.1, bO5_1.1⟩) ?_
                refine wd_take 8 (.bool true) hR rfl (by kernel_rfl) rfl (by kernel_rfl) (fun w _ => ev_dec (show _ = Result.ok (Next.value (Value.bool (decide (((stN l i).fr : Int) ≥ (f : Int))))) _ from by kernel_rfl) (hx1)) (⟨(e0.cell q25), bO5_0.1, bO5_1.1⟩) ?_
                refine wd_take 9 (.bool true) hR rfl (by kernel_rfl) rfl (by kernel_rfl) (fun w _ => by kernel_rfl) (⟨(e0.cell q25), bO5_0.1, bO5_1.1⟩) ?_
                refine wd_take 10 (.slice (some ⟨bs, os, none⟩) n c) hR rfl (by kernel_rfl) rfl (by kernel_rfl) (fun w _ => by kernel_rfl) (⟨(e0.cell q25), bO5_0.1, bO5_1.1⟩) ?_
                refine wd_take 11 (.int .i64 (((i : Nat) : Int) : Int)) hR rfl (by kernel_rfl) rfl (by kernel_rfl) (fun w _ => by kernel_rfl) (⟨(e0.cell q25), bO5_0.1, bO5_1.1⟩) ?_
                refine wd_take 12 (.pointer (some ⟨bs, os + i * 4, none⟩)) hR rfl (by kernel_rfl) rfl (by kernel_rfl) (fun w _ => ex_index (p := .slice (some ⟨bs, os, none⟩) n c) (i := .int .i64 ((i : Nat) : Int)) rfl (by kernel_rfl) (by kernel_rfl) (ix27 (k := i) (by omega))) (⟨(e0.cell q25), bO5_0.1, bO5_1.1⟩) ?_
                refine wd_take 13 (.pointer (some ⟨bs, os + i * 4 + 2, none⟩)) hR rfl (by kernel_rfl) rfl (by kernel_rfl) (fun w _ => by kernel_rfl) (⟨(e0.cell q25), bO5_0.1, bO5_1.1⟩) ?_
                refine wd_take 14 (.pointer (some ⟨bs, os + i * 4 + 2, none⟩)) hR rfl (by kernel_rfl) rfl (by kernel_rfl) (fun w _ => by kernel_rfl) (⟨(e0.cell q25), bO5_0.1, bO5_1.1⟩) ?_
                refine wd_take 15 (.int .i64 ((stN l i).fr : Int)) hR rfl (by kernel_rfl) rfl (by kernel_rfl) (fun w hS => ex_load rfl (by kernel_rfl) (ld3 (hS.1))) (⟨(e0.cell q25), bO5_0.1, bO5_1.1⟩) ?_
                refine wd_take 16 (.pointer (some ⟨O5, 1, none⟩)) hR rfl (by kernel_rfl) rfl (by kernel_rfl) (fun w _ => by kernel_rfl) (⟨(e0.cell q25), bO5_0.1, bO5_1.1⟩) ?_
                refine wd_take 17 (.int .i64 (t : Int)) hR rfl (by kernel_rfl) rfl (by kernel_rfl) (fun w hS => ex_load rfl (by kernel_rfl) (ld3 (hS.2.2))) (⟨(e0.cell q25), bO5_0.1, bO5_1.1⟩) ?_
                refine wd_take 18 (.bool false) hR rfl (by kernel_rfl) rfl (by kernel_rfl) (fun w _ => ev_ndec (show _ = Result.ok (Next.value (Value.bool (decide (((stN l i).fr : Int) < (t : Int))))) _ from by kernel_rfl) (hx2)) (⟨(e0.cell q25), bO5_0.1, bO5_1.1⟩) ?_
                refine wd_take 19 (.bool false) hR rfl (by kernel_rfl) rfl (by kernel_rfl) (fun w _ => by kernel_rfl) (⟨(e0.cell q25), bO5_0.1, bO5_1.1⟩) ?_
                refine wd_end hL hR hK (by kernel_rfl) ?_
                refine qw_then ?_
                refine cw_clean [0, 1, 5, 8, 9, 55] (ws' := [(0, .slice (some ⟨bs, os, none⟩) n c), (1, .int .i64 (st : Int)), (5, .pointer (some ⟨O5, 0, none⟩)), (8, .int .i64 (m8 : Int)), (9, .int .i64 (((i : Nat) : Int) : Int)), (55, .bool false)]) (by kernel_rfl) (fun L => ?_)
                refine cw_f (by kernel_rfl) ?_
                refine cw_skip ?_
                refine qw_block ?_
                refine qw_then ?_
                refine cw_plain ?_
                refine pT (.int .i64 (((i : Nat) : Int) : Int)) ?_
                refine pl_take (.int .i64 (((i + 1 : Nat) : Int) : Int)) rfl (by kernel_rfl) (by kernel_rfl) (by kernel_rfl) (ev_wrap (by kernel_rfl) (by omega) (by omega)) ?_
                refine pT (.int .i64 (((i + 1 : Nat) : Int) : Int)) ?_
                refine pl_nil ?_
                refine qw_round [0, 1, 5, 8, 9] (ws' := [(0, .slice (some ⟨bs, os, none⟩) n c), (1, .int .i64 (st : Int)), (5, .pointer (some ⟨O5, 0, none⟩)), (8, .int .i64 (m8 : Int)), (9, .int .i64 (((i + 1 : Nat) : Int) : Int))]) (by kernel_rfl) _ ?_ ⟨(i + 1), m8, rfl, rfl, (Nat.le_trans hs20 hs32), e0, hE, bO5_0, bO5_1, by omega, (Mem.top_n (by omega) hms (by omega)), by omega⟩
                omega
            ·
              refine cw_draw [(some 36, [0], []), (some 37, [9], []), (some 38, [36, 37], [0, 1]), (some 39, [38], [2]), (some 40, [39], [3]), (some 41, [40], [4]), (some 42, [5], []), (some 43, [42], [6]), (some 44, [41, 43], [5, 7]), (some 45, [44], [8]), (some 46, [0, 45], [9]), (some 47, [9, 45], [9]), (some 48, [46, 47, 45], [10, 11, 9]), (some 49, [48, 45], [12, 9]), (some 50, [49, 45], [13, 9]), (some 51, [50, 45], [14, 9]), (some 52, [5, 45], [9]), (some 53, [52, 45], [16, 9]), (some 54, [51, 53, 45], [15, 17, 9]), (some 55, [45, 54], [9, 18])] (fun w' => w'.cell? ⟨bs, os + i * 4 + 2, none⟩ = some (.int .i64 ((stN l i).fr : Int)) ∧ w'.cell? ⟨O5, 0, none⟩ = some (.int .i64 (f : Int))) (by kernel_rfl) (by kernel_rfl) (by kernel_rfl) (by kernel_rfl) ((calm_then (calm_block (calm_then (calm_then (calm_block (calm_then calm_body))))))) (⟨(e0.cell q25), bO5_0.1⟩) (fun ops Q X33 hb hL hR hK => ?_)
              replace e0 := e0.trans hb
              replace hE := hE.trans hb
              replace bO5_0 := BoxAt.ext hb bO5_0
              replace bO5_1 := BoxAt.ext hb bO5_1
              have hs34 := hb.size
              clear hb
              refine wd_take 0 (.slice (some ⟨bs, os, none⟩) n c) hR rfl (by kernel_rfl) rfl (by kernel_rfl) (fun w _ => by kernel_rfl) (⟨(e0.cell q25), bO5_0.1⟩) ?_
              refine wd_take 1 (.int .i64 (((i : Nat) : Int) : Int)) hR rfl (by kernel_rfl) rfl (by kernel_rfl) (fun w _ => by kernel_rfl) (⟨(e0.cell q25), bO5_0.1⟩) ?_
              refine wd_take 2 (.pointer (some ⟨bs, os + i * 4, none⟩)) hR rfl (by kernel_rfl) rfl (by kernel_rfl) (fun w _ => ex_index (p := .slice (some ⟨bs, os, none⟩) n c) (i := .int .i64 ((i : Nat) : Int)) rfl (by kernel_rfl) (by kernel_rfl) (ix27 (k := i) (by omega))) (⟨(e0.cell q25), bO5_0.1⟩) ?_
              refine wd_take 3 (.pointer (some ⟨bs, os + i * 4 + 2, none⟩)) hR rfl (by kernel_rfl) rfl (by kernel_rfl) (fun w _ => by kernel_rfl) (⟨(e0.cell q25), bO5_0.1⟩) ?_
              refine wd_take 4 (.pointer (some ⟨bs, os + i * 4 + 2, none⟩)) hR rfl (by kernel_rfl) rfl (by kernel_rfl) (fun w _ => by kernel_rfl) (⟨(e0.cell q25), bO5_0.1⟩) ?_
              refine wd_take 5 (.int .i64 ((stN l i).fr : Int)) hR rfl (by kernel_rfl) rfl (by kernel_rfl) (fun w hS => ex_load rfl (by kernel_rfl) (ld3 (hS.1))) (⟨(e0.cell q25), bO5_0.1⟩) ?_
              refine wd_take 6 (.pointer (some ⟨O5, 0, none⟩)) hR rfl (by kernel_rfl) rfl (by kernel_rfl) (fun w _ => by kernel_rfl) (⟨(e0.cell q25), bO5_0.1⟩) ?_
              refine wd_take 7 (.int .i64 (f : Int)) hR rfl (by kernel_rfl) rfl (by kernel_rfl) (fun w hS => ex_load rfl (by kernel_rfl) (ld3 (hS.2))) (⟨(e0.cell q25), bO5_0.1⟩) ?_
              refine wd_take 8 (.bool false) hR rfl (by kernel_rfl) rfl (by kernel_rfl) (fun w _ => ev_ndec (show _ = Result.ok (Next.value (Value.bool (decide (((stN l i).fr : Int) ≥ (f : Int))))) _ from by kernel_rfl) (hx1)) (⟨(e0.cell q25), bO5_0.1⟩) ?_
              refine wd_take 9 (.bool false) hR rfl (by kernel_rfl) rfl (by kernel_rfl) (fun w _ => by kernel_rfl) (⟨(e0.cell q25), bO5_0.1⟩) ?_
              refine wd_skip 10 hR rfl (by kernel_rfl) rfl (by kernel_rfl) (⟨(e0.cell q25), bO5_0.1⟩) ?_
              refine wd_skip 11 hR rfl (by kernel_rfl) rfl (by kernel_rfl) (⟨(e0.cell q25), bO5_0.1⟩) ?_
              refine wd_skip 12 hR rfl (by kernel_rfl) rfl (by kernel_rfl) (⟨(e0.cell q25), bO5_0.1⟩) ?_
              refine wd_skip 13 hR rfl (by kernel_rfl) rfl (by kernel_rfl) (⟨(e0.cell q25), bO5_0.1⟩) ?_
              refine wd_skip 14 hR rfl (by kernel_rfl) rfl (by kernel_rfl) (⟨(e0.cell q25), bO5_0.1⟩) ?_
              refine wd_skip 15 hR rfl (by kernel_rfl) rfl (by kernel_rfl) (⟨(e0.cell q25), bO5_0.1⟩) ?_
              refine wd_skip 16 hR rfl (by kernel_rfl) rfl (by kernel_rfl) (⟨(e0.cell q25), bO5_0.1⟩) ?_
              refine wd_skip 17 hR rfl (by kernel_rfl) rfl (by kernel_rfl) (⟨(e0.cell q25), bO5_0.1⟩) ?_
              refine wd_skip 18 hR rfl (by kernel_rfl) rfl (by kernel_rfl) (⟨(e0.cell q25), bO5_0.1⟩) ?_
              refine wd_take 19 (.bool false) hR rfl (by kernel_rfl) rfl (by kernel_rfl) (fun w _ => by kernel_rfl) (⟨(e0.cell q25), bO5_0.1⟩) ?_
              refine wd_end hL hR hK (by kernel_rfl) ?_
              refine qw_then ?_
              refine cw_clean [0, 1, 5, 8, 9, 55] (ws' := [(0, .slice (some ⟨bs, os, none⟩) n c), (1, .int .i64 (st : Int)), (5, .pointer (some ⟨O5, 0, none⟩)), (8, .int .i64 (m8 : Int)), (9, .int .i64 (((i : Nat) : Int) : Int)), (55, .bool false)]) (by kernel_rfl) (fun L => ?_)
              refine cw_f (by kernel_rfl) ?_
              refine cw_skip ?_
              refine qw_block ?_
              refine qw_then ?_
              refine cw_plain ?_
              refine pT (.int .i64 (((i : Nat) : Int) : Int)) ?_
              refine pl_take (.int .i64 (((i + 1 : Nat) : Int) : Int)) rfl (by kernel_rfl) (by kernel_rfl) (by kernel_rfl) (ev_wrap (by kernel_rfl) (by omega) (by omega)) ?_
              refine pT (.int .i64 (((i + 1 : Nat) : Int) : Int)) ?_
              refine pl_nil ?_
              refine qw_round [0, 1, 5, 8, 9] (ws' := [(0, .slice (some ⟨bs, os, none⟩) n c), (1, .int .i64 (st : Int)), (5, .pointer (some ⟨O5, 0, none⟩)), (8, .int .i64 (m8 : Int)), (9, .int .i64 (((i + 1 : Nat) : Int) : Int))]) (by kernel_rfl) _ ?_ ⟨(i + 1), m8, rfl, rfl, (Nat.le_trans hs20 hs34), e0, hE, bO5_0, bO5_1, by omega, (Mem.top_n (by omega) hms (by omega)), by omega⟩
              omega
          ·
            have hv9 : Mem.topR l f t = m8 := by rw [← hms, List.take_of_length_le (by omega)]; rfl
            refine cw_seq ?_
            refine cw_seq ?_
            refine cw_plain ?_
            refine pT (.int .i64 (((i : Nat) : Int) : Int)) ?_
            refine pT (.slice a n c) ?_
            refine pT (.int .i64 (((n : Nat) : Int) : Int)) ?_
            refine pl_take (.bool false) rfl (by kernel_rfl) (by kernel_rfl) (by kernel_rfl) (ev_ndec (show _ = Result.ok (Next.value (Value.bool (decide ((((i : Nat) : Int) : Int) < (((n : Nat) : Int) : Int))))) _ from by kernel_rfl) (by omega)) ?_
            refine pl_nil ?_
            refine qw_then ?_
            refine cw_f (by kernel_rfl) ?_
            refine cw_exit ?_
            refine qw_then_exit ?_
            refine qw_then_exit ?_
            refine qw_block_out ?_
            refine qw_then ?_
            refine cw_seq ?_
            refine cw_plain ?_
            refine pT (.int .i64 (st : Int)) ?_
            refine pT (.int .i64 (m8 : Int)) ?_
            refine pl_take (.int .i64 (st - m8 : Int)) rfl (by kernel_rfl) (by kernel_rfl) (by kernel_rfl) (ev_wrap (by kernel_rfl) (by omega) (by omega)) ?_
            refine pl_take (.int .i64 (max (0 : Int) (st - m8 : Int) : Int)) rfl (by kernel_rfl) (by kernel_rfl) (by kernel_rfl) (ev_int (show _ = Result.ok (Next.value (Value.int .i64 (if (0 : Int) < (st - m8 : Int) then (st - m8 : Int) else (0 : Int)))) _ from by kernel_rfl) (by split <;> omega)) ?_
            refine pT (.int .i64 (max (0 : Int) (st - m8 : Int) : Int)) ?_
            refine pT (.int .i64 0) ?_
            refine pl_nil ?_
            refine qw_then ?_
            refine cw_clean [6, 7] (ws' := [(6, .int .i64 (max (0 : Int) (st - m8 : Int) : Int)), (7, .int .i64 0)]) (by kernel_rfl) (fun L => ?_)
            refine cw_ret ?_
            refine qw_ret [.int .i64 (max (0 : Int) (st - m8 : Int) : Int), .int .i64 0] rfl ⟨(by kernel_rfl), (by kernel_rfl), trivial⟩ ?_
            have hB : (Mem.okL l && Globe.inB st 0 1000000 && Mem.spB (f, t)) = true := by rw [hok9, show Globe.inB st 0 1000000 = true from Globe.inB_t.2 ⟨by omega, by omega⟩, hsp9]; rfl
            rw [hB, Mem.ansV_t, hv9]; exact ⟨rfl, hE⟩
        ·
          refine pl_step rfl (by kernel_rfl) (by kernel_rfl) (by kernel_rfl) (sn_call (f := 48) (args := #[.agg #[.int .i64 (f : Int), .int .i64 (t : Int)]]) (by kernel_rfl) ((proper_r (r := false) f t _ (hb14)).mono ?_))
          rintro e w35 ⟨rfl, hb⟩
          replace e0 := e0.trans hb
          replace hE := hE.trans hb
          replace bO5_0 := BoxAt.ext hb bO5_0
          replace bO5_1 := BoxAt.ext hb bO5_1
          have hs36 := hb.size
          clear hb
          refine ⟨_, rfl, ?_⟩
          refine pT (.bool true) ?_
          refine pT (.bool true) ?_
          refine pl_nil ?_
          refine qw_then ?_
          refine cw_clean [0, 1, 5, 25] (ws' := [(0, .slice a n c), (1, .int .i64 (st : Int)), (5, .pointer (some ⟨O5, 0, none⟩)), (25, .bool true)]) (by kernel_rfl) (fun L => ?_)
          refine cw_t (by kernel_rfl) ?_
          refine cw_seq ?_
          refine cw_plain ?_
          refine pT (.int .i64 0) ?_
          refine pT (.int .i64 110) ?_
          refine pl_nil ?_
          refine qw_then ?_
          refine cw_ret ?_
          refine qw_then_ret ?_
          refine qw_ret [.int .i64 0, .int .i64 110] rfl ⟨(by kernel_rfl), (by kernel_rfl), trivial⟩ ?_
          have hB : (Mem.okL l && Globe.inB st 0 1000000 && Mem.spB (f, t)) = false := by rw [hb14]; simp
          rw [hB]; exact ⟨rfl, hE⟩
  ·
    refine pl_step rfl (by kernel_rfl) (by kernel_rfl) (by kernel_rfl) (sn_call (f := 19) (args := #[.slice a n c]) (by kernel_rfl) ((rValid_r (l := l) (r := false) _ _ h e0 hb9).mono ?_))
    rintro e w37 ⟨rfl, hb⟩
    replace e0 := e0.trans hb
    replace hE := hE.trans hb
    replace bO5_0 := BoxAt.ext hb bO5_0
    replace bO5_1 := BoxAt.ext hb bO5_1
    have hs38 := hb.size
    clear hb
    refine ⟨_, rfl, ?_⟩
    refine pT (.bool true) ?_
    refine pT (.bool true) ?_
    refine pl_skip rfl (by kernel_rfl) (by kernel_rfl) (by kernel_rfl) ?_
    refine pl_skip rfl (by kernel_rfl) (by kernel_rfl) (by kernel_rfl) ?_
    refine pT (.bool true) ?_
    refine pT (.bool true) ?_
    refine pl_skip rfl (by kernel_rfl) (by kernel_rfl) (by kernel_rfl) ?_
    refine pl_skip rfl (by kernel_rfl) (by kernel_rfl) (by kernel_rfl) ?_
    refine pT (.bool true) ?_
    refine pT (.bool true) ?_
    refine pl_skip rfl (by kernel_rfl) (by kernel_rfl) (by kernel_rfl) ?_
    refine pl_skip rfl (by kernel_rfl) (by kernel_rfl) (by kernel_rfl) ?_
    refine pl_skip rfl (by kernel_rfl) (by kernel_rfl) (by kernel_rfl) ?_
    refine pT (.bool true) ?_
    refine pl_nil ?_
    refine qw_then ?_
    refine cw_clean [0, 1, 5, 25] (ws' := [(0, .slice a n c), (1, .int .i64 (st : Int)), (5, .pointer (some ⟨O5, 0, none⟩)), (25, .bool true)]) (by kernel_rfl) (fun L => ?_)
    refine cw_t (by kernel_rfl) ?_
    refine cw_seq ?_
    refine cw_plain ?_
    refine pT (.int .i64 0) ?_
    refine pT (.int .i64 110) ?_
    refine pl_nil ?_
    refine qw_then ?_
    refine cw_ret ?_
    refine qw_then_ret ?_
    refine qw_ret [.int .i64 0, .int .i64 110] rfl ⟨(by kernel_rfl), (by kernel_rfl), trivial⟩ ?_
    have hB : (Mem.okL l && Globe.inB st 0 1000000 && Mem.spB (f, t)) = false := by rw [hb9]; simp
    rw [hB]; exact ⟨rfl, hE⟩

end Go.Proofs.Ytnbjjddfcondlaa
