/- The statement MemoryFrees: for every input that the row lists, the law returns true, and every argument reads as it read before. -/
import Derived.Test.YtnbjjddfcondlaaV5MemoryFrees
/- Contract of the reference of chapter 11: Options. -/
namespace Go.Proofs.Ytnbjjddfcondlaa
open Go.RowKit

theorem cells3 {w : World} {O : Nat} {x0 x1 x2 : Value} (h0 : w.cell? ⟨O, 0, none⟩ = some x0) (h1 : w.cell? ⟨O, 1, none⟩ = some x1) (h2 : w.cell? ⟨O, 2, none⟩ = some x2) : ∀ j v, [x0, x1, x2][j]? = some v → w.cell? ⟨O, j, none⟩ = some v
  | 0, v, hv => by simp at hv; subst hv; exact h0
  | 1, v, hv => by simp at hv; subst hv; exact h1
  | 2, v, hv => by simp at hv; subst hv; exact h2
  | _ + 3, v, hv => by simp at hv
theorem cells9 {w : World} {O : Nat} {x0 x1 x2 x3 x4 x5 x6 x7 x8 : Value} (h0 : w.cell? ⟨O, 0, none⟩ = some x0) (h1 : w.cell? ⟨O, 1, none⟩ = some x1) (h2 : w.cell? ⟨O, 2, none⟩ = some x2) (h3 : w.cell? ⟨O, 3, none⟩ = some x3) (h4 : w.cell? ⟨O, 4, none⟩ = some x4) (h5 : w.cell? ⟨O, 5, none⟩ = some x5) (h6 : w.cell? ⟨O, 6, none⟩ = some x6) (h7 : w.cell? ⟨O, 7, none⟩ = some x7) (h8 : w.cell? ⟨O, 8, none⟩ = some x8) : ∀ j v, [x0, x1, x2, x3, x4, x5, x6, x7, x8][j]? = some v → w.cell? ⟨O, j, none⟩ = some v
  | 0, v, hv => by simp at hv; subst hv; exact h0
  | 1, v, hv => by simp at hv; subst hv; exact h1
  | 2, v, hv => by simp at hv; subst hv; exact h2
  | 3, v, hv => by simp at hv; subst hv; exact h3
  | 4, v, hv => by simp at hv; subst hv; exact h4
  | 5, v, hv => by simp at hv; subst hv; exact h5
  | 6, v, hv => by simp at hv; subst hv; exact h6
  | 7, v, hv => by simp at hv; subst hv; exact h7
  | 8, v, hv => by simp at hv; subst hv; exact h8
  | _ + 9, v, hv => by simp at hv
theorem rpickv_c (c n : Int) (w : World) (hc : IsI c) (h0 : 0 < n) (h1 : n ≤ 100000000) : Calls Try.prog 32 #[.int .i64 c, .int .i64 n] w fun e w' => ∃ k : Int, e = .returned (.int .i64 k) ∧ (0 ≤ k ∧ k < n) ∧ w = w' :=
  (rpick_c c n w hc h0 h1).mono fun _ _ ⟨he, hw⟩ => ⟨_, he, pickF_bd h0, hw⟩
theorem quo_isI {x k : Int} (h : IsI x) (hk : 0 < k) : IsI (x.tdiv k) := by
  have h2 : (x.tdiv k).natAbs ≤ x.natAbs := by rw [Int.natAbs_tdiv]; exact Nat.div_le_self _ _
  have h3 : 0 ≤ x → 0 ≤ x.tdiv k := fun h => Int.tdiv_nonneg h (by omega)
  have h4 : x ≤ 0 → x.tdiv k ≤ 0 := fun h => by
    have := Int.tdiv_nonneg (a := -x) (b := k) (by omega) (by omega)
    rw [Int.neg_tdiv] at this; omega
  obtain ⟨h0, h1⟩ := h
  generalize x.tdiv k = q at h2 h3 h4 ⊢
  exact ⟨by omega, by omega⟩
/-- The slice at a (n elements) reads as rows of six ints. -/
def SixAt (w : World) (a : Option Addr) (n : Nat) (q : Nat → Nat → Int) : Prop :=
  n = 0 ∨ ∃ b off, a = some ⟨b, off, none⟩ ∧ ∀ i, i < n → ∀ j, j < 6 → w.cell? ⟨b, off + i * 6 + j, none⟩ = some (.int .i64 (q i j)) ∧ IsI (q i j)
def Mem.Slt.enc (x : Mem.Slt) : List Value := [.int .i64 x.ps, .int .i64 x.fr, .int .i64 x.to]
def slR : Rep Mem.Slt where
  rel _ c x F := c = x.enc ∧ F = []
  keep := fun h _ => h
  lt := by rintro w c x F ⟨_, rfl⟩ b hb; cases hb
theorem slT : ElemT Try.prog 29 61 (.agg #[.int .i64 0, .int .i64 0, .int .i64 0]) 3 24 := ⟨Try.underlying29, by kernel_rfl, rfl, by decide⟩
theorem own_sls {n₀ e n cap : Nat} {a : Option Addr} {w : World} {l : List Mem.Slt} (h : OwnL slR n₀ e 3 (.slice a n cap) w l) (hl : l.length = n) (h0 : 0 < n) (hn : n ≤ 1000) : ∃ b, a = some ⟨b, 0, none⟩ ∧ n₀ ≤ b ∧ SlsAt w (some ⟨b, 0, none⟩) n l := by
  subst hl
  have hb := h.base
  obtain ⟨cs, h1, h2, h3, h4⟩ := h
  rcases h3.2 with ⟨q1, q2⟩ | ⟨g, cap', cur, q1, _⟩
  · injection q1 with r1 r2 r3; omega
  · injection q1 with r1 r2 r3
    subst r1
    refine ⟨g, rfl, hb g rfl, rfl, by omega, .inr ⟨g, 0, rfl, fun i x hx => ?_⟩⟩
    have hi := (List.getElem?_eq_some_iff.1 hx).1
    have hc := List.getElem?_eq_getElem (l := cs) (i := i) (by omega)
    obtain ⟨F, ⟨e1, _⟩, _⟩ := h4 i _ _ hx hc
    have k : ∀ q u, q < 3 → x.enc[q]? = some u → w.cell? ⟨g, 0 + i * 3 + q, none⟩ = some u := fun q u hq hu => by
      have f := flatten_get h2 i hc q hq
      rw [e1, hu] at f
      rw [Nat.add_assoc]
      exact own_cell9 h3 (by omega) f
    exact ⟨k 0 _ (by omega) rfl, k 1 _ (by omega) rfl, k 2 _ (by omega) rfl⟩
/-- An option in a list of one's own: its slots lie in a block of their own. -/
def optR : Rep Mem.Opt where
  rel w c x F := ∃ b m k, c = [.int .i64 x.id, .int .i64 x.od, .int .i64 x.cl, .int .i64 x.sa, .int .i64 x.fr, .int .i64 x.to, .int .i64 x.lk, .int .i64 x.sz, .slice (some ⟨b, 0, none⟩) m k] ∧ SlsAt w (some ⟨b, 0, none⟩) m x.sl ∧ 0 < m ∧ F = [b]
  keep := by
    rintro w w' c x F ⟨b, m, k, rfl, hs, hm, rfl⟩ h
    refine ⟨b, m, k, rfl, ⟨hs.1, hs.2.1, hs.2.2.imp id fun ⟨b', o', ha, hx⟩ => ⟨b', o', ha, fun i y hi => ?_⟩⟩, hm, rfl⟩
    cases ha
    obtain ⟨c0, c1, c2⟩ := hx i y hi
    exact ⟨h b (by simp) _ _ c0, h b (by simp) _ _ c1, h b (by simp) _ _ c2⟩
  lt := by
    rintro w c x F ⟨b, m, k, rfl, hs, hm, rfl⟩ b' hb
    rw [List.mem_singleton.1 hb]
    rcases hs.2.2 with h | ⟨b', o', ha, hx⟩
    · omega
    · cases ha
      exact World.block_lt_of_cell? _ _ (hx 0 _ (slN_at (by rw [hs.1]; exact hm))).1
theorem optT : ElemT Try.prog 50 31 (.agg #[.int .i64 0, .int .i64 0, .int .i64 0, .int .i64 0, .int .i64 0, .int .i64 0, .int .i64 0, .int .i64 0, .slice none 0 0]) 9 88 := ⟨Try.underlying50, by kernel_rfl, rfl, by decide⟩
def OptAt (w : World) (b o : Nat) (x : Mem.Opt) : Prop := w.cell? ⟨b, o, none⟩ = some (.int .i64 x.id) ∧ w.cell? ⟨b, o + 1, none⟩ = some (.int .i64 x.od) ∧ w.cell? ⟨b, o + 2, none⟩ = some (.int .i64 x.cl) ∧ w.cell? ⟨b, o + 3, none⟩ = some (.int .i64 x.sa) ∧ w.cell? ⟨b, o + 4, none⟩ = some (.int .i64 x.fr) ∧ w.cell? ⟨b, o + 5, none⟩ = some (.int .i64 x.to) ∧ w.cell? ⟨b, o + 6, none⟩ = some (.int .i64 x.lk) ∧ w.cell? ⟨b, o + 7, none⟩ = some (.int .i64 x.sz) ∧ ∃ a n k, w.cell? ⟨b, o + 8, none⟩ = some (.slice a n k) ∧ SlsAt w a n x.sl
theorem OptAt.ext {w w' : World} {b o : Nat} {x : Mem.Opt} (h : OptAt w b o x) (hE : Ext w w') : OptAt w' b o x := by
  obtain ⟨h0, h1, h2, h3, h4, h5, h6, h7, a, n, k, h8, h9⟩ := h
  exact ⟨hE.cell h0, hE.cell h1, hE.cell h2, hE.cell h3, hE.cell h4, hE.cell h5, hE.cell h6, hE.cell h7, a, n, k, hE.cell h8, h9.ext hE⟩
def OptsAt (w : World) (a : Option Addr) (n : Nat) (l : List Mem.Opt) : Prop := l.length = n ∧ n ≤ 1000 ∧ (n = 0 ∨ ∃ b o, a = some ⟨b, o, none⟩ ∧ ∀ (i : Nat) x, l[i]? = some x → OptAt w b (o + i * 9) x)
theorem own_opts {n₀ m e n cap : Nat} {a : Option Addr} {w : World} {l : List Mem.Opt} (h : OwnL (freshR m optR) n₀ e 9 (.slice a n cap) w l) (hl : l.length = n) (hn : n ≤ 1000) : OptsAt w a n l := by
  subst hl
  obtain ⟨cs, h1, h2, h3, h4⟩ := h
  refine ⟨rfl, hn, ?_⟩
  rcases Nat.eq_zero_or_pos l.length with h0 | h0
  · exact .inl h0
  · right
    rcases h3.2 with ⟨q1, q2⟩ | ⟨g, cap', cur, q1, _⟩
    · injection q1 with r1 r2 r3; omega
    · injection q1 with r1 r2 r3
      subst r1
      refine ⟨g, 0, rfl, fun i x hx => ?_⟩
      have hi := (List.getElem?_eq_some_iff.1 hx).1
      have hc := List.getElem?_eq_getElem (l := cs) (i := i) (by omega)
      obtain ⟨F, ⟨⟨b, mm, kk, e1, e2, _, _⟩, _⟩, _⟩ := h4 i _ _ hx hc
      have k : ∀ q u, q < 9 → [.int .i64 x.id, .int .i64 x.od, .int .i64 x.cl, .int .i64 x.sa, .int .i64 x.fr, .int .i64 x.to, .int .i64 x.lk, .int .i64 x.sz, .slice (some ⟨b, 0, none⟩) mm kk][q]? = some u → w.cell? ⟨g, 0 + i * 9 + q, none⟩ = some u := fun q u hq hu => by
        have f := flatten_get h2 i hc q hq
        rw [e1, hu] at f
        rw [Nat.add_assoc]
        exact own_cell9 h3 (by omega) f
      exact ⟨k 0 _ (by omega) rfl, k 1 _ (by omega) rfl, k 2 _ (by omega) rfl, k 3 _ (by omega) rfl, k 4 _ (by omega) rfl, k 5 _ (by omega) rfl, k 6 _ (by omega) rfl, k 7 _ (by omega) rfl, _, _, _, k 8 _ (by omega) rfl, e2⟩
namespace Mem
theorem can_mk {id od cl sa fr to lk sz : Int} {sl : List Slt} (h : chainB to sl = true) (h1 : 0 ≤ id ∧ id ≤ 63) (h2 : 1 ≤ sz ∧ sz ≤ 1000000) (h3 : (0 ≤ fr ∧ fr < to) ∧ to ≤ 1000001) (h4 : 1 ≤ sl.length ∧ sl.length ≤ 6) : canB ⟨id, od, cl, sa, fr, to, lk, sz, sl⟩ = true := by
  unfold canB
  simp only [h, Bool.true_and]
  rw [show Globe.inB id 0 63 = true from Globe.inB_t.2 h1, show Globe.inB sz 1 1000000 = true from Globe.inB_t.2 h2, show spB (fr, to) = true from spB_t.2 h3, show Globe.inB (sl.length : Int) 1 6 = true from Globe.inB_t.2 ⟨by omega, by omega⟩]
  rfl
/-- Options as Options returns them. -/
def GoodO (l : List Opt) : Prop := l.length ≤ 8 ∧ ∀ (i : Nat) o, l[i]? = some o → o.id = (i : Int) ∧ canB o = true
theorem GoodO.nil : GoodO [] := ⟨by simp, fun i p h => by simp at h⟩
theorem GoodO.snoc {l : List Opt} {x : Opt} {i : Nat} (h : GoodO l) (hl : l.length = i) (hi : i < 8) (h1 : x.id = (i : Int)) (h2 : canB x = true) : GoodO (l ++ [x]) := by
  subst hl
  refine ⟨by rw [List.length_append]; simp; omega, fun j p hp => ?_⟩
  rcases Nat.lt_or_ge j l.length with hj | hj
  · rw [List.getElem?_append_left hj] at hp; exact h.2 j p hp
  · rw [List.getElem?_append_right hj] at hp
    rcases Nat.lt_or_ge j (l.length + 1) with hk | hk
    · obtain rfl : j = l.length := by omega
      rw [Nat.sub_self] at hp; cases hp; exact ⟨h1, h2⟩
    · rw [List.getElem?_eq_none (by simp; omega)] at hp; cases hp
end Mem
def RetOs (w : World) (e : Ending) (w' : World) : Prop := ∃ (a : Option Addr) (k c : Nat) (l : List Mem.Opt), e = .returned (.slice a k c) ∧ k ≤ 8 ∧ OptsAt w' a k l ∧ Mem.GoodO l ∧ Ext w w'
set_option maxRecDepth 1000000 in
set_option maxHeartbeats 4000000 in
theorem Options_c {w0 : World} {a : Option Addr} {n : Nat} {q : Nat → Nat → Int} (c : Nat) (w : World) (h : SixAt w0 a n q) (e0 : Ext w0 w) : Calls Try.prog 26 #[.slice a n c] w (RetOs w) := by
  have hs0 := e0.size
  refine calls_cw 105 [(0, .slice a n c)] Try.func26 rfl Try.ntmps26 (by kernel_rfl) (by kernel_rfl) (fun L => ?_)
  have hE : Ext w w := Ext.refl w
  refine cw_seq ?_
  refine cw_plain ?_
  refine pl_take (.slice none 0 0) rfl (by kernel_rfl) (by kernel_rfl) (by kernel_rfl) (by kernel_rfl) ?_
  refine pl_nil ?_
  refine qw_then ?_
  refine cw_seq ?_
  refine cw_plain ?_
  refine pl_take (.slice none 0 0) rfl (by kernel_rfl) (by kernel_rfl) (by kernel_rfl) (by kernel_rfl) ?_
  refine pl_nil ?_
  refine qw_then ?_
  refine cw_seq ?_
  refine cw_seq ?_
  refine cw_plain ?_
  refine pl_take (.int .i64 0) rfl (by kernel_rfl) (by kernel_rfl) (by kernel_rfl) (by kernel_rfl) ?_
  refine pl_nil ?_
  refine qw_then ?_
  refine cw_block ?_
  refine cw_loop [0, 3, 4] (fun ws' wr m => ∃ i : Nat, ∃ a9 : Option Addr, ∃ c9 : Nat, ∃ ops : List Mem.Opt, ws' = [(0, .slice a n c), (3, .slice a9 i c9), (4, .int .i64 (((i : Nat) : Int) : Int))] ∧ m = n - i ∧ w.heap.size ≤ wr.heap.size ∧ Ext w0 wr ∧ Ext w wr ∧ OwnL ((freshR w.heap.size optR)) w.heap.size 31 9 (.slice a9 i c9) wr ops ∧ i ≤ n ∧ i ≤ 8 ∧ ops.length = i ∧ Mem.GoodO ops) (ws0 := [(0, .slice a n c), (3, .slice none 0 0), (4, .int .i64 0)]) (by kernel_rfl) _ ⟨0, none, 0, [], rfl, rfl, Nat.le_refl _, e0, hE, OwnL.nil _ _ _ _ _, Nat.zero_le _, Nat.zero_le _, rfl, Mem.GoodO.nil⟩ ?_
  clear e0 hE
  rintro m7 L ws w6 ⟨i, a9, c9, ops, rfl, rfl, hs5, e0, hE, own9, hi, hi2, hml9, hgo⟩
  by_cases hlt : i < n
  ·
    by_cases hlt2 : i < 8
    ·
      obtain ⟨b6, o6, rfl, hc⟩ := h.resolve_left (by omega)
      have q0 := (hc i hlt 0 (by omega)).1; have q1 := (hc i hlt 1 (by omega)).1; have q2 := (hc i hlt 2 (by omega)).1; have q3 := (hc i hlt 3 (by omega)).1; have q4 := (hc i hlt 4 (by omega)).1; have q5 := (hc i hlt 5 (by omega)).1
      have hq := fun j hj => (hc i hlt j hj).2
      have hi4 := hq 4 (by omega); have hi5 := hq 5 (by omega)
      obtain ⟨hi40, hi41⟩ := id hi4; obtain ⟨hi50, hi51⟩ := id hi5
      have hX8 : Ext w6 w6 := Ext.refl _
      refine cw_seq ?_
      refine cw_seq ?_
      refine cw_plain ?_
      refine pl_take (.int .i64 (((i : Nat) : Int) : Int)) rfl (by kernel_rfl) (by kernel_rfl) (by kernel_rfl) (by kernel_rfl) ?_
      refine pl_take (.slice (some ⟨b6, o6, none⟩) n c) rfl (by kernel_rfl) (by kernel_rfl) (by kernel_rfl) (by kernel_rfl) ?_
      refine pl_take (.int .i64 (((n : Nat) : Int) : Int)) rfl (by kernel_rfl) (by kernel_rfl) (by kernel_rfl) (by kernel_rfl) ?_
      refine pl_take (.bool true) rfl (by kernel_rfl) (by kernel_rfl) (by kernel_rfl) (ev_dec (show _ = Result.ok (Next.value (Value.bool (decide ((((i : Nat) : Int) : Int) < (((n : Nat) : Int) : Int))))) _ from by kernel_rfl) (by omega)) ?_
      refine pl_take (.bool true) rfl (by kernel_rfl) (by kernel_rfl) (by kernel_rfl) (by kernel_rfl) ?_
      refine pl_take (.int .i64 (((i : Nat) : Int) : Int)) rfl (by kernel_rfl) (by kernel_rfl) (by kernel_rfl) (by kernel_rfl) ?_
      refine pl_take (.bool true) rfl (by kernel_rfl) (by kernel_rfl) (by kernel_rfl) (ev_dec (show _ = Result.ok (Next.value (Value.bool (decide ((((i : Nat) : Int) : Int) < (8 : Int))))) _ from by kernel_rfl) (by omega)) ?_
      refine pl_take (.bool true) rfl (by kernel_rfl) (by kernel_rfl) (by kernel_rfl) (by kernel_rfl) ?_
      refine pl_nil ?_
      refine qw_then ?_
      refine cw_t (by kernel_rfl) ?_
      refine cw_skip ?_
      refine qw_then ?_
      refine cw_seq ?_
      refine cw_block ?_
      refine cw_seq ?_
      refine cw_plain ?_
      refine pl_take (.slice (some ⟨b6, o6, none⟩) n c) rfl (by kernel_rfl) (by kernel_rfl) (by kernel_rfl) (by kernel_rfl) ?_
      refine pl_take (.int .i64 (((i : Nat) : Int) : Int)) rfl (by kernel_rfl) (by kernel_rfl) (by kernel_rfl) (by kernel_rfl) ?_
      refine pl_take (.pointer (some ⟨b6, o6 + i * 6, none⟩)) rfl (by kernel_rfl) (by kernel_rfl) (by kernel_rfl) (ex_index (p := .slice (some ⟨b6, o6, none⟩) n c) (i := .int .i64 ((i : Nat) : Int)) rfl (by kernel_rfl) (by kernel_rfl) (ix52 (k := i) (by omega))) ?_
      refine pl_take (.pointer (some ⟨b6, o6 + i * 6, none⟩)) rfl (by kernel_rfl) (by kernel_rfl) (by kernel_rfl) (by kernel_rfl) ?_
      refine pl_take (.int .i64 (q i 0 : Int)) rfl (by kernel_rfl) (by kernel_rfl) (by kernel_rfl) (ex_load rfl (by kernel_rfl) (ld3 ((e0.cell q0)))) ?_
      refine pl_step rfl (by kernel_rfl) (by kernel_rfl) (by kernel_rfl) (sn_call (f := 32) (args := #[.int .i64 (q i 0 : Int), .int .i64 200]) (by kernel_rfl) ((rpickv_c (q i 0) 200 _ (hq 0 (by omega)) (by omega) (by omega)).mono ?_))
      rintro e w' ⟨p9, rfl, hp9, rfl⟩
      refine ⟨_, rfl, ?_⟩
      refine pl_take (.int .i64 (p9 : Int)) rfl (by kernel_rfl) (by kernel_rfl) (by kernel_rfl) (by kernel_rfl) ?_
      refine pl_nil ?_
      refine qw_then ?_
      refine cw_clean [0, 3, 4, 5] (ws' := [(0, .slice (some ⟨b6, o6, none⟩) n c), (3, .slice a9 i c9), (4, .int .i64 (((i : Nat) : Int) : Int)), (5, .int .i64 (p9 : Int))]) (by kernel_rfl) (fun L => ?_)
      refine cw_seq ?_
      refine cw_join (fun ws' Y => ∃ p12 : Int, ∃ p13 : Int, ∃ p14 : Int, ∃ O15 : Nat, ws' = [(0, .slice (some ⟨b6, o6, none⟩) n c), (3, .slice a9 i c9), (4, .int .i64 (((i : Nat) : Int) : Int)), (6, .pointer (some ⟨O15, 0, none⟩))] ∧ Ext w0 Y ∧ Ext w Y ∧ Ext w6 Y ∧ (0 ≤ p12 ∧ p12 < 4) ∧ (0 ≤ p13 ∧ p13 < 60) ∧ (0 ≤ p14 ∧ p14 < 20) ∧ BoxAt Y O15 0 (.int .i64 (((i : Nat) : Int) : Int)) ∧ BoxAt Y O15 1 (.int .i64 (p12 : Int)) ∧ BoxAt Y O15 2 (.int .i64 0) ∧ BoxAt Y O15 3 (.int .i64 0) ∧ BoxAt Y O15 4 (.int .i64 (p9 : Int)) ∧ BoxAt Y O15 5 (.int .i64 ((p9 + 1) + p14 : Int)) ∧ BoxAt Y O15 6 (.int .i64 0) ∧ BoxAt Y O15 7 (.int .i64 (1 + p13 : Int)) ∧ BoxAt Y O15 8 (.slice none 0 0) ∧ w6.heap.size ≤ Y.heap.size ∧ w6.heap.size ≤ O15) (fun hJ => ?_) ?_
      ·
        refine cw_draw [(some 26, [4], []), (some 27, [0], []), (some 28, [4], []), (some 29, [27, 28], [1, 2]), (some 30, [29], [3]), (some 31, [30], [4]), (some 32, [31], [5]), (some 33, [0], []), (some 34, [4], []), (some 35, [33, 34], [7, 8]), (some 36, [35], [9]), (some 37, [36], [10]), (some 38, [37], [11, 6]), (some 39, [38], [12]), (some 40, [5], []), (some 41, [5], []), (some 42, [41], [15]), (some 43, [0], []), (some 44, [4], []), (some 45, [43, 44], [17, 18]), (some 46, [45], [19]), (some 47, [46], [20]), (some 48, [47], [21, 12]), (some 49, [42, 48], [16, 22]), (some 50, [40, 49], [14, 23]), (some 51, [26, 32, 39, 50], [0, 6, 13, 24]), (some 6, [], []), (none, [6, 51], [26, 25, 22, 0, 1, 2, 3, 4, 5, 6, 7, 8, 9, 10, 11, 12, 13, 14, 15, 16, 17, 18, 19, 20, 21, 22, 23, 24, 25, 26])] (fun w' => Ext w0 w') (by kernel_rfl) (by kernel_rfl) (by kernel_rfl) (by kernel_rfl) ((calm_then (calm_block (calm_then (calm_then (calm_block (calm_then calm_body))))))) (Ext.drew e0) (fun ops Q X10 hb hL hR hK => ?_)
        replace e0 := e0.trans hb
        replace hE := hE.trans hb
        replace hX8 := hX8.trans hb
        have hs11 := hb.size
        clear hb
        refine wd_take 0 (.int .i64 (((i : Nat) : Int) : Int)) hR rfl (by kernel_rfl) rfl (by kernel_rfl) (fun w _ => by kernel_rfl) (e0) ?_
        refine wd_take 1 (.slice (some ⟨b6, o6, none⟩) n c) hR rfl (by kernel_rfl) rfl (by kernel_rfl) (fun w _ => by kernel_rfl) (e0) ?_
        refine wd_take 2 (.int .i64 (((i : Nat) : Int) : Int)) hR rfl (by kernel_rfl) rfl (by kernel_rfl) (fun w _ => by kernel_rfl) (e0) ?_
        refine wd_take 3 (.pointer (some ⟨b6, o6 + i * 6, none⟩)) hR rfl (by kernel_rfl) rfl (by kernel_rfl) (fun w _ => ex_index (p := .slice (some ⟨b6, o6, none⟩) n c) (i := .int .i64 ((i : Nat) : Int)) rfl (by kernel_rfl) (by kernel_rfl) (ix52 (k := i) (by omega))) (e0) ?_
        refine wd_take 4 (.pointer (some ⟨b6, o6 + i * 6 + 1, none⟩)) hR rfl (by kernel_rfl) rfl (by kernel_rfl) (fun w _ => by kernel_rfl) (e0) ?_
        refine wd_take 5 (.int .i64 (q i 1 : Int)) hR rfl (by kernel_rfl) rfl (by kernel_rfl) (fun w hS => ex_load rfl (by kernel_rfl) (ld3 (hS.cell q1))) (e0) ?_
        refine wd_take 7 (.slice (some ⟨b6, o6, none⟩) n c) hR rfl (by kernel_rfl) rfl (by kernel_rfl) (fun w _ => by kernel_rfl) (e0) ?_
        refine wd_take 8 (.int .i64 (((i : Nat) : Int) : Int)) hR rfl (by kernel_rfl) rfl (by kernel_rfl) (fun w _ => by kernel_rfl) (e0) ?_
        refine wd_take 9 (.pointer (some ⟨b6, o6 + i * 6, none⟩)) hR rfl (by kernel_rfl) rfl (by kernel_rfl) (fun w _ => ex_index (p := .slice (some ⟨b6, o6, none⟩) n c) (i := .int .i64 ((i : Nat) : Int)) rfl (by kernel_rfl) (by kernel_rfl) (ix52 (k := i) (by omega))) (e0) ?_
        refine wd_take 10 (.pointer (some ⟨b6, o6 + i * 6 + 2, none⟩)) hR rfl (by kernel_rfl) rfl (by kernel_rfl) (fun w _ => by kernel_rfl) (e0) ?_
        refine wd_take 11 (.int .i64 (q i 2 : Int)) hR rfl (by kernel_rfl) rfl (by kernel_rfl) (fun w hS => ex_load rfl (by kernel_rfl) (ld3 (hS.cell q2))) (e0) ?_
        refine wd_take 14 (.int .i64 (p9 : Int)) hR rfl (by kernel_rfl) rfl (by kernel_rfl) (fun w _ => by kernel_rfl) (e0) ?_
        refine wd_take 15 (.int .i64 (p9 : Int)) hR rfl (by kernel_rfl) rfl (by kernel_rfl) (fun w _ => by kernel_rfl) (e0) ?_
        refine wd_take 16 (.int .i64 (p9 + 1 : Int)) hR rfl (by kernel_rfl) rfl (by kernel_rfl) (fun w _ => ev_wrap (by kernel_rfl) (by omega) (by omega)) (e0) ?_
        refine wd_take 17 (.slice (some ⟨b6, o6, none⟩) n c) hR rfl (by kernel_rfl) rfl (by kernel_rfl) (fun w _ => by kernel_rfl) (e0) ?_
        refine wd_take 18 (.int .i64 (((i : Nat) : Int) : Int)) hR rfl (by kernel_rfl) rfl (by kernel_rfl) (fun w _ => by kernel_rfl) (e0) ?_
        refine wd_take 19 (.pointer (some ⟨b6, o6 + i * 6, none⟩)) hR rfl (by kernel_rfl) rfl (by kernel_rfl) (fun w _ => ex_index (p := .slice (some ⟨b6, o6, none⟩) n c) (i := .int .i64 ((i : Nat) : Int)) rfl (by kernel_rfl) (by kernel_rfl) (ix52 (k := i) (by omega))) (e0) ?_
        refine wd_take 20 (.pointer (some ⟨b6, o6 + i * 6 + 1, none⟩)) hR rfl (by kernel_rfl) rfl (by kernel_rfl) (fun w _ => by kernel_rfl) (e0) ?_
        refine wd_take 21 (.int .i64 (q i 1 : Int)) hR rfl (by kernel_rfl) rfl (by kernel_rfl) (fun w hS => ex_load rfl (by kernel_rfl) (ld3 (hS.cell q1))) (e0) ?_
        refine wd_two 6 26 hR rfl rfl (by kernel_rfl) (by kernel_rfl) (by kernel_rfl) (by kernel_rfl) ?_ ?_
        ·
          refine sn_call (f := 32) (args := #[.int .i64 (q i 1 : Int), .int .i64 4]) (by kernel_rfl) ((rpickv_c (q i 1) 4 _ (hq 1 (by omega)) (by omega) (by omega)).mono ?_)
          rintro e w' ⟨p12, rfl, hp12, rfl⟩
          refine ⟨_, rfl, e0, ?_⟩
          refine wd_two 12 26 hR rfl rfl (by kernel_rfl) (by kernel_rfl) (by kernel_rfl) (by kernel_rfl) ?_ ?_
          ·
            refine sn_call (f := 32) (args := #[.int .i64 (q i 2 : Int), .int .i64 60]) (by kernel_rfl) ((rpickv_c (q i 2) 60 _ (hq 2 (by omega)) (by omega) (by omega)).mono ?_)
            rintro e w' ⟨p13, rfl, hp13, rfl⟩
            refine ⟨_, rfl, e0, ?_⟩
            refine wd_take 13 (.int .i64 (1 + p13 : Int)) hR rfl (by kernel_rfl) rfl (by kernel_rfl) (fun w _ => ev_wrap (by kernel_rfl) (by omega) (by omega)) (e0) ?_
            refine wd_two 22 26 hR rfl rfl (by kernel_rfl) (by kernel_rfl) (by kernel_rfl) (by kernel_rfl) ?_ ?_
            ·
              refine sn_call (f := 32) (args := #[.int .i64 (q i 1 : Int), .int .i64 20]) (by kernel_rfl) ((rpickv_c (q i 1) 20 _ (hq 1 (by omega)) (by omega) (by omega)).mono ?_)
              rintro e w' ⟨p14, rfl, hp14, rfl⟩
              refine ⟨_, rfl, e0, ?_⟩
              refine wd_take 23 (.int .i64 ((p9 + 1) + p14 : Int)) hR rfl (by kernel_rfl) rfl (by kernel_rfl) (fun w _ => ev_wrap (by kernel_rfl) (by omega) (by omega)) (e0) ?_
              refine wd_take 24 (.agg #[.int .i64 (p9 : Int), .int .i64 ((p9 + 1) + p14 : Int)]) hR rfl (by kernel_rfl) rfl (by kernel_rfl) (fun w _ => by kernel_rfl) (e0) ?_
              refine wd_take 25 (.agg #[.int .i64 (((i : Nat) : Int) : Int), .int .i64 (p12 : Int), .int .i64 0, .int .i64 0, .int .i64 (p9 : Int), .int .i64 ((p9 + 1) + p14 : Int), .int .i64 0, .int .i64 (1 + p13 : Int), .slice none 0 0]) hR rfl (by kernel_rfl) rfl (by kernel_rfl) (fun w _ => by kernel_rfl) (e0) ?_
              refine wd_step 26 hR rfl (by kernel_rfl) (by kernel_rfl) (by kernel_rfl) (sn_new (us := #[.int .i64 0, .int .i64 0, .int .i64 0, .int .i64 0, .int .i64 0, .int .i64 0, .int .i64 0, .int .i64 0, .slice none 0 0]) (t := 31) (by kernel_rfl) ?_)
              intro O15 X16 hO hOs hb hbx
              have hzO15 := hO; have hyO15 := hOs; clear hO hOs
              have bO15_0 : BoxAt X16 O15 0 (.int .i64 0) := hbx 0 _ rfl
              have bO15_1 : BoxAt X16 O15 1 (.int .i64 0) := hbx 1 _ rfl
              have bO15_2 : BoxAt X16 O15 2 (.int .i64 0) := hbx 2 _ rfl
              have bO15_3 : BoxAt X16 O15 3 (.int .i64 0) := hbx 3 _ rfl
              have bO15_4 : BoxAt X16 O15 4 (.int .i64 0) := hbx 4 _ rfl
              have bO15_5 : BoxAt X16 O15 5 (.int .i64 0) := hbx 5 _ rfl
              have bO15_6 : BoxAt X16 O15 6 (.int .i64 0) := hbx 6 _ rfl
              have bO15_7 : BoxAt X16 O15 7 (.int .i64 0) := hbx 7 _ rfl
              have bO15_8 : BoxAt X16 O15 8 (.slice none 0 0) := hbx 8 _ rfl
              clear hbx
              replace e0 := e0.trans hb
              replace hE := hE.trans hb
              replace hX8 := hX8.trans hb
              have hs17 := hb.size
              clear hb
              have lt18 := bO15_0.lt
              refine ⟨e0, ?_⟩
              refine wd_step 27 hR rfl (by kernel_rfl) (by kernel_rfl) (by kernel_rfl) (sn_setK9 (O := O15) (j := 0) (v0 := .int .i64 (((i : Nat) : Int) : Int)) (v1 := .int .i64 (p12 : Int)) (v2 := .int .i64 0) (v3 := .int .i64 0) (v4 := .int .i64 (p9 : Int)) (v5 := .int .i64 ((p9 + 1) + p14 : Int)) (v6 := .int .i64 0) (v7 := .int .i64 (1 + p13 : Int)) (v8 := .slice none 0 0) (ex_store (p := .pointer (some ⟨O15, 0, none⟩)) (v := .agg #[.int .i64 (((i : Nat) : Int) : Int), .int .i64 (p12 : Int), .int .i64 0, .int .i64 0, .int .i64 (p9 : Int), .int .i64 ((p9 + 1) + p14 : Int), .int .i64 0, .int .i64 (1 + p13 : Int), .slice none 0 0]) rfl (by kernel_rfl) (by kernel_rfl) (st31 bO15_0.1 bO15_0.2 bO15_1.1 bO15_1.2 bO15_2.1 bO15_2.2 bO15_3.1 bO15_3.2 bO15_4.1 bO15_4.2 bO15_5.1 bO15_5.2 bO15_6.1 bO15_6.2 bO15_7.1 bO15_7.2 bO15_8.1 bO15_8.2)) bO15_0 bO15_1 bO15_2 bO15_3 bO15_4 bO15_5 bO15_6 bO15_7 bO15_8 ?_)
              intro X19 ho hv0 hv1 hv2 hv3 hv4 hv5 hv6 hv7 hv8 hk
              replace e0 := ho.ext e0 (Nat.le_trans (Nat.le_trans hs0 (Nat.le_trans hs5 hs11)) (Nat.le_of_eq hzO15))
              replace hE := ho.ext hE (Nat.le_trans (Nat.le_trans hs5 hs11) (Nat.le_of_eq hzO15))
              replace hX8 := ho.ext hX8 (Nat.le_trans hs11 (Nat.le_of_eq hzO15))
              have hs20 : X16.heap.size ≤ X19.heap.size := Nat.le_of_eq ho.size.symm
              clear ho hk bO15_0 bO15_1 bO15_2 bO15_3 bO15_4 bO15_5 bO15_6 bO15_7 bO15_8
              have bO15_0 := hv0; clear hv0
              have bO15_1 := hv1; clear hv1
              have bO15_2 := hv2; clear hv2
              have bO15_3 := hv3; clear hv3
              have bO15_4 := hv4; clear hv4
              have bO15_5 := hv5; clear hv5
              have bO15_6 := hv6; clear hv6
              have bO15_7 := hv7; clear hv7
              have bO15_8 := hv8; clear hv8
              refine ⟨e0, ?_⟩
              refine wd_end hL hR hK (by kernel_rfl) ?_
              exact qw_leaf hJ [0, 3, 4, 6] (ws' := [(0, .slice (some ⟨b6, o6, none⟩) n c), (3, .slice a9 i c9), (4, .int .i64 (((i : Nat) : Int) : Int)), (6, .pointer (some ⟨O15, 0, none⟩))]) (by kernel_rfl) ⟨p12, p13, p14, O15, rfl, e0, hE, hX8, hp12, hp13, hp14, bO15_0, bO15_1, bO15_2, bO15_3, bO15_4, bO15_5, bO15_6, bO15_7, bO15_8, (Nat.le_trans hs11 (Nat.le_trans hs17 hs20)), (Nat.le_trans hs11 (Nat.le_of_eq hzO15))⟩
            ·
              refine sn_new (us := #[.int .i64 0, .int .i64 0, .int .i64 0, .int .i64 0, .int .i64 0, .int .i64 0, .int .i64 0, .int .i64 0, .slice none 0 0]) (t := 31) (by kernel_rfl) ?_
              intro O21 X22 hO hOs hb hbx
              have hzO21 := hO; have hyO21 := hOs; clear hO hOs
              have bO21_0 : BoxAt X22 O21 0 (.int .i64 0) := hbx 0 _ rfl
              have bO21_1 : BoxAt X22 O21 1 (.int .i64 0) := hbx 1 _ rfl
              have bO21_2 : BoxAt X22 O21 2 (.int .i64 0) := hbx 2 _ rfl
              have bO21_3 : BoxAt X22 O21 3 (.int .i64 0) := hbx 3 _ rfl
              have bO21_4 : BoxAt X22 O21 4 (.int .i64 0) := hbx 4 _ rfl
              have bO21_5 : BoxAt X22 O21 5 (.int .i64 0) := hbx 5 _ rfl
              have bO21_6 : BoxAt X22 O21 6 (.int .i64 0) := hbx 6 _ rfl
              have bO21_7 : BoxAt X22 O21 7 (.int .i64 0) := hbx 7 _ rfl
              have bO21_8 : BoxAt X22 O21 8 (.slice none 0 0) := hbx 8 _ rfl
              clear hbx
              replace e0 := e0.trans hb
              replace hE := hE.trans hb
              replace hX8 := hX8.trans hb
              have hs23 := hb.size
              clear hb
              have lt24 := bO21_0.lt
              refine ⟨e0, ?_⟩
              refine wd_step 22 hR rfl (by kernel_rfl) (by kernel_rfl) (by kernel_rfl) (sn_call (f := 32) (args := #[.int .i64 (q i 1 : Int), .int .i64 20]) (by kernel_rfl) ((rpickv_c (q i 1) 20 _ (hq 1 (by omega)) (by omega) (by omega)).mono ?_))
              rintro e w' ⟨p25, rfl, hp25, rfl⟩
              refine ⟨_, rfl, e0, ?_⟩
              refine wd_take 23 (.int .i64 ((p9 + 1) + p25 : Int)) hR rfl (by kernel_rfl) rfl (by kernel_rfl) (fun w _ => ev_wrap (by kernel_rfl) (by omega) (by omega)) (e0) ?_
              refine wd_take 24 (.agg #[.int .i64 (p9 : Int), .int .i64 ((p9 + 1) + p25 : Int)]) hR rfl (by kernel_rfl) rfl (by kernel_rfl) (fun w _ => by kernel_rfl) (e0) ?_
              refine wd_take 25 (.agg #[.int .i64 (((i : Nat) : Int) : Int), .int .i64 (p12 : Int), .int .i64 0, .int .i64 0, .int .i64 (p9 : Int), .int .i64 ((p9 + 1) + p25 : Int), .int .i64 0, .int .i64 (1 + p13 : Int), .slice none 0 0]) hR rfl (by kernel_rfl) rfl (by kernel_rfl) (fun w _ => by kernel_rfl) (e0) ?_
              refine wd_step 27 hR rfl (by kernel_rfl) (by kernel_rfl) (by kernel_rfl) (sn_setK9 (O := O21) (j := 0) (v0 := .int .i64 (((i : Nat) : Int) : Int)) (v1 := .int .i64 (p12 : Int)) (v2 := .int .i64 0) (v3 := .int .i64 0) (v4 := .int .i64 (p9 : Int)) (v5 := .int .i64 ((p9 + 1) + p25 : Int)) (v6 := .int .i64 0) (v7 := .int .i64 (1 + p13 : Int)) (v8 := .slice none 0 0) (ex_store (p := .pointer (some ⟨O21, 0, none⟩)) (v := .agg #[.int .i64 (((i : Nat) : Int) : Int), .int .i64 (p12 : Int), .int .i64 0, .int .i64 0, .int .i64 (p9 : Int), .int .i64 ((p9 + 1) + p25 : Int), .int .i64 0, .int .i64 (1 + p13 : Int), .slice none 0 0]) rfl (by kernel_rfl) (by kernel_rfl) (st31 bO21_0.1 bO21_0.2 bO21_1.1 bO21_1.2 bO21_2.1 bO21_2.2 bO21_3.1 bO21_3.2 bO21_4.1 bO21_4.2 bO21_5.1 bO21_5.2 bO21_6.1 bO21_6.2 bO21_7.1 bO21_7.2 bO21_8.1 bO21_8.2)) bO21_0 bO21_1 bO21_2 bO21_3 bO21_4 bO21_5 bO21_6 bO21_7 bO21_8 ?_)
              intro X26 ho hv0 hv1 hv2 hv3 hv4 hv5 hv6 hv7 hv8 hk
              replace e0 := ho.ext e0 (Nat.le_trans (Nat.le_trans hs0 (Nat.le_trans hs5 hs11)) (Nat.le_of_eq hzO21))
              replace hE := ho.ext hE (Nat.le_trans (Nat.le_trans hs5 hs11) (Nat.le_of_eq hzO21))
              replace hX8 := ho.ext hX8 (Nat.le_trans hs11 (Nat.le_of_eq hzO21))
              have hs27 : X22.heap.size ≤ X26.heap.size := Nat.le_of_eq ho.size.symm
              clear ho hk bO21_0 bO21_1 bO21_2 bO21_3 bO21_4 bO21_5 bO21_6 bO21_7 bO21_8
              have bO21_0 := hv0; clear hv0
              have bO21_1 := hv1; clear hv1
              have bO21_2 := hv2; clear hv2
              have bO21_3 := hv3; clear hv3
              have bO21_4 := hv4; clear hv4
              have bO21_5 := hv5; clear hv5
              have bO21_6 := hv6; clear hv6
              have bO21_7 := hv7; clear hv7
              have bO21_8 := hv8; clear hv8
              refine ⟨e0, ?_⟩
              refine wd_end hL hR hK (by kernel_rfl) ?_
              exact qw_leaf hJ [0, 3, 4, 6] (ws' := [(0, .slice (some ⟨b6, o6, none⟩) n c), (3, .slice a9 i c9), (4, .int .i64 (((i : Nat) : Int) : Int)), (6, .pointer (some ⟨O21, 0, none⟩))]) (by kernel_rfl) ⟨p12, p13, p25, O21, rfl, e0, hE, hX8, hp12, hp13, hp25, bO21_0, bO21_1, bO21_2, bO21_3, bO21_4, bO21_5, bO21_6, bO21_7, bO21_8, (Nat.le_trans hs11 (Nat.le_trans hs23 hs27)), (Nat.le_trans hs11 (Nat.le_of_eq hzO21))⟩
          ·
            refine sn_new (us := #[.int .i64 0, .int .i64 0, .int .i64 0, .int .i64 0, .int .i64 0, .int .i64 0, .int .i64 0, .int .i64 0, .slice none 0 0]) (t := 31) (by kernel_rfl) ?_
            intro O28 X29 hO hOs hb hbx
            have hzO28 := hO; have hyO28 := hOs; clear hO hOs
            have bO28_0 : BoxAt X29 O28 0 (.int .i64 0) := hbx 0 _ rfl
            have bO28_1 : BoxAt X29 O28 1 (.int .i64 0) := hbx 1 _ rfl
            have bO28_2 : BoxAt X29 O28 2 (.int .i64 0) := hbx 2 _ rfl
            have bO28_3 : BoxAt X29 O28 3 (.int .i64 0) := hbx 3 _ rfl
            have bO28_4 : BoxAt X29 O28 4 (.int .i64 0) := hbx 4 _ rfl
            have bO28_5 : BoxAt X29 O28 5 (.int .i64 0) := hbx 5 _ rfl
            have bO28_6 : BoxAt X29 O28 6 (.int .i64 0) := hbx 6 _ rfl
            have bO28_7 : BoxAt X29 O28 7 (.int .i64 0) := hbx 7 _ rfl
            have bO28_8 : BoxAt X29 O28 8 (.slice none 0 0) := hbx 8 _ rfl
            clear hbx
            replace e0 := e0.trans hb
            replace hE := hE.trans hb
            replace hX8 := hX8.trans hb
            have hs30 := hb.size
            clear hb
            have lt31 := bO28_0.lt
            refine ⟨e0, ?_⟩
            refine wd_step 12 hR rfl (by kernel_rfl) (by kernel_rfl) (by kernel_rfl) (sn_call (f := 32) (args := #[.int .i64 (q i 2 : Int), .int .i64 60]) (by kernel_rfl) ((rpickv_c (q i 2) 60 _ (hq 2 (by omega)) (by omega) (by omega)).mono ?_))
            rintro e w' ⟨p32, rfl, hp32, rfl⟩
            refine ⟨_, rfl, e0, ?_⟩
            refine wd_take 13 (.int .i64 (1 + p32 : Int)) hR rfl (by kernel_rfl) rfl (by kernel_rfl) (fun w _ => ev_wrap (by kernel_rfl) (by omega) (by omega)) (e0) ?_
            refine wd_step 22 hR rfl (by kernel_rfl) (by kernel_rfl) (by kernel_rfl) (sn_call (f := 32) (args := #[.int .i64 (q i 1 : Int), .int .i64 20]) (by kernel_rfl) ((rpickv_c (q i 1) 20 _ (hq 1 (by omega)) (by omega) (by omega)).mono ?_))
            rintro e w' ⟨p33, rfl, hp33, rfl⟩
            refine ⟨_, rfl, e0, ?_⟩
            refine wd_take 23 (.int .i64 ((p9 + 1) + p33 : Int)) hR rfl (by kernel_rfl) rfl (by kernel_rfl) (fun w _ => ev_wrap (by kernel_rfl) (by omega) (by omega)) (e0) ?_
            refine wd_take 24 (.agg #[.int .i64 (p9 : Int), .int .i64 ((p9 + 1) + p33 : Int)]) hR rfl (by kernel_rfl) rfl (by kernel_rfl) (fun w _ => by kernel_rfl) (e0) ?_
            refine wd_take 25 (.agg #[.int .i64 (((i : Nat) : Int) : Int), .int .i64 (p12 : Int), .int .i64 0, .int .i64 0, .int .i64 (p9 : Int), .int .i64 ((p9 + 1) + p33 : Int), .int .i64 0, .int .i64 (1 + p32 : Int), .slice none 0 0]) hR rfl (by kernel_rfl) rfl (by kernel_rfl) (fun w _ => by kernel_rfl) (e0) ?_
            refine wd_step 27 hR rfl (by kernel_rfl) (by kernel_rfl) (by kernel_rfl) (sn_setK9 (O := O28) (j := 0) (v0 := .int .i64 (((i : Nat) : Int) : Int)) (v1 := .int .i64 (p12 : Int)) (v2 := .int .i64 0) (v3 := .int .i64 0) (v4 := .int .i64 (p9 : Int)) (v5 := .int .i64 ((p9 + 1) + p33 : Int)) (v6 := .int .i64 0) (v7 := .int .i64 (1 + p32 : Int)) (v8 := .slice none 0 0) (ex_store (p := .pointer (some ⟨O28, 0, none⟩)) (v := .agg #[.int .i64 (((i : Nat) : Int) : Int), .int .i64 (p12 : Int), .int .i64 0, .int .i64 0, .int .i64 (p9 : Int), .int .i64 ((p9 + 1) + p33 : Int), .int .i64 0, .int .i64 (1 + p32 : Int), .slice none 0 0]) rfl (by kernel_rfl) (by kernel_rfl) (st31 bO28_0.1 bO28_0.2 bO28_1.1 bO28_1.2 bO28_2.1 bO28_2.2 bO28_3.1 bO28_3.2 bO28_4.1 bO28_4.2 bO28_5.1 bO28_5.2 bO28_6.1 bO28_6.2 bO28_7.1 bO28_7.2 bO28_8.1 bO28_8.2)) bO28_0 bO28_1 bO28_2 bO28_3 bO28_4 bO28_5 bO28_6 bO28_7 bO28_8 ?_)
            intro X34 ho hv0 hv1 hv2 hv3 hv4 hv5 hv6 hv7 hv8 hk
            replace e0 := ho.ext e0 (Nat.le_trans (Nat.le_trans hs0 (Nat.le_trans hs5 hs11)) (Nat.le_of_eq hzO28))
            replace hE := ho.ext hE (Nat.le_trans (Nat.le_trans hs5 hs11) (Nat.le_of_eq hzO28))
            replace hX8 := ho.ext hX8 (Nat.le_trans hs11 (Nat.le_of_eq hzO28))
            have hs35 : X29.heap.size ≤ X34.heap.size := Nat.le_of_eq ho.size.symm
            clear ho hk bO28_0 bO28_1 bO28_2 bO28_3 bO28_4 bO28_5 bO28_6 bO28_7 bO28_8
            have bO28_0 := hv0; clear hv0
            have bO28_1 := hv1; clear hv1
            have bO28_2 := hv2; clear hv2
            have bO28_3 := hv3; clear hv3
            have bO28_4 := hv4; clear hv4
            have bO28_5 := hv5; clear hv5
            have bO28_6 := hv6; clear hv6
            have bO28_7 := hv7; clear hv7
            have bO28_8 := hv8; clear hv8
            refine ⟨e0, ?_⟩
            refine wd_end hL hR hK (by kernel_rfl) ?_
            exact qw_leaf hJ [0, 3, 4, 6] (ws' := [(0, .slice (some ⟨b6, o6, none⟩) n c), (3, .slice a9 i c9), (4, .int .i64 (((i : Nat) : Int) : Int)), (6, .pointer (some ⟨O28, 0, none⟩))]) (by kernel_rfl) ⟨p12, p32, p33, O28, rfl, e0, hE, hX8, hp12, hp32, hp33, bO28_0, bO28_1, bO28_2, bO28_3, bO28_4, bO28_5, bO28_6, bO28_7, bO28_8, (Nat.le_trans hs11 (Nat.le_trans hs30 hs35)), (Nat.le_trans hs11 (Nat.le_of_eq hzO28))⟩
        ·
          refine sn_new (us := #[.int .i64 0, .int .i64 0, .int .i64 0, .int .i64 0, .int .i64 0, .int .i64 0, .int .i64 0, .int .i64 0, .slice none 0 0]) (t := 31) (by kernel_rfl) ?_
          intro O36 X37 hO hOs hb hbx
          have hzO36 := hO; have hyO36 := hOs; clear hO hOs
          have bO36_0 : BoxAt X37 O36 0 (.int .i64 0) := hbx 0 _ rfl
          have bO36_1 : BoxAt X37 O36 1 (.int .i64 0) := hbx 1 _ rfl
          have bO36_2 : BoxAt X37 O36 2 (.int .i64 0) := hbx 2 _ rfl
          have bO36_3 : BoxAt X37 O36 3 (.int .i64 0) := hbx 3 _ rfl
          have bO36_4 : BoxAt X37 O36 4 (.int .i64 0) := hbx 4 _ rfl
          have bO36_5 : BoxAt X37 O36 5 (.int .i64 0) := hbx 5 _ rfl
          have bO36_6 : BoxAt X37 O36 6 (.int .i64 0) := hbx 6 _ rfl
          have bO36_7 : BoxAt X37 O36 7 (.int .i64 0) := hbx 7 _ rfl
          have bO36_8 : BoxAt X37 O36 8 (.slice none 0 0) := hbx 8 _ rfl
          clear hbx
          replace e0 := e0.trans hb
          replace hE := hE.trans hb
          replace hX8 := hX8.trans hb
          have hs38 := hb.size
          clear hb
          have lt39 := bO36_0.lt
          refine ⟨e0, ?_⟩
          refine wd_step 6 hR rfl (by kernel_rfl) (by kernel_rfl) (by kernel_rfl) (sn_call (f := 32) (args := #[.int .i64 (q i 1 : Int), .int .i64 4]) (by kernel_rfl) ((rpickv_c (q i 1) 4 _ (hq 1 (by omega)) (by omega) (by omega)).mono ?_))
          rintro e w' ⟨p40, rfl, hp40, rfl⟩
          refine ⟨_, rfl, e0, ?_⟩
          refine wd_step 12 hR rfl (by kernel_rfl) (by kernel_rfl) (by kernel_rfl) (sn_call (f := 32) (args := #[.int .i64 (q i 2 : Int), .int .i64 60]) (by kernel_rfl) ((rpickv_c (q i 2) 60 _ (hq 2 (by omega)) (by omega) (by omega)).mono ?_))
          rintro e w' ⟨p41, rfl, hp41, rfl⟩
          refine ⟨_, rfl, e0, ?_⟩
          refine wd_take 13 (.int .i64 (1 + p41 : Int)) hR rfl (by kernel_rfl) rfl (by kernel_rfl) (fun w _ => ev_wrap (by kernel_rfl) (by omega) (by omega)) (e0) ?_
          refine wd_step 22 hR rfl (by kernel_rfl) (by kernel_rfl) (by kernel_rfl) (sn_call (f := 32) (args := #[.int .i64 (q i 1 : Int), .int .i64 20]) (by kernel_rfl) ((rpickv_c (q i 1) 20 _ (hq 1 (by omega)) (by omega) (by omega)).mono ?_))
          rintro e w' ⟨p42, rfl, hp42, rfl⟩
          refine ⟨_, rfl, e0, ?_⟩
          refine wd_take 23 (.int .i64 ((p9 + 1) + p42 : Int)) hR rfl (by kernel_rfl) rfl (by kernel_rfl) (fun w _ => ev_wrap (by kernel_rfl) (by omega) (by omega)) (e0) ?_
          refine wd_take 24 (.agg #[.int .i64 (p9 : Int), .int .i64 ((p9 + 1) + p42 : Int)]) hR rfl (by kernel_rfl) rfl (by kernel_rfl) (fun w _ => by kernel_rfl) (e0) ?_
          refine wd_take 25 (.agg #[.int .i64 (((i : Nat) : Int) : Int), .int .i64 (p40 : Int), .int .i64 0, .int .i64 0, .int .i64 (p9 : Int), .int .i64 ((p9 + 1) + p42 : Int), .int .i64 0, .int .i64 (1 + p41 : Int), .slice none 0 0]) hR rfl (by kernel_rfl) rfl (by kernel_rfl) (fun w _ => by kernel_rfl) (e0) ?_
          refine wd_step 27 hR rfl (by kernel_rfl) (by kernel_rfl) (by kernel_rfl) (sn_setK9 (O := O36) (j := 0) (v0 := .int .i64 (((i : Nat) : Int) : Int)) (v1 := .int .i64 (p40 : Int)) (v2 := .int .i64 0) (v3 := .int .i64 0) (v4 := .int .i64 (p9 : Int)) (v5 := .int .i64 ((p9 + 1) + p42 : Int)) (v6 := .int .i64 0) (v7 := .int .i64 (1 + p41 : Int)) (v8 := .slice none 0 0) (ex_store (p := .pointer (some ⟨O36, 0, none⟩)) (v := .agg #[.int .i64 (((i : Nat) : Int) : Int), .int .i64 (p40 : Int), .int .i64 0, .int .i64 0, .int .i64 (p9 : Int), .int .i64 ((p9 + 1) + p42 : Int), .int .i64 0, .int .i64 (1 + p41 : Int), .slice none 0 0]) rfl (by kernel_rfl) (by kernel_rfl) (st31 bO36_0.1 bO36_0.2 bO36_1.1 bO36_1.2 bO36_2.1 bO36_2.2 bO36_3.1 bO36_3.2 bO36_4.1 bO36_4.2 bO36_5.1 bO36_5.2 bO36_6.1 bO36_6.2 bO36_7.1 bO36_7.2 bO36_8.1 bO36_8.2)) bO36_0 bO36_1 bO36_2 bO36_3 bO36_4 bO36_5 bO36_6 bO36_7 bO36_8 ?_)
          intro X43 ho hv0 hv1 hv2 hv3 hv4 hv5 hv6 hv7 hv8 hk
          replace e0 := ho.ext e0 (Nat.le_trans (Nat.le_trans hs0 (Nat.le_trans hs5 hs11)) (Nat.le_of_eq hzO36))
          replace hE := ho.ext hE (Nat.le_trans (Nat.le_trans hs5 hs11) (Nat.le_of_eq hzO36))
          replace hX8 := ho.ext hX8 (Nat.le_trans hs11 (Nat.le_of_eq hzO36))
          have hs44 : X37.heap.size ≤ X43.heap.size := Nat.le_of_eq ho.size.symm
          clear ho hk bO36_0 bO36_1 bO36_2 bO36_3 bO36_4 bO36_5 bO36_6 bO36_7 bO36_8
          have bO36_0 := hv0; clear hv0
          have bO36_1 := hv1; clear hv1
          have bO36_2 := hv2; clear hv2
          have bO36_3 := hv3; clear hv3
          have bO36_4 := hv4; clear hv4
          have bO36_5 := hv5; clear hv5
          have bO36_6 := hv6; clear hv6
          have bO36_7 := hv7; clear hv7
          have bO36_8 := hv8; clear hv8
          refine ⟨e0, ?_⟩
          refine wd_end hL hR hK (by kernel_rfl) ?_
          exact qw_leaf hJ [0, 3, 4, 6] (ws' := [(0, .slice (some ⟨b6, o6, none⟩) n c), (3, .slice a9 i c9), (4, .int .i64 (((i : Nat) : Int) : Int)), (6, .pointer (some ⟨O36, 0, none⟩))]) (by kernel_rfl) ⟨p40, p41, p42, O36, rfl, e0, hE, hX8, hp40, hp41, hp42, bO36_0, bO36_1, bO36_2, bO36_3, bO36_4, bO36_5, bO36_6, bO36_7, bO36_8, (Nat.le_trans hs11 (Nat.le_trans hs38 hs44)), (Nat.le_trans hs11 (Nat.le_of_eq hzO36))⟩
      ·
        clear e0 hE hX8
        rintro L ws Y45 ⟨p12, p13, p14, O15, rfl, e0, hE, hX8, hp12, hp13, hp14, bO15_0, bO15_1, bO15_2, bO15_3, bO15_4, bO15_5, bO15_6, bO15_7, bO15_8, hn46, hn47⟩
        have lt48 := bO15_0.lt
        refine qw_then ?_
        refine cw_seq ?_
        refine cw_plain ?_
        refine pl_take (.pointer (some ⟨O15, 4, none⟩)) rfl (by kernel_rfl) (by kernel_rfl) (by kernel_rfl) (by kernel_rfl) ?_
        refine pl_take (.pointer (some ⟨O15, 5, none⟩)) rfl (by kernel_rfl) (by kernel_rfl) (by kernel_rfl) (by kernel_rfl) ?_
        refine pl_take (.int .i64 ((p9 + 1) + p14 : Int)) rfl (by kernel_rfl) (by kernel_rfl) (by kernel_rfl) (ex_load rfl (by kernel_rfl) (ld3 (bO15_5.1))) ?_
        refine pl_take (.int .i64 ((p9 + 1) + p14 : Int)) rfl (by kernel_rfl) (by kernel_rfl) (by kernel_rfl) (by kernel_rfl) ?_
        refine pl_nil ?_
        refine qw_then ?_
        refine cw_seq ?_
        refine cw_seq ?_
        refine cw_plain ?_
        refine pl_take (.int .i64 0) rfl (by kernel_rfl) (by kernel_rfl) (by kernel_rfl) (by kernel_rfl) ?_
        refine pl_nil ?_
        refine qw_then ?_
        refine cw_block ?_
        refine cw_loop [0, 3, 4, 6, 7, 8] (fun ws' wr m => ∃ k : Nat, ∃ e7 : Int, ∃ sl : List Mem.Slt, ∃ aq : Option Addr, ∃ cq : Nat, ws' = [(0, .slice (some ⟨b6, o6, none⟩) n c), (3, .slice a9 i c9), (4, .int .i64 (((i : Nat) : Int) : Int)), (6, .pointer (some ⟨O15, 0, none⟩)), (7, .int .i64 (e7 : Int)), (8, .int .i64 (((k : Nat) : Int) : Int))] ∧ m = 4 - k ∧ Y45.heap.size ≤ wr.heap.size ∧ Ext w0 wr ∧ Ext w wr ∧ Ext w6 wr ∧ BoxAt wr O15 0 (.int .i64 (((i : Nat) : Int) : Int)) ∧ BoxAt wr O15 1 (.int .i64 (p12 : Int)) ∧ BoxAt wr O15 2 (.int .i64 0) ∧ BoxAt wr O15 3 (.int .i64 0) ∧ BoxAt wr O15 4 (.int .i64 (p9 : Int)) ∧ BoxAt wr O15 5 (.int .i64 ((p9 + 1) + p14 : Int)) ∧ BoxAt wr O15 6 (.int .i64 0) ∧ BoxAt wr O15 7 (.int .i64 (1 + p13 : Int)) ∧ BoxAt wr O15 8 (.slice aq k cq) ∧ OwnL slR Y45.heap.size 61 3 (.slice aq k cq) wr sl ∧ sl.length = k ∧ Mem.chainB ((p9 + 1) + p14) sl = true ∧ Mem.lastTo ((p9 + 1) + p14) sl = e7 ∧ (0 ≤ e7 ∧ e7 ≤ 219 + 69 * (k : Int)) ∧ k ≤ 4) (ws0 := [(0, .slice (some ⟨b6, o6, none⟩) n c), (3, .slice a9 i c9), (4, .int .i64 (((i : Nat) : Int) : Int)), (6, .pointer (some ⟨O15, 0, none⟩)), (7, .int .i64 ((p9 + 1) + p14 : Int)), (8, .int .i64 0)]) (by kernel_rfl) _ ⟨0, (p9 + 1) + p14, [], none, 0, rfl, rfl, Nat.le_refl _, e0, hE, hX8, bO15_0, bO15_1, bO15_2, bO15_3, bO15_4, bO15_5, bO15_6, bO15_7, bO15_8, OwnL.nil _ _ _ _ _, rfl, rfl, rfl, by omega, Nat.zero_le _⟩ ?_
        clear bO15_0 bO15_1 bO15_2 bO15_3 bO15_4 bO15_5 bO15_6 bO15_7 bO15_8 e0 hE hX8
        rintro m51 L ws w50 ⟨k, e7, sl, aq, cq, rfl, rfl, hs49, e0, hE, hX8, bO15_0, bO15_1, bO15_2, bO15_3, bO15_4, bO15_5, bO15_6, bO15_7, b88, own8, hsl, hch, hla, he7, hk4⟩
        have hbk8 := own8.lt
        refine cw_seq ?_
        refine cw_seq ?_
        refine cw_plain ?_
        refine pl_take (.int .i64 (((k : Nat) : Int) : Int)) rfl (by kernel_rfl) (by kernel_rfl) (by kernel_rfl) (by kernel_rfl) ?_
        refine pl_take (.slice (some ⟨b6, o6, none⟩) n c) rfl (by kernel_rfl) (by kernel_rfl) (by kernel_rfl) (by kernel_rfl) ?_
        refine pl_take (.int .i64 (((i : Nat) : Int) : Int)) rfl (by kernel_rfl) (by kernel_rfl) (by kernel_rfl) (by kernel_rfl) ?_
        refine pl_take (.pointer (some ⟨b6, o6 + i * 6, none⟩)) rfl (by kernel_rfl) (by kernel_rfl) (by kernel_rfl) (ex_index (p := .slice (some ⟨b6, o6, none⟩) n c) (i := .int .i64 ((i : Nat) : Int)) rfl (by kernel_rfl) (by kernel_rfl) (ix52 (k := i) (by omega))) ?_
        refine pl_take (.pointer (some ⟨b6, o6 + i * 6 + 3, none⟩)) rfl (by kernel_rfl) (by kernel_rfl) (by kernel_rfl) (by kernel_rfl) ?_
        refine pl_take (.int .i64 (q i 3 : Int)) rfl (by kernel_rfl) (by kernel_rfl) (by kernel_rfl) (ex_load rfl (by kernel_rfl) (ld3 ((e0.cell q3)))) ?_
        refine pl_step rfl (by kernel_rfl) (by kernel_rfl) (by kernel_rfl) (sn_call (f := 32) (args := #[.int .i64 (q i 3 : Int), .int .i64 4]) (by kernel_rfl) ((rpickv_c (q i 3) 4 _ (hq 3 (by omega)) (by omega) (by omega)).mono ?_))
        rintro e w' ⟨p52, rfl, hp52, rfl⟩
        refine ⟨_, rfl, ?_⟩
        by_cases hc53 : (((k : Nat) : Int) : Int) ≤ (p52 : Int)
        ·
          refine pl_take (.bool true) rfl (by kernel_rfl) (by kernel_rfl) (by kernel_rfl) (ev_dec (show _ = Result.ok (Next.value (Value.bool (decide ((((k : Nat) : Int) : Int) ≤ (p52 : Int))))) _ from by kernel_rfl) (hc53)) ?_
          refine pl_nil ?_
          refine qw_then ?_
          refine cw_t (by kernel_rfl) ?_
          refine cw_skip ?_
          refine qw_then ?_
          refine cw_seq ?_
          refine cw_block ?_
          refine cw_seq ?_
          refine cw_plain ?_
          refine pl_take (.int .i64 (e7 : Int)) rfl (by kernel_rfl) (by kernel_rfl) (by kernel_rfl) (by kernel_rfl) ?_
          refine pl_take (.slice (some ⟨b6, o6, none⟩) n c) rfl (by kernel_rfl) (by kernel_rfl) (by kernel_rfl) (by kernel_rfl) ?_
          refine pl_take (.int .i64 (((i : Nat) : Int) : Int)) rfl (by kernel_rfl) (by kernel_rfl) (by kernel_rfl) (by kernel_rfl) ?_
          refine pl_take (.pointer (some ⟨b6, o6 + i * 6, none⟩)) rfl (by kernel_rfl) (by kernel_rfl) (by kernel_rfl) (ex_index (p := .slice (some ⟨b6, o6, none⟩) n c) (i := .int .i64 ((i : Nat) : Int)) rfl (by kernel_rfl) (by kernel_rfl) (ix52 (k := i) (by omega))) ?_
          refine pl_take (.pointer (some ⟨b6, o6 + i * 6 + 4, none⟩)) rfl (by kernel_rfl) (by kernel_rfl) (by kernel_rfl) (by kernel_rfl) ?_
          refine pl_take (.int .i64 (q i 4 : Int)) rfl (by kernel_rfl) (by kernel_rfl) (by kernel_rfl) (ex_load rfl (by kernel_rfl) (ld3 ((e0.cell q4)))) ?_
          refine pl_take (.int .i64 (((k : Nat) : Int) : Int)) rfl (by kernel_rfl) (by kernel_rfl) (by kernel_rfl) (by kernel_rfl) ?_
          refine pl_take (.int .i64 (((11 * k : Nat) : Int) : Int)) rfl (by kernel_rfl) (by kernel_rfl) (by kernel_rfl) (ev_wrap (by kernel_rfl) (by omega) (by omega)) ?_
          refine pl_take (.int .i64 (((1 + (11 * k) : Nat) : Int) : Int)) rfl (by kernel_rfl) (by kernel_rfl) (by kernel_rfl) (ev_wrap (by kernel_rfl) (by omega) (by omega)) ?_
          refine pl_take (.int .i64 ((q i 4 : Int).tdiv (((1 + (11 * k) : Nat) : Int)) : Int)) rfl (by kernel_rfl) (by kernel_rfl) (by kernel_rfl) (ex_bin (a := (q i 4)) (b := (((1 + (11 * k) : Nat) : Int))) rfl (by kernel_rfl) (by kernel_rfl) (bin_tdiv (by omega) (by omega) (by omega))) ?_
          refine pl_step rfl (by kernel_rfl) (by kernel_rfl) (by kernel_rfl) (sn_call (f := 32) (args := #[.int .i64 ((q i 4 : Int).tdiv (((1 + (11 * k) : Nat) : Int)) : Int), .int .i64 60]) (by kernel_rfl) ((rpickv_c ((q i 4 : Int).tdiv (((1 + (11 * k) : Nat) : Int))) 60 _ (quo_isI hi4 (by omega)) (by omega) (by omega)).mono ?_))
          rintro e w' ⟨p54, rfl, hp54, rfl⟩
          refine ⟨_, rfl, ?_⟩
          refine pl_take (.int .i64 (e7 + p54 : Int)) rfl (by kernel_rfl) (by kernel_rfl) (by kernel_rfl) (ev_wrap (by kernel_rfl) (by omega) (by omega)) ?_
          refine pl_take (.int .i64 (e7 + p54 : Int)) rfl (by kernel_rfl) (by kernel_rfl) (by kernel_rfl) (by kernel_rfl) ?_
          refine pl_nil ?_
          refine qw_then ?_
          refine cw_clean [0, 3, 4, 6, 8, 9] (ws' := [(0, .slice (some ⟨b6, o6, none⟩) n c), (3, .slice a9 i c9), (4, .int .i64 (((i : Nat) : Int) : Int)), (6, .pointer (some ⟨O15, 0, none⟩)), (8, .int .i64 (((k : Nat) : Int) : Int)), (9, .int .i64 (e7 + p54 : Int))]) (by kernel_rfl) (fun L => ?_)
          refine cw_seq ?_
          refine cw_plain ?_
          refine pl_take (.int .i64 (e7 + p54 : Int)) rfl (by kernel_rfl) (by kernel_rfl) (by kernel_rfl) (by kernel_rfl) ?_
          refine pl_take (.int .i64 ((e7 + p54) + 1 : Int)) rfl (by kernel_rfl) (by kernel_rfl) (by kernel_rfl) (ev_wrap (by kernel_rfl) (by omega) (by omega)) ?_
          refine pl_take (.slice (some ⟨b6, o6, none⟩) n c) rfl (by kernel_rfl) (by kernel_rfl) (by kernel_rfl) (by kernel_rfl) ?_
          refine pl_take (.int .i64 (((i : Nat) : Int) : Int)) rfl (by kernel_rfl) (by kernel_rfl) (by kernel_rfl) (by kernel_rfl) ?_
          refine pl_take (.pointer (some ⟨b6, o6 + i * 6, none⟩)) rfl (by kernel_rfl) (by kernel_rfl) (by kernel_rfl) (ex_index (p := .slice (some ⟨b6, o6, none⟩) n c) (i := .int .i64 ((i : Nat) : Int)) rfl (by kernel_rfl) (by kernel_rfl) (ix52 (k := i) (by omega))) ?_
          refine pl_take (.pointer (some ⟨b6, o6 + i * 6 + 5, none⟩)) rfl (by kernel_rfl) (by kernel_rfl) (by kernel_rfl) (by kernel_rfl) ?_
          refine pl_take (.int .i64 (q i 5 : Int)) rfl (by kernel_rfl) (by kernel_rfl) (by kernel_rfl) (ex_load rfl (by kernel_rfl) (ld3 ((e0.cell q5)))) ?_
          refine pl_take (.int .i64 (((k : Nat) : Int) : Int)) rfl (by kernel_rfl) (by kernel_rfl) (by kernel_rfl) (by kernel_rfl) ?_
          refine pl_take (.int .i64 (((7 * k : Nat) : Int) : Int)) rfl (by kernel_rfl) (by kernel_rfl) (by kernel_rfl) (ev_wrap (by kernel_rfl) (by omega) (by omega)) ?_
          refine pl_take (.int .i64 (((1 + (7 * k) : Nat) : Int) : Int)) rfl (by kernel_rfl) (by kernel_rfl) (by kernel_rfl) (ev_wrap (by kernel_rfl) (by omega) (by omega)) ?_
          refine pl_take (.int .i64 ((q i 5 : Int).tdiv (((1 + (7 * k) : Nat) : Int)) : Int)) rfl (by kernel_rfl) (by kernel_rfl) (by kernel_rfl) (ex_bin (a := (q i 5)) (b := (((1 + (7 * k) : Nat) : Int))) rfl (by kernel_rfl) (by kernel_rfl) (bin_tdiv (by omega) (by omega) (by omega))) ?_
          refine pl_step rfl (by kernel_rfl) (by kernel_rfl) (by kernel_rfl) (sn_call (f := 32) (args := #[.int .i64 ((q i 5 : Int).tdiv (((1 + (7 * k) : Nat) : Int)) : Int), .int .i64 10]) (by kernel_rfl) ((rpickv_c ((q i 5 : Int).tdiv (((1 + (7 * k) : Nat) : Int))) 10 _ (quo_isI hi5 (by omega)) (by omega) (by omega)).mono ?_))
          rintro e w' ⟨p55, rfl, hp55, rfl⟩
          refine ⟨_, rfl, ?_⟩
          refine pl_take (.int .i64 (((e7 + p54) + 1) + p55 : Int)) rfl (by kernel_rfl) (by kernel_rfl) (by kernel_rfl) (ev_wrap (by kernel_rfl) (by omega) (by omega)) ?_
          refine pl_take (.int .i64 (((e7 + p54) + 1) + p55 : Int)) rfl (by kernel_rfl) (by kernel_rfl) (by kernel_rfl) (by kernel_rfl) ?_
          refine pl_nil ?_
          refine qw_then ?_
          refine cw_clean [0, 3, 4, 6, 7, 8, 9] (ws' := [(0, .slice (some ⟨b6, o6, none⟩) n c), (3, .slice a9 i c9), (4, .int .i64 (((i : Nat) : Int) : Int)), (6, .pointer (some ⟨O15, 0, none⟩)), (7, .int .i64 (((e7 + p54) + 1) + p55 : Int)), (8, .int .i64 (((k : Nat) : Int) : Int)), (9, .int .i64 (e7 + p54 : Int))]) (by kernel_rfl) (fun L => ?_)
          refine cw_plain ?_
          refine pl_take (.pointer (some ⟨O15, 8, none⟩)) rfl (by kernel_rfl) (by kernel_rfl) (by kernel_rfl) (by kernel_rfl) ?_
          refine pl_take (.slice aq k cq) rfl (by kernel_rfl) (by kernel_rfl) (by kernel_rfl) (ex_load rfl (by kernel_rfl) (ld29 (b88.1))) ?_
          refine pl_take (.int .i64 (((k : Nat) : Int) : Int)) rfl (by kernel_rfl) (by kernel_rfl) (by kernel_rfl) (by kernel_rfl) ?_
          refine pl_take (.int .i64 (e7 + p54 : Int)) rfl (by kernel_rfl) (by kernel_rfl) (by kernel_rfl) (by kernel_rfl) ?_
          refine pl_take (.int .i64 (((e7 + p54) + 1) + p55 : Int)) rfl (by kernel_rfl) (by kernel_rfl) (by kernel_rfl) (by kernel_rfl) ?_
          refine pl_take (.agg #[.int .i64 (e7 + p54 : Int), .int .i64 (((e7 + p54) + 1) + p55 : Int)]) rfl (by kernel_rfl) (by kernel_rfl) (by kernel_rfl) (by kernel_rfl) ?_
          refine pl_take (.agg #[.int .i64 (((k : Nat) : Int) : Int), .int .i64 (e7 + p54 : Int), .int .i64 (((e7 + p54) + 1) + p55 : Int)]) rfl (by kernel_rfl) (by kernel_rfl) (by kernel_rfl) (by kernel_rfl) ?_
          refine pl_step rfl (by kernel_rfl) (by kernel_rfl) (by kernel_rfl) (sn_newS (us := #[.int .i64 (((k : Nat) : Int) : Int), .int .i64 (e7 + p54 : Int), .int .i64 (((e7 + p54) + 1) + p55 : Int)]) (t := 61) (k := 1) (c := 1) (by kernel_rfl) ?_)
          intro O56 X57 hO hOs hb hbx
          have hzO56 := hO; have hyO56 := hOs; clear hO hOs
          have bO56_0 : BoxAt X57 O56 0 (.int .i64 (((k : Nat) : Int) : Int)) := hbx 0 _ rfl
          have bO56_1 : BoxAt X57 O56 1 (.int .i64 (e7 + p54 : Int)) := hbx 1 _ rfl
          have bO56_2 : BoxAt X57 O56 2 (.int .i64 (((e7 + p54) + 1) + p55 : Int)) := hbx 2 _ rfl
          clear hbx
          replace e0 := e0.trans hb
          replace hE := hE.trans hb
          replace hX8 := hX8.trans hb
          replace bO15_0 := BoxAt.ext hb bO15_0
          replace bO15_1 := BoxAt.ext hb bO15_1
          replace bO15_2 := BoxAt.ext hb bO15_2
          replace bO15_3 := BoxAt.ext hb bO15_3
          replace bO15_4 := BoxAt.ext hb bO15_4
          replace bO15_5 := BoxAt.ext hb bO15_5
          replace bO15_6 := BoxAt.ext hb bO15_6
          replace bO15_7 := BoxAt.ext hb bO15_7
          replace b88 := BoxAt.ext hb b88
          replace own8 := own8.ext hb
          have hs58 := hb.size
          clear hb
          have lt59 := bO56_0.lt
          have hbs70 := own8.base
          obtain ⟨g60, cap61, w62, hrun63, own64, hgr65, hgb66⟩ := own_app1k (P := Try.prog) (ty := 29) slT (own8) (Nat.le_trans hs49 hs58) (k := k) hsl (O := O56) (c := 1) (x := (⟨((k : Nat) : Int), e7 + p54, ((e7 + p54) + 1) + p55⟩ : Mem.Slt)) (d := [.int .i64 (((k : Nat) : Int) : Int), .int .i64 (e7 + p54 : Int), .int .i64 (((e7 + p54) + 1) + p55 : Int)]) (F := []) rfl (cells3 (bO56_0.1) (bO56_1.1) (bO56_2.1)) (by simp [Value.oneCell']) (⟨rfl, rfl⟩) (fun b hb => by cases hb) (by omega) (by omega)
          refine pl_step rfl (by kernel_rfl) (by kernel_rfl) (by kernel_rfl) (sn_eff (v := .slice (some ⟨g60, 0, none⟩) (k + 1) cap61) (w' := w62) (ex_append rfl (by kernel_rfl) (by kernel_rfl) hrun63) ?_)
          replace bO15_0 := BoxAt.grownR bO15_0 hgb66 (own_not hbs70 (Nat.lt_of_lt_of_le lt48 (Nat.le_refl _)))
          replace bO15_1 := BoxAt.grownR bO15_1 hgb66 (own_not hbs70 (Nat.lt_of_lt_of_le lt48 (Nat.le_refl _)))
          replace bO15_2 := BoxAt.grownR bO15_2 hgb66 (own_not hbs70 (Nat.lt_of_lt_of_le lt48 (Nat.le_refl _)))
          replace bO15_3 := BoxAt.grownR bO15_3 hgb66 (own_not hbs70 (Nat.lt_of_lt_of_le lt48 (Nat.le_refl _)))
          replace bO15_4 := BoxAt.grownR bO15_4 hgb66 (own_not hbs70 (Nat.lt_of_lt_of_le lt48 (Nat.le_refl _)))
          replace bO15_5 := BoxAt.grownR bO15_5 hgb66 (own_not hbs70 (Nat.lt_of_lt_of_le lt48 (Nat.le_refl _)))
          replace bO15_6 := BoxAt.grownR bO15_6 hgb66 (own_not hbs70 (Nat.lt_of_lt_of_le lt48 (Nat.le_refl _)))
          replace bO15_7 := BoxAt.grownR bO15_7 hgb66 (own_not hbs70 (Nat.lt_of_lt_of_le lt48 (Nat.le_refl _)))
          replace b88 := BoxAt.grownR b88 hgb66 (own_not hbs70 (Nat.lt_of_lt_of_le lt48 (Nat.le_refl _)))
          replace bO56_0 := BoxAt.grownR bO56_0 hgb66 (own_not2 hbk8 (Nat.le_of_eq hzO56))
          replace bO56_1 := BoxAt.grownR bO56_1 hgb66 (own_not2 hbk8 (Nat.le_of_eq hzO56))
          replace bO56_2 := BoxAt.grownR bO56_2 hgb66 (own_not2 hbk8 (Nat.le_of_eq hzO56))
          replace e0 := hgr65.ext _ e0 (Nat.le_trans hs0 (Nat.le_trans hs5 hn46))
          replace hE := hgr65.ext _ hE (Nat.le_trans hs5 hn46)
          replace hX8 := hgr65.ext _ hX8 hn46
          have hs67 := hgr65.size
          have hl68 := own64.base g60 rfl; have hh69 := own64.lt g60 rfl
          refine pl_take (.pointer (some ⟨O15, 8, none⟩)) rfl (by kernel_rfl) (by kernel_rfl) (by kernel_rfl) (by kernel_rfl) ?_
          refine pl_put rfl (by kernel_rfl) (by kernel_rfl) (sn_set (O := O15) (j := 8) (v := .slice (some ⟨g60, 0, none⟩) (k + 1) cap61) (ex_store (p := .pointer (some ⟨O15, 8, none⟩)) (v := .slice (some ⟨g60, 0, none⟩) (k + 1) cap61) rfl (by kernel_rfl) (by kernel_rfl) (st29 b88.1 b88.2)) b88 ?_)
          intro X72 ho hv0 hk
          replace e0 := ho.ext e0 (Nat.le_trans (Nat.le_trans hs0 hs5) hn47)
          replace hE := ho.ext hE (Nat.le_trans hs5 hn47)
          replace hX8 := ho.ext hX8 hn47
          replace bO15_0 := hk 0 _ (by omega) bO15_0
          replace bO15_1 := hk 1 _ (by omega) bO15_1
          replace bO15_2 := hk 2 _ (by omega) bO15_2
          replace bO15_3 := hk 3 _ (by omega) bO15_3
          replace bO15_4 := hk 4 _ (by omega) bO15_4
          replace bO15_5 := hk 5 _ (by omega) bO15_5
          replace bO15_6 := hk 6 _ (by omega) bO15_6
          replace bO15_7 := hk 7 _ (by omega) bO15_7
          replace bO56_0 := ho.box (Nat.ne_of_lt (Nat.lt_of_lt_of_le lt48 (Nat.le_trans hs49 (Nat.le_of_eq hzO56)))) bO56_0
          replace bO56_1 := ho.box (Nat.ne_of_lt (Nat.lt_of_lt_of_le lt48 (Nat.le_trans hs49 (Nat.le_of_eq hzO56)))) bO56_1
          replace bO56_2 := ho.box (Nat.ne_of_lt (Nat.lt_of_lt_of_le lt48 (Nat.le_trans hs49 (Nat.le_of_eq hzO56)))) bO56_2
          replace own64 := own64.turn ho (own_not (own64.base) (Nat.lt_of_lt_of_le lt48 (Nat.le_refl _))) (fun _ _ _ h => by rw [h.2]; exact fun b hb => by cases hb)
          have hs73 : w62.heap.size ≤ X72.heap.size := Nat.le_of_eq ho.size.symm
          clear ho hk b88
          have b88 := hv0; clear hv0
          refine pl_nil ?_
          refine qw_block ?_
          refine qw_then ?_
          refine cw_clean [0, 3, 4, 6, 7, 8] (ws' := [(0, .slice (some ⟨b6, o6, none⟩) n c), (3, .slice a9 i c9), (4, .int .i64 (((i : Nat) : Int) : Int)), (6, .pointer (some ⟨O15, 0, none⟩)), (7, .int .i64 (((e7 + p54) + 1) + p55 : Int)), (8, .int .i64 (((k : Nat) : Int) : Int))]) (by kernel_rfl) (fun L => ?_)
          refine cw_plain ?_
          refine pl_take (.int .i64 (((k : Nat) : Int) : Int)) rfl (by kernel_rfl) (by kernel_rfl) (by kernel_rfl) (by kernel_rfl) ?_
          refine pl_take (.int .i64 (((k + 1 : Nat) : Int) : Int)) rfl (by kernel_rfl) (by kernel_rfl) (by kernel_rfl) (ev_wrap (by kernel_rfl) (by omega) (by omega)) ?_
          refine pl_take (.int .i64 (((k + 1 : Nat) : Int) : Int)) rfl (by kernel_rfl) (by kernel_rfl) (by kernel_rfl) (by kernel_rfl) ?_
          refine pl_nil ?_
          refine qw_round [0, 3, 4, 6, 7, 8] (ws' := [(0, .slice (some ⟨b6, o6, none⟩) n c), (3, .slice a9 i c9), (4, .int .i64 (((i : Nat) : Int) : Int)), (6, .pointer (some ⟨O15, 0, none⟩)), (7, .int .i64 (((e7 + p54) + 1) + p55 : Int)), (8, .int .i64 (((k + 1 : Nat) : Int) : Int))]) (by kernel_rfl) _ ?_ ⟨(k + 1), ((e7 + p54) + 1) + p55, (sl ++ [⟨((k : Nat) : Int), e7 + p54, ((e7 + p54) + 1) + p55⟩]), (some ⟨g60, 0, none⟩), cap61, rfl, rfl, (Nat.le_trans hs49 (Nat.le_trans hs58 (Nat.le_trans hs67 hs73))), e0, hE, hX8, bO15_0, bO15_1, bO15_2, bO15_3, bO15_4, bO15_5, bO15_6, bO15_7, b88, own64, (by rw [List.length_append, hsl]; rfl), (by rw [Mem.chain_snoc, hch, hla, show decide (e7 ≤ (⟨((k : Nat) : Int), e7 + p54, ((e7 + p54) + 1) + p55⟩ : Mem.Slt).fr) = true from decide_eq_true (by simp only []; omega), show Mem.spB (_, _) = true from Mem.spB_t.2 ⟨⟨by simp only []; omega, by simp only []; omega⟩, by simp only []; omega⟩]; rfl), (by rw [Mem.lastTo_snoc]), by omega, by omega⟩
          omega
        ·
          refine pl_take (.bool false) rfl (by kernel_rfl) (by kernel_rfl) (by kernel_rfl) (ev_ndec (show _ = Result.ok (Next.value (Value.bool (decide ((((k : Nat) : Int) : Int) ≤ (p52 : Int))))) _ from by kernel_rfl) (hc53)) ?_
          refine pl_nil ?_
          refine qw_then ?_
          refine cw_f (by kernel_rfl) ?_
          refine cw_exit ?_
          refine qw_then_exit ?_
          refine qw_then_exit ?_
          refine qw_block_out ?_
          refine qw_then ?_
          have hk0 : 0 < k := by omega
          obtain ⟨bq, haq, hbq, hsls⟩ := own_sls own8 hsl hk0 (by omega)
          obtain rfl := haq
          have hX74 : Ext w50 w50 := Ext.refl _
          have hcan : Mem.canB ⟨((i : Nat) : Int), p12, 0, 0, p9, (p9 + 1) + p14, 0, 1 + p13, sl⟩ = true := Mem.can_mk hch (by omega) (by omega) (by omega) (by omega)
          refine cw_plain ?_
          refine pl_take (.slice a9 i c9) rfl (by kernel_rfl) (by kernel_rfl) (by kernel_rfl) (by kernel_rfl) ?_
          refine pl_take (.agg #[.int .i64 (((i : Nat) : Int) : Int), .int .i64 (p12 : Int), .int .i64 0, .int .i64 0, .int .i64 (p9 : Int), .int .i64 ((p9 + 1) + p14 : Int), .int .i64 0, .int .i64 (1 + p13 : Int), .slice (some ⟨bq, 0, none⟩) k cq]) rfl (by kernel_rfl) (by kernel_rfl) (by kernel_rfl) (ex_load rfl (by kernel_rfl) (ld31 (bO15_0.1) (bO15_1.1) (bO15_2.1) (bO15_3.1) (bO15_4.1) (bO15_5.1) (bO15_6.1) (bO15_7.1) (b88.1))) ?_
          refine pl_step rfl (by kernel_rfl) (by kernel_rfl) (by kernel_rfl) (sn_newS (us := #[.int .i64 (((i : Nat) : Int) : Int), .int .i64 (p12 : Int), .int .i64 0, .int .i64 0, .int .i64 (p9 : Int), .int .i64 ((p9 + 1) + p14 : Int), .int .i64 0, .int .i64 (1 + p13 : Int), .slice (some ⟨bq, 0, none⟩) k cq]) (t := 31) (k := 1) (c := 1) (by kernel_rfl) ?_)
          intro O75 X76 hO hOs hb hbx
          have hzO75 := hO; have hyO75 := hOs; clear hO hOs
          have bO75_0 : BoxAt X76 O75 0 (.int .i64 (((i : Nat) : Int) : Int)) := hbx 0 _ rfl
          have bO75_1 : BoxAt X76 O75 1 (.int .i64 (p12 : Int)) := hbx 1 _ rfl
          have bO75_2 : BoxAt X76 O75 2 (.int .i64 0) := hbx 2 _ rfl
          have bO75_3 : BoxAt X76 O75 3 (.int .i64 0) := hbx 3 _ rfl
          have bO75_4 : BoxAt X76 O75 4 (.int .i64 (p9 : Int)) := hbx 4 _ rfl
          have bO75_5 : BoxAt X76 O75 5 (.int .i64 ((p9 + 1) + p14 : Int)) := hbx 5 _ rfl
          have bO75_6 : BoxAt X76 O75 6 (.int .i64 0) := hbx 6 _ rfl
          have bO75_7 : BoxAt X76 O75 7 (.int .i64 (1 + p13 : Int)) := hbx 7 _ rfl
          have bO75_8 : BoxAt X76 O75 8 (.slice (some ⟨bq, 0, none⟩) k cq) := hbx 8 _ rfl
          clear hbx
          replace e0 := e0.trans hb
          replace hE := hE.trans hb
          replace hX8 := hX8.trans hb
          replace hX74 := hX74.trans hb
          replace bO15_0 := BoxAt.ext hb bO15_0
          replace bO15_1 := BoxAt.ext hb bO15_1
          replace bO15_2 := BoxAt.ext hb bO15_2
          replace bO15_3 := BoxAt.ext hb bO15_3
          replace bO15_4 := BoxAt.ext hb bO15_4
          replace bO15_5 := BoxAt.ext hb bO15_5
          replace bO15_6 := BoxAt.ext hb bO15_6
          replace bO15_7 := BoxAt.ext hb bO15_7
          replace b88 := BoxAt.ext hb b88
          have hs77 := hb.size
          clear hb
          have lt78 := bO75_0.lt
          have hbs89 := own9.base
          have hbk90 := own9.lt
          obtain ⟨g79, cap80, w81, hrun82, own83, hgr84, hgb85⟩ := own_app1k (P := Try.prog) (ty := 50) optT ((own9.ext hX8)) (Nat.le_trans hs5 (Nat.le_trans hn46 (Nat.le_trans hs49 hs77))) (k := i) hml9 (O := O75) (c := 1) (x := (⟨((i : Nat) : Int), p12, 0, 0, p9, (p9 + 1) + p14, 0, 1 + p13, sl⟩ : Mem.Opt)) (d := [.int .i64 (((i : Nat) : Int) : Int), .int .i64 (p12 : Int), .int .i64 0, .int .i64 0, .int .i64 (p9 : Int), .int .i64 ((p9 + 1) + p14 : Int), .int .i64 0, .int .i64 (1 + p13 : Int), .slice (some ⟨bq, 0, none⟩) k cq]) (F := [bq]) rfl (cells9 (bO75_0.1) (bO75_1.1) (bO75_2.1) (bO75_3.1) (bO75_4.1) (bO75_5.1) (bO75_6.1) (bO75_7.1) (bO75_8.1)) (by simp [Value.oneCell']) (⟨⟨bq, k, cq, rfl, hsls.ext hX74, hk0, rfl⟩, fresh1 (Nat.le_trans (Nat.le_trans hs5 hn46) hbq)⟩) (away_cons (own_not2 hbk90 (Nat.le_trans hn46 hbq)) (fun b hb => by cases hb)) (by omega) (by omega)
          refine pl_step rfl (by kernel_rfl) (by kernel_rfl) (by kernel_rfl) (sn_eff (v := .slice (some ⟨g79, 0, none⟩) (i + 1) cap80) (w' := w81) (ex_append rfl (by kernel_rfl) (by kernel_rfl) hrun82) ?_)
          replace bO15_0 := BoxAt.grownR bO15_0 hgb85 (own_not2 hbk90 hn47)
          replace bO15_1 := BoxAt.grownR bO15_1 hgb85 (own_not2 hbk90 hn47)
          replace bO15_2 := BoxAt.grownR bO15_2 hgb85 (own_not2 hbk90 hn47)
          replace bO15_3 := BoxAt.grownR bO15_3 hgb85 (own_not2 hbk90 hn47)
          replace bO15_4 := BoxAt.grownR bO15_4 hgb85 (own_not2 hbk90 hn47)
          replace bO15_5 := BoxAt.grownR bO15_5 hgb85 (own_not2 hbk90 hn47)
          replace bO15_6 := BoxAt.grownR bO15_6 hgb85 (own_not2 hbk90 hn47)
          replace bO15_7 := BoxAt.grownR bO15_7 hgb85 (own_not2 hbk90 hn47)
          replace b88 := BoxAt.grownR b88 hgb85 (own_not2 hbk90 hn47)
          replace bO75_0 := BoxAt.grownR bO75_0 hgb85 (own_not2 hbk90 (Nat.le_trans (Nat.le_trans hn46 hs49) (Nat.le_of_eq hzO75)))
          replace bO75_1 := BoxAt.grownR bO75_1 hgb85 (own_not2 hbk90 (Nat.le_trans (Nat.le_trans hn46 hs49) (Nat.le_of_eq hzO75)))
          replace bO75_2 := BoxAt.grownR bO75_2 hgb85 (own_not2 hbk90 (Nat.le_trans (Nat.le_trans hn46 hs49) (Nat.le_of_eq hzO75)))
          replace bO75_3 := BoxAt.grownR bO75_3 hgb85 (own_not2 hbk90 (Nat.le_trans (Nat.le_trans hn46 hs49) (Nat.le_of_eq hzO75)))
          replace bO75_4 := BoxAt.grownR bO75_4 hgb85 (own_not2 hbk90 (Nat.le_trans (Nat.le_trans hn46 hs49) (Nat.le_of_eq hzO75)))
          replace bO75_5 := BoxAt.grownR bO75_5 hgb85 (own_not2 hbk90 (Nat.le_trans (Nat.le_trans hn46 hs49) (Nat.le_of_eq hzO75)))
          replace bO75_6 := BoxAt.grownR bO75_6 hgb85 (own_not2 hbk90 (Nat.le_trans (Nat.le_trans hn46 hs49) (Nat.le_of_eq hzO75)))
          replace bO75_7 := BoxAt.grownR bO75_7 hgb85 (own_not2 hbk90 (Nat.le_trans (Nat.le_trans hn46 hs49) (Nat.le_of_eq hzO75)))
          replace bO75_8 := BoxAt.grownR bO75_8 hgb85 (own_not2 hbk90 (Nat.le_trans (Nat.le_trans hn46 hs49) (Nat.le_of_eq hzO75)))
          replace e0 := hgr84.ext _ e0 hs0
          replace hE := hgr84.ext _ hE (Nat.le_refl _)
          have hs86 := hgr84.size
          have hl87 := own83.base g79 rfl; have hh88 := own83.lt g79 rfl
          refine pl_take (.slice (some ⟨g79, 0, none⟩) (i + 1) cap80) rfl (by kernel_rfl) (by kernel_rfl) (by kernel_rfl) (by kernel_rfl) ?_
          refine pl_nil ?_
          refine qw_block ?_
          refine qw_then ?_
          refine cw_clean [0, 3, 4] (ws' := [(0, .slice (some ⟨b6, o6, none⟩) n c), (3, .slice (some ⟨g79, 0, none⟩) (i + 1) cap80), (4, .int .i64 (((i : Nat) : Int) : Int))]) (by kernel_rfl) (fun L => ?_)
          refine cw_plain ?_
          refine pl_take (.int .i64 (((i : Nat) : Int) : Int)) rfl (by kernel_rfl) (by kernel_rfl) (by kernel_rfl) (by kernel_rfl) ?_
          refine pl_take (.int .i64 (((i + 1 : Nat) : Int) : Int)) rfl (by kernel_rfl) (by kernel_rfl) (by kernel_rfl) (ev_wrap (by kernel_rfl) (by omega) (by omega)) ?_
          refine pl_take (.int .i64 (((i + 1 : Nat) : Int) : Int)) rfl (by kernel_rfl) (by kernel_rfl) (by kernel_rfl) (by kernel_rfl) ?_
          refine pl_nil ?_
          refine qw_round [0, 3, 4] (ws' := [(0, .slice (some ⟨b6, o6, none⟩) n c), (3, .slice (some ⟨g79, 0, none⟩) (i + 1) cap80), (4, .int .i64 (((i + 1 : Nat) : Int) : Int))]) (by kernel_rfl) _ ?_ ⟨(i + 1), (some ⟨g79, 0, none⟩), cap80, (ops ++ [⟨((i : Nat) : Int), p12, 0, 0, p9, (p9 + 1) + p14, 0, 1 + p13, sl⟩]), rfl, rfl, (Nat.le_trans hs5 (Nat.le_trans hn46 (Nat.le_trans hs49 (Nat.le_trans hs77 hs86)))), e0, hE, own83, by omega, by omega, (by rw [List.length_append, hml9]; rfl), (hgo.snoc hml9 (by omega) rfl hcan)⟩
          omega
    ·
      refine cw_seq ?_
      refine cw_seq ?_
      refine cw_plain ?_
      refine pl_take (.int .i64 (((i : Nat) : Int) : Int)) rfl (by kernel_rfl) (by kernel_rfl) (by kernel_rfl) (by kernel_rfl) ?_
      refine pl_take (.slice a n c) rfl (by kernel_rfl) (by kernel_rfl) (by kernel_rfl) (by kernel_rfl) ?_
      refine pl_take (.int .i64 (((n : Nat) : Int) : Int)) rfl (by kernel_rfl) (by kernel_rfl) (by kernel_rfl) (by kernel_rfl) ?_
      refine pl_take (.bool true) rfl (by kernel_rfl) (by kernel_rfl) (by kernel_rfl) (ev_dec (show _ = Result.ok (Next.value (Value.bool (decide ((((i : Nat) : Int) : Int) < (((n : Nat) : Int) : Int))))) _ from by kernel_rfl) (by omega)) ?_
      refine pl_take (.bool true) rfl (by kernel_rfl) (by kernel_rfl) (by kernel_rfl) (by kernel_rfl) ?_
      refine pl_take (.int .i64 (((i : Nat) : Int) : Int)) rfl (by kernel_rfl) (by kernel_rfl) (by kernel_rfl) (by kernel_rfl) ?_
      refine pl_take (.bool false) rfl (by kernel_rfl) (by kernel_rfl) (by kernel_rfl) (ev_ndec (show _ = Result.ok (Next.value (Value.bool (decide ((((i : Nat) : Int) : Int) < (8 : Int))))) _ from by kernel_rfl) (by omega)) ?_
      refine pl_take (.bool false) rfl (by kernel_rfl) (by kernel_rfl) (by kernel_rfl) (by kernel_rfl) ?_
      refine pl_nil ?_
      refine qw_then ?_
      refine cw_f (by kernel_rfl) ?_
      refine cw_exit ?_
      refine qw_then_exit ?_
      refine qw_then_exit ?_
      refine qw_block_out ?_
      refine qw_then ?_
      refine cw_seq ?_
      refine cw_plain ?_
      refine pl_take (.slice a9 i c9) rfl (by kernel_rfl) (by kernel_rfl) (by kernel_rfl) (by kernel_rfl) ?_
      refine pl_take (.slice a9 i c9) rfl (by kernel_rfl) (by kernel_rfl) (by kernel_rfl) (by kernel_rfl) ?_
      refine pl_nil ?_
      refine qw_then ?_
      refine cw_ret ?_
      refine qw_ret [.slice a9 i c9] rfl ⟨(by kernel_rfl), trivial⟩ ?_
      exact ⟨_, _, _, _, rfl, hi2, own_opts own9 hml9 (by omega), hgo, hE⟩
  ·
    refine cw_seq ?_
    refine cw_seq ?_
    refine cw_plain ?_
    refine pl_take (.int .i64 (((i : Nat) : Int) : Int)) rfl (by kernel_rfl) (by kernel_rfl) (by kernel_rfl) (by kernel_rfl) ?_
    refine pl_take (.slice a n c) rfl (by kernel_rfl) (by kernel_rfl) (by kernel_rfl) (by kernel_rfl) ?_
    refine pl_take (.int .i64 (((n : Nat) : Int) : Int)) rfl (by kernel_rfl) (by kernel_rfl) (by kernel_rfl) (by kernel_rfl) ?_
    refine pl_take (.bool false) rfl (by kernel_rfl) (by kernel_rfl) (by kernel_rfl) (ev_ndec (show _ = Result.ok (Next.value (Value.bool (decide ((((i : Nat) : Int) : Int) < (((n : Nat) : Int) : Int))))) _ from by kernel_rfl) (by omega)) ?_
    refine pl_take (.bool false) rfl (by kernel_rfl) (by kernel_rfl) (by kernel_rfl) (by kernel_rfl) ?_
    refine pl_skip rfl (by kernel_rfl) (by kernel_rfl) (by kernel_rfl) ?_
    refine pl_skip rfl (by kernel_rfl) (by kernel_rfl) (by kernel_rfl) ?_
    refine pl_take (.bool false) rfl (by kernel_rfl) (by kernel_rfl) (by kernel_rfl) (by kernel_rfl) ?_
    refine pl_nil ?_
    refine qw_then ?_
    refine cw_f (by kernel_rfl) ?_
    refine cw_exit ?_
    refine qw_then_exit ?_
    refine qw_then_exit ?_
    refine qw_block_out ?_
    refine qw_then ?_
    refine cw_seq ?_
    refine cw_plain ?_
    refine pl_take (.slice a9 i c9) rfl (by kernel_rfl) (by kernel_rfl) (by kernel_rfl) (by kernel_rfl) ?_
    refine pl_take (.slice a9 i c9) rfl (by kernel_rfl) (by kernel_rfl) (by kernel_rfl) (by kernel_rfl) ?_
    refine pl_nil ?_
    refine qw_then ?_
    refine cw_ret ?_
    refine qw_ret [.slice a9 i c9] rfl ⟨(by kernel_rfl), trivial⟩ ?_
    exact ⟨_, _, _, _, rfl, hi2, own_opts own9 hml9 (by omega), hgo, hE⟩

end Go.Proofs.Ytnbjjddfcondlaa

/- What the rows say of the fill of some of the images. -/
namespace Go.Proofs.Ytnbjjddfcondlaa
open Go.RowKit

theorem pickvN_c (c : Int) (n : Nat) (w : World) (hc : IsI c) (h0 : 0 < n) (h1 : n ≤ 100000000) : Calls Try.prog 12 #[.int .i64 c, .int .i64 (n : Int)] w fun e w' => ∃ k : Nat, e = .returned (.int .i64 (k : Int)) ∧ k < n ∧ w = w' :=
  (pickv_c c n w hc (by omega) (by omega)).mono fun _ _ ⟨k, he, hk, hw⟩ => ⟨k.toNat, by rw [he, Int.toNat_of_nonneg hk.1], by omega, hw⟩
namespace Mem
theorem row_is {l : List St} {i : Nat} (h : i < (rowsR l).length) : ∃ t ∈ begs l, maxAt l t = true ∧ snN (rowsR l) i = alive l t := by
  have hm := List.mem_of_getElem? (snN_at h)
  rw [rows_eq] at hm
  obtain ⟨t, ht, e⟩ := List.mem_map.1 hm
  obtain ⟨h1, h2⟩ := List.mem_filter.1 ht
  exact ⟨t, h1, h2, by rw [rows_eq]; exact e.symm⟩
theorem row_len {l : List St} (i : Nat) : (snN (rowsR l) i).length ≤ l.length := by
  rcases Nat.lt_or_ge i (rowsR l).length with h | h
  · obtain ⟨t, _, _, e⟩ := row_is h; rw [e]; exact alive_len l t
  · unfold snN; rw [List.getElem?_eq_none h]; exact Nat.zero_le _
theorem row_lt {l : List St} {i j : Nat} (hi : i < (rowsR l).length) (hj : j < (snN (rowsR l) i).length) : natN (snN (rowsR l) i) j < l.length := by
  obtain ⟨t, _, _, e⟩ := row_is hi
  have hm := List.mem_of_getElem? (natN_at hj)
  generalize natN (snN (rowsR l) i) j = n at hm ⊢
  rw [e] at hm
  obtain ⟨x, hx, _⟩ := mem_alive.1 hm
  exact (List.getElem?_eq_some_iff.1 hx).1
theorem natN_take {s : List Nat} {j : Nat} (h : j < s.length) : s.take (j + 1) = s.take j ++ [natN s j] := by rw [List.take_add_one, natN_at h]; rfl
theorem unit_at {l : List St} {i : Nat} (h : i < l.length) : unitAt l i = (stN l i).un := by unfold unitAt; rw [stN_at h]
/-- The units of the chosen ones among the first of a row. -/
def pickS (l : List St) (c : Nat → Bool) (s : List Nat) (j : Nat) : Int := sumI (((s.take j).filter c).map (unitAt l))
theorem pickS_next {l : List St} {c : Nat → Bool} {s : List Nat} {j : Nat} (h : j < s.length) : pickS l c s (j + 1) = pickS l c s j + if c (natN s j) then unitAt l (natN s j) else 0 := by
  unfold pickS
  rw [natN_take h, List.filter_append, List.map_append, sumI_app]
  cases q : c (natN s j) <;> simp [sumI, q]
theorem pickS_bd {l : List St} {c : Nat → Bool} {s : List Nat} (hu : ∀ x ∈ l, 1 ≤ x.un ∧ x.un ≤ 50) (j : Nat) (hj : j ≤ s.length) : 0 ≤ pickS l c s j ∧ pickS l c s j ≤ 50 * j := by
  induction j with
  | zero => unfold pickS; simp [sumI]
  | succ j ih =>
    have h1 := ih (by omega)
    rw [pickS_next (by omega)]
    have h2 : 0 ≤ unitAt l (natN s j) ∧ unitAt l (natN s j) ≤ 50 := by
      unfold unitAt
      cases q : l[natN s j]? with
      | none => simp
      | some x => have := hu x (List.mem_of_getElem? q); simp only []; omega
    split <;> omega
def rowS (l : List St) (c : Nat → Bool) (i : Nat) : Int := pickS l c (snN (rowsR l) i) (snN (rowsR l) i).length
theorem rowS_alive {l : List St} {c : Nat → Bool} {i : Nat} {t : Int} (h : snN (rowsR l) i = alive l t) : rowS l c i = fill (((List.range l.length).filter c).filterMap fun i => l[i]?) t := by
  unfold rowS pickS; rw [List.take_length, h]; exact sum_alive c
/-- Whether one of the first rows is over a limit. -/
def ovU (l : List St) (c : Nat → Bool) (lim : Int) (r : Nat) : Bool := (List.range r).any fun i => decide (lim < rowS l c i)
theorem ovU_next (l : List St) (c : Nat → Bool) (lim : Int) (r : Nat) : ovU l c lim (r + 1) = (ovU l c lim r || decide (lim < rowS l c r)) := by
  unfold ovU; rw [List.range_succ, List.any_append]; simp
def chosen (l : List St) (c : Nat → Bool) (i : Nat) : List St := ((List.range i).filter c).filterMap fun i => l[i]?
theorem chosen_next {l : List St} {c : Nat → Bool} {i : Nat} (h : i < l.length) : chosen l c (i + 1) = if c i then chosen l c i ++ [stN l i] else chosen l c i := by
  unfold chosen
  rw [List.range_succ, List.filter_append, List.filterMap_append]
  cases q : c i
  · simp [q]
  · simp [q, stN_at h]
theorem chosen_sub (l : List St) (c : Nat → Bool) : (chosen l c l.length).Sublist l := by
  have h : (chosen l c l.length).Sublist ((List.range l.length).filterMap fun i => l[i]?) := List.Sublist.filterMap _ List.filter_sublist
  rwa [range_get] at h
theorem chosen_all (l : List St) : chosen l (fun _ => true) l.length = l := by
  unfold chosen; rw [List.filter_eq_self.2 (fun _ _ => rfl)]; exact range_get
theorem distB_sub {a b : List St} (h : a.Sublist b) : distB b = true → distB a = true := by
  induction h with
  | slnil => exact id
  | cons x _ ih => intro hb; exact ih (Bool.and_eq_true_iff.1 hb).2
  | cons_cons x s ih =>
    intro hb
    obtain ⟨h1, h2⟩ := Bool.and_eq_true_iff.1 hb
    refine Bool.and_eq_true_iff.2 ⟨?_, ih h2⟩
    rw [Bool.not_eq_true', ← Bool.not_eq_true, List.any_eq_true] at h1 ⊢
    rintro ⟨y, hy, e⟩
    exact h1 ⟨y, s.mem hy, e⟩
theorem ok_sub {a b : List St} (h : a.Sublist b) (hb : okL b = true) : okL a = true := by
  unfold okL at *
  obtain ⟨h1, h2⟩ := Bool.and_eq_true_iff.1 hb
  obtain ⟨h1, h3⟩ := Bool.and_eq_true_iff.1 h1
  rw [distB_sub h h3, decide_eq_true (Nat.le_trans h.length_le (of_decide_eq_true h2)), List.all_eq_true.2 fun x hx => List.all_eq_true.1 h1 x (h.mem hx)]
  rfl
theorem ovU_all {l : List St} {c : Nat → Bool} {lim ov : Int} (hok : okL l = true) (h0 : 0 ≤ lim) (h : IsOver (chosen l c l.length) lim ov) : ovU l c lim (rowsR l).length = decide (0 ≤ ov) := by
  have hs := chosen_sub l c
  have hok2 := ok_sub hs hok
  obtain ⟨p1, p2, p3⟩ := h.plain (okL_f hok2)
  have key := over_row (l := l) (m := chosen l c l.length) (okL_u hok2) (fun x hx => hs.mem hx) h0
  have hit : (∃ t, lim < fill (chosen l c l.length) t) ↔ 0 ≤ ov := ⟨fun ⟨t, ht⟩ => (p2 t ht).1, fun h => ⟨_, (p3 h).1⟩⟩
  rw [Bool.eq_iff_iff, decide_eq_true_iff, ← hit, key]
  unfold ovU
  rw [List.any_eq_true]
  constructor
  · rintro ⟨i, hi, h9⟩
    obtain ⟨t, ht, hm, e⟩ := row_is (List.mem_range.1 hi)
    have h9 := of_decide_eq_true h9
    rw [rowS_alive e] at h9
    exact ⟨t, ht, hm, h9⟩
  · rintro ⟨t, ht, hm, h9⟩
    have hmem : alive l t ∈ rowsR l := by rw [rows_eq]; exact List.mem_map.2 ⟨t, List.mem_filter.2 ⟨ht, hm⟩, rfl⟩
    obtain ⟨i, hi⟩ := List.getElem?_of_mem hmem
    have hlt := (List.getElem?_eq_some_iff.1 hi).1
    have e : snN (rowsR l) i = alive l t := by unfold snN; rw [hi]; rfl
    exact ⟨i, List.mem_range.2 hlt, decide_eq_true (by rw [rowS_alive e]; exact h9)⟩
/-- Whether an image is chosen. -/
def bitB (b n : Nat) : Bool := decide (b / 2 ^ n % 2 = 1)
end Mem

end Go.Proofs.Ytnbjjddfcondlaa

/- What MemoryRows says of the rows. -/
namespace Go.Proofs.Ytnbjjddfcondlaa
open Go.RowKit

namespace Mem
def bt (l : List St) (r : Nat) : Nat := bitsOf (snN (rowsR l) r)
def setsU (l : List St) (r : Nat) : List Nat := (List.range r).map (bt l)
theorem setsU_len (l : List St) (r : Nat) : (setsU l r).length = r := by unfold setsU; simp
theorem setsU_next (l : List St) (r : Nat) : setsU l (r + 1) = setsU l r ++ [bt l r] := by unfold setsU; rw [List.range_succ, List.map_append]; rfl
theorem setsU_at {l : List St} {r k : Nat} (h : k < r) : (setsU l r)[k]? = some (bt l k) := by unfold setsU; simp [h]
theorem bits_ne {s : List Nat} (h : s ≠ []) : bitsOf s ≠ 0 := by
  cases s with
  | nil => exact absurd rfl h
  | cons x s =>
    intro e
    have := testBit_bits (x :: s) x
    rw [e] at this
    simp at this
theorem row_bits {l : List St} (hl : l.length ≤ 12) {r : Nat} (hr : r < (rowsR l).length) (j : Nat) : bitsOf ((snN (rowsR l) r).take j) < 4096 := by
  refine Nat.lt_of_lt_of_le (bits_lt (n := l.length) fun i hi => ?_) (Nat.pow_le_pow_right (n := 2) (by decide) hl)
  obtain ⟨k, hk⟩ := List.getElem?_of_mem (List.mem_of_mem_take hi)
  have h9 := (List.getElem?_eq_some_iff.1 hk).1
  have := row_lt hr h9
  have e := natN_at h9
  rw [hk] at e
  rw [Option.some.inj e]; exact this
theorem row_live {l : List St} {r j : Nat} {t : Int} (h : snN (rowsR l) r = alive l t) (hj : j < (snN (rowsR l) r).length) : (stN l (natN (snN (rowsR l) r) j)).fr ≤ t ∧ t < (stN l (natN (snN (rowsR l) r) j)).to := by
  have hm := List.mem_of_getElem? (natN_at hj)
  generalize natN (snN (rowsR l) r) j = n at hm ⊢
  rw [h] at hm
  obtain ⟨x, hx, hl⟩ := mem_alive.1 hm
  have e : stN l n = x := by unfold stN; rw [hx]; rfl
  rw [e]; exact live_iff.1 hl
theorem natN_asc {s : List Nat} (h : s.Pairwise (· < ·)) {i j : Nat} (hij : i < j) (hj : j < s.length) : natN s i < natN s j := by
  have h1 := List.pairwise_iff_getElem.1 h i j (by omega) hj hij
  have e1 := natN_at (s := s) (i := i) (by omega)
  have e2 := natN_at hj
  rw [List.getElem?_eq_getElem (by omega)] at e1
  rw [List.getElem?_eq_getElem hj] at e2
  rw [← Option.some.inj e1, ← Option.some.inj e2]; exact h1
theorem row_asc {l : List St} {r i j : Nat} {t : Int} (h : snN (rowsR l) r = alive l t) (hij : i < j) (hj : j < (snN (rowsR l) r).length) : natN (snN (rowsR l) r) i < natN (snN (rowsR l) r) j := natN_asc (by rw [h]; exact alive_asc l t) hij hj
theorem row_some {l : List St} {t : Int} (hu : ∀ x ∈ l, okU x) (ht : t ∈ begs l) : alive l t ≠ [] := by
  obtain ⟨x, hx, rfl⟩ := mem_begs.1 ht
  obtain ⟨i, hi⟩ := List.getElem?_of_mem hx
  have := mem_alive.2 ⟨x, hi, live_iff.2 ⟨Int.le_refl _, (hu x hx).2⟩⟩
  exact fun e => by rw [e] at this; cases this
/-- The rows, with their minutes, in ascending order. -/
theorem rows_two {l : List St} (hu : ∀ x ∈ l, okU x) {k r : Nat} (hk : k < r) (hr : r < (rowsR l).length) : bt l k &&& bt l r ≠ bt l r ∧ bt l k &&& bt l r ≠ bt l k := by
  have hlen : ((begs l).filter (maxAt l)).length = (rowsR l).length := by rw [rows_eq, List.length_map]
  have hasc := List.pairwise_iff_getElem.1 ((begs_asc l).filter (maxAt l)) k r (by omega) (by omega) hk
  have hat : ∀ i (h : i < ((begs l).filter (maxAt l)).length), snN (rowsR l) i = alive l ((begs l).filter (maxAt l))[i] := fun i h => by
    unfold snN; rw [rows_eq, List.getElem?_map, List.getElem?_eq_getElem h]; rfl
  have hmk := List.mem_filter.1 (List.getElem_mem (show k < ((begs l).filter (maxAt l)).length by omega))
  have hmr := List.mem_filter.1 (List.getElem_mem (show r < ((begs l).filter (maxAt l)).length by omega))
  have h1 := rows_apart hu hmr.1 hasc
  have h2 := rows_apart2 hu hmr.1 hasc hmk.2
  unfold bt
  rw [hat k (by omega), hat r (by omega)]
  constructor
  · intro e
    rw [bits_and, ← incl_alive, h1] at e; cases e
  · intro e
    rw [Nat.and_comm, bits_and, ← incl_alive, h2] at e; cases e
end Mem

end Go.Proofs.Ytnbjjddfcondlaa

/- Images that are turned around and moved by some minutes. -/
namespace Go.Proofs.Ytnbjjddfcondlaa
open Go.RowKit

namespace Mem
def shift (n : Int) (x : St) : St := ⟨x.im, x.un, x.fr + n, x.to + n⟩
def mvL (l : List St) (L k : Nat) (n : Int) (i : Nat) : List St := (List.range i).map fun i => shift n (stN l ((i + k) % L))
theorem mvL_len (l : List St) (L k : Nat) (n : Int) (i : Nat) : (mvL l L k n i).length = i := by unfold mvL; simp
theorem mvL_next (l : List St) (L k : Nat) (n : Int) (i : Nat) : mvL l L k n (i + 1) = mvL l L k n i ++ [shift n (stN l ((i + k) % L))] := by unfold mvL; rw [List.range_succ, List.map_append]; rfl
theorem mod_turn {i k L : Nat} (hi : i < L) (hk : k ≤ L) : (i + k) % L = if i + k < L then i + k else i + k - L := by
  split
  · rename_i h; exact Nat.mod_eq_of_lt h
  · rename_i h; rw [Nat.mod_eq_sub_mod (by omega)]; exact Nat.mod_eq_of_lt (by omega)
theorem mv_turn {l : List St} {k : Nat} (hk : k ≤ l.length) (n : Int) : mvL l l.length k n l.length = (l.drop k ++ l.take k).map (shift n) := by
  unfold mvL
  apply List.ext_getElem
  · rw [List.length_map, List.length_range, List.length_map, List.length_append, List.length_drop, List.length_take]; omega
  · intro i h1 h2
    have h1 : i < l.length := by rwa [List.length_map, List.length_range] at h1
    rw [List.getElem_map, List.getElem_map, List.getElem_range, mod_turn h1 hk]
    congr 1
    rw [List.getElem_append]
    have hst : ∀ j (hj : j < l.length), stN l j = l[j] := fun j hj => by unfold stN; rw [List.getElem?_eq_getElem hj]; rfl
    split
    · rename_i h
      rw [dif_pos (by rw [List.length_drop]; omega), hst _ h, List.getElem_drop]
      simp only [Nat.add_comm]
    · rename_i h
      rw [dif_neg (by rw [List.length_drop]; omega), hst _ (by omega), List.getElem_take]
      congr 1
      rw [List.length_drop]; omega
theorem live_shift (t n : Int) (x : St) : live t (shift n x) = live (t - n) x := by
  rw [Bool.eq_iff_iff, live_iff, live_iff]; unfold shift; simp only []; omega
theorem fill_shift (n t : Int) : ∀ l : List St, fill (l.map (shift n)) t = fill l (t - n)
  | [] => rfl
  | x :: l => by
    rw [List.map_cons, fill_cons, fill_cons, fill_shift n t l]
    unfold part; rw [live_shift]; rfl
theorem distB_iff : ∀ l : List St, distB l = true ↔ l.Pairwise fun x y => y.im ≠ x.im
  | [] => by simp [distB]
  | x :: l => by
    unfold distB
    rw [Bool.and_eq_true_iff, distB_iff l, List.pairwise_cons, Bool.not_eq_true', ← Bool.not_eq_true, List.any_eq_true]
    constructor
    · rintro ⟨h1, h2⟩; exact ⟨fun y hy e => h1 ⟨y, hy, decide_eq_true e⟩, h2⟩
    · rintro ⟨h1, h2⟩; exact ⟨fun ⟨y, hy, e⟩ => h1 y hy (of_decide_eq_true e), h2⟩
/-- The list m is l, turned around by k, and moved by n minutes. -/
structure Mv (l m : List St) (n : Int) (k : Nat) : Prop where
  len : m.length = l.length
  fill : ∀ t, fill m t = Mem.fill l (t - n)
  mem : ∀ y, y ∈ m ↔ ∃ x ∈ l, y = shift n x
  get : ∀ j, j < l.length → stN m j = shift n (stN l ((j + k) % l.length))
theorem turn_perm (l : List St) (k : Nat) : (l.drop k ++ l.take k).Perm l := by
  have := List.perm_append_comm (l₁ := l.drop k) (l₂ := l.take k)
  rwa [List.take_append_drop] at this
theorem mv_is {l : List St} {L k : Nat} {n : Int} (hL : l.length = L) (hk : k ≤ L) : Mv l (mvL l L k n L) n k := by
  subst hL
  refine ⟨mvL_len _ _ _ _ _, fun t => ?_, fun y => ?_, fun j hj => ?_⟩
  · rw [mv_turn hk, fill_shift, fill_perm (turn_perm l k)]
  · rw [mv_turn hk, List.mem_map]
    exact ⟨fun ⟨x, hx, e⟩ => ⟨x, (turn_perm l k).mem_iff.1 hx, e.symm⟩, fun ⟨x, hx, e⟩ => ⟨x, (turn_perm l k).mem_iff.2 hx, e.symm⟩⟩
  · conv => lhs; unfold stN mvL
    rw [List.getElem?_map, List.getElem?_range hj]; rfl
theorem mv_ok {l : List St} {L k : Nat} {n : Int} (hL : l.length = L) (hk : k ≤ L) (hok : okL l = true) (hn : 0 ≤ n ∧ n ≤ 5000) (hb : ∀ x ∈ l, x.to ≤ 159) : okL (mvL l L k n L) = true := by
  have hm := mv_is (n := n) hL hk
  subst hL
  unfold okL at *
  obtain ⟨h1, h2⟩ := Bool.and_eq_true_iff.1 hok
  obtain ⟨h1, h3⟩ := Bool.and_eq_true_iff.1 h1
  have hd : distB (mvL l l.length k n l.length) = true := by
    rw [mv_turn hk, distB_iff, List.pairwise_map]
    exact ((turn_perm l k).pairwise_iff (fun h => Ne.symm h)).2 ((distB_iff l).1 h3)
  have ha : (mvL l l.length k n l.length).all okSt = true := List.all_eq_true.2 fun y hy => by
    obtain ⟨x, hx, rfl⟩ := (hm.mem y).1 hy
    have hb := hb x hx
    have h9 := List.all_eq_true.1 h1 x hx
    unfold okSt at h9
    obtain ⟨q1, q2⟩ := Bool.and_eq_true_iff.1 h9
    obtain ⟨q2, q3⟩ := Bool.and_eq_true_iff.1 q2
    have q3 := spB_t.1 q3
    simp only [] at q3
    exact okSt_mk (Globe.inB_t.1 q1) (Globe.inB_t.1 q2) ⟨⟨by omega, by omega⟩, by omega⟩
  rw [hd, ha, mvL_len, h2]; rfl
section
variable {l m : List St} {n : Int} {k : Nat}
theorem Mv.most (h : Mv l m n k) {b w b' w' : Int} (h1 : IsMost l b w) (h2 : IsMost m b' w') : b = b' ∧ (0 < l.length → w + n = w') := by
  rcases h1 with ⟨rfl, rfl, rfl⟩ | ⟨h0, h3, ⟨x, hx, e⟩, h4, h5⟩
  · have : m = [] := List.eq_nil_of_length_eq_zero h.len
    obtain ⟨e, _⟩ := h2.uniq (.inl ⟨this, rfl, rfl⟩)
    exact ⟨e.symm, fun h => absurd h (by simp)⟩
  · have hm : IsMost m b (w + n) := .inr ⟨fun e => h0 (List.eq_nil_of_length_eq_zero (by rw [← h.len, e]; rfl)), by rw [h.fill, Int.add_sub_cancel]; exact h3, ⟨shift n x, (h.mem _).2 ⟨x, hx, rfl⟩, by show x.fr + n = _; omega⟩, fun t => by rw [h.fill]; exact h4 _, fun t ht => by rw [h.fill]; exact h5 _ (by omega)⟩
    obtain ⟨e1, e2⟩ := hm.uniq h2
    exact ⟨e1, fun _ => e2⟩
theorem Mv.over (h : Mv l m n k) (hf : ∀ x ∈ l, 0 ≤ x.fr) {lim t t' : Int} (h1 : IsOver l lim t) (h2 : IsOver m lim t') : (t < 0 → t' < 0) ∧ (0 ≤ t → t' = t + n) := by
  rcases h1 with ⟨rfl, h1⟩ | ⟨⟨x, hx, e⟩, h3, h4⟩
  · have := h2.uniq (.inl ⟨rfl, fun s => by rw [h.fill]; exact h1 _⟩)
    exact ⟨fun _ => by omega, fun h => absurd h (by omega)⟩
  · have := h2.uniq (t' := t + n) (.inr ⟨⟨shift n x, (h.mem _).2 ⟨x, hx, rfl⟩, by show x.fr + n = _; omega⟩, by rw [h.fill, Int.add_sub_cancel]; exact h3, fun s hs => by rw [h.fill]; exact h4 _ (by omega)⟩)
    have := hf x hx
    exact ⟨fun _ => by omega, fun _ => by omega⟩
theorem Mv.incl (h : Mv l m n k) (s t : Int) : incl m (s + n) (t + n) = incl l s t := by
  rw [Bool.eq_iff_iff, incl_iff, incl_iff]
  constructor
  · intro q x hx hl
    have := q _ ((h.mem _).2 ⟨x, hx, rfl⟩) (by rw [live_shift, Int.add_sub_cancel]; exact hl)
    rwa [live_shift, Int.add_sub_cancel] at this
  · intro q y hy hl
    obtain ⟨x, hx, rfl⟩ := (h.mem _).1 hy
    rw [live_shift, Int.add_sub_cancel] at hl ⊢
    exact q x hx hl
theorem Mv.begs (h : Mv l m n k) : begs m = (begs l).map (· + n) := by
  refine asc_uniq (begs_asc m) (List.pairwise_map.2 ((begs_asc l).imp fun h => by omega)) fun t => ?_
  rw [mem_begs, List.mem_map]
  constructor
  · rintro ⟨y, hy, e⟩
    obtain ⟨x, hx, rfl⟩ := (h.mem _).1 hy
    exact ⟨x.fr, mem_begs.2 ⟨x, hx, rfl⟩, e⟩
  · rintro ⟨s, hs, e⟩
    obtain ⟨x, hx, rfl⟩ := mem_begs.1 hs
    exact ⟨shift n x, (h.mem _).2 ⟨x, hx, rfl⟩, e⟩
theorem Mv.maxAt (h : Mv l m n k) (t : Int) : maxAt m (t + n) = maxAt l t := by
  rw [Bool.eq_iff_iff, maxAt_iff, maxAt_iff, h.begs]
  constructor
  · intro q s hs hi
    have := q (s + n) (List.mem_map.2 ⟨s, hs, rfl⟩) (by rw [h.incl]; exact hi)
    rwa [h.incl] at this
  · intro q s hs hi
    obtain ⟨r, hr, rfl⟩ := List.mem_map.1 hs
    rw [h.incl] at hi ⊢
    exact q r hr hi
theorem Mv.rows (h : Mv l m n k) : rowsR m = ((Mem.begs l).filter (Mem.maxAt l)).map fun t => alive m (t + n) := by
  rw [rows_eq, h.begs, List.filter_map, List.map_map]
  congr 1
  exact List.filter_congr fun t _ => h.maxAt t
theorem Mv.rlen (h : Mv l m n k) : (rowsR m).length = (rowsR l).length := by rw [h.rows, rows_eq, List.length_map, List.length_map]
theorem Mv.row (h : Mv l m n k) {r : Nat} (hr : r < (rowsR l).length) : ∃ t, snN (rowsR l) r = alive l t ∧ snN (rowsR m) r = alive m (t + n) := by
  have hlen : r < ((Mem.begs l).filter (Mem.maxAt l)).length := by rwa [rows_eq, List.length_map] at hr
  refine ⟨((Mem.begs l).filter (Mem.maxAt l))[r], ?_, ?_⟩
  · unfold snN; rw [rows_eq, List.getElem?_map, List.getElem?_eq_getElem hlen]; rfl
  · unfold snN; rw [h.rows, List.getElem?_map, List.getElem?_eq_getElem hlen]; rfl
theorem bits_ext {a b : List Nat} (h : ∀ i, i ∈ a ↔ i ∈ b) : bitsOf a = bitsOf b := Nat.eq_of_testBit_eq fun i => by
  rw [testBit_bits, testBit_bits, Bool.eq_iff_iff, decide_eq_true_iff, decide_eq_true_iff]; exact h i
theorem Mv.bits (h : Mv l m n k) (hk : k ≤ l.length) (t : Int) : bitsOf (alive l t) = bitsOf ((alive m (t + n)).map fun j => (j + k) % l.length) := by
  refine bits_ext fun i => ?_
  have hall : ∀ j, j < l.length → (j ∈ alive m (t + n) ↔ (j + k) % l.length ∈ alive l t) := fun j hj => by
    have hj2 : (j + k) % l.length < l.length := Nat.mod_lt _ (by omega)
    have e1 := stN_at (l := m) (i := j) (by rw [h.len]; exact hj)
    have e2 := stN_at hj2
    rw [mem_alive, mem_alive, e1, e2, h.get j hj]
    constructor
    · rintro ⟨x, e, hl⟩; cases e; rw [live_shift, Int.add_sub_cancel] at hl; exact ⟨_, rfl, hl⟩
    · rintro ⟨x, e, hl⟩; cases e; exact ⟨_, rfl, by rw [live_shift, Int.add_sub_cancel]; exact hl⟩
  rw [List.mem_map]
  constructor
  · intro hi
    obtain ⟨x, hx, _⟩ := mem_alive.1 hi
    have hil := (List.getElem?_eq_some_iff.1 hx).1
    obtain ⟨j, hj, e⟩ : ∃ j, j < l.length ∧ (j + k) % l.length = i := by
      rcases Nat.lt_or_ge i k with q | q
      · exact ⟨i + l.length - k, by omega, by rw [mod_turn (by omega) hk, if_neg (by omega)]; omega⟩
      · exact ⟨i - k, by omega, by rw [mod_turn (by omega) hk, if_pos (by omega)]; omega⟩
    exact ⟨j, (hall j hj).2 (by rw [e]; exact hi), e⟩
  · rintro ⟨j, hj, e⟩
    obtain ⟨x, hx, _⟩ := mem_alive.1 hj
    have hjl := (List.getElem?_eq_some_iff.1 hx).1
    rw [h.len] at hjl
    rw [← e]; exact (hall j hjl).1 hj
end
theorem most_bd {l : List St} {b w c : Int} (hc : 0 ≤ c) (h : IsMost l b w) (hf : ∀ x ∈ l, 0 ≤ x.fr ∧ x.fr ≤ c) : -1 ≤ w ∧ w ≤ c := by
  rcases h with ⟨_, _, rfl⟩ | ⟨_, _, ⟨x, hx, e⟩, _⟩
  · omega
  · have := hf x hx; omega
theorem over_bd {l : List St} {lim t c : Int} (hc : 0 ≤ c) (h : IsOver l lim t) (hf : ∀ x ∈ l, 0 ≤ x.fr ∧ x.fr ≤ c) : -1 ≤ t ∧ t ≤ c := by
  rcases h with ⟨rfl, _⟩ | ⟨⟨x, hx, e⟩, _⟩
  · omega
  · have := hf x hx; omega
theorem map_bits {s : List Nat} {L k : Nat} (hL : 0 < L) (h12 : L ≤ 12) : bitsOf (s.map fun j => (j + k) % L) < 4096 := by
  refine Nat.lt_of_lt_of_le (bits_lt (n := L) fun i hi => ?_) (Nat.pow_le_pow_right (n := 2) (by decide) h12)
  obtain ⟨j, _, rfl⟩ := List.mem_map.1 hi
  exact Nat.mod_lt _ hL
end Mem

end Go.Proofs.Ytnbjjddfcondlaa

/- What MemoryFrees says of options. -/
namespace Go.Proofs.Ytnbjjddfcondlaa
open Go.RowKit

theorem own_app1h {α : Type} {R : Rep α} {P : Program} {t ty e : TypeId} {z : Value} {size bytes : Nat} (E : ElemT P t e z size bytes) {n₀ : Nat} {v : Value} {w : World} {l : List α} (h : OwnL R n₀ e size v w l) (hn : n₀ ≤ w.heap.size) {k : Nat} (hl : l.length = k)
    {O c : Nat} {x : α} {d : List Value} {F : List Nat} (hsz : d.length = size) (hcell : ∀ j u, d[j]? = some u → w.cell? ⟨O, j, none⟩ = some u) (h1 : ∀ u ∈ d, u.oneCell' = true)
    (hR : R.rel w d x F) (hF : ∀ b ∈ F, v.ownBlock ≠ some b) (hb : (k + 1) * bytes ≤ 140737488355328) (hmax : k + 1 ≤ 9223372036854775807) :
    ∃ g cap w', (Builtin.append_ #[t, t] ty #[v, .slice (some ⟨O, 0, none⟩) 1 c]).run P w = .ok (.slice (some ⟨g, 0, none⟩) (k + 1) cap) w' ∧ OwnL R n₀ e size (.slice (some ⟨g, 0, none⟩) (k + 1) cap) w' (l ++ [x]) ∧ Grew n₀ w w' ∧ w.grownBy w' v.ownBlock ∧ (v.ownBlock = some g ∨ w.heap.size ≤ g) := by
  subst hl
  obtain ⟨cs, h2, h3, h4, h5⟩ := h
  obtain ⟨i, hi, hz0, hz1, hz2⟩ := info_parts E.info
  obtain ⟨v', w', hrun, hown, hg, hiff, hat⟩ := run_append_own_at (P := P) w n₀ t ty e i z size bytes E.under hi hz0 hz1 hz2 E.zs E.pos v l.length cs.flatten h4 ⟨O, 0, none⟩ 1 c d (by rw [hsz, Nat.one_mul]) (fun j u hj => by
    rw [Addr.add_mid, Nat.zero_add]; exact hcell j u hj) h1 (by unfold maxLen; exact hmax) hb hn
  have hnb : ∀ F : List Nat, (∀ b ∈ F, v.ownBlock ≠ some b) → (∀ b ∈ F, b < w.heap.size) → (∀ b ∈ F, v'.ownBlock ≠ some b) ∧ ∀ b ∈ F, ∀ o u, w.cell? ⟨b, o, none⟩ = some u → w'.cell? ⟨b, o, none⟩ = some u := by
    intro F hF hFl
    refine ⟨fun b hbF hv' => ?_, fun b hbF o u hu => hg.cell hu (fun e => hF b hbF e.symm)⟩
    rcases hat with e1 | e1
    · exact hF b hbF (by rw [← e1]; exact hv')
    · rw [e1] at hv'; cases hv'; have := hFl _ hbF; omega
  have hO : OwnL R n₀ e size v' w' (l ++ [x]) := ⟨cs ++ [d], by simp [h2], by
      intro y hy
      rcases List.mem_append.1 hy with hy | hy
      · exact h3 y hy
      · rw [List.mem_singleton.1 hy]; exact hsz, by rw [List.flatten_append, List.length_append]; simpa using hown, by
      intro j y c hx hc
      rcases Nat.lt_or_ge j l.length with hj | hj
      · rw [List.getElem?_append_left hj] at hx
        rw [List.getElem?_append_left (by rw [h2]; exact hj)] at hc
        obtain ⟨F, q1, q2⟩ := h5 j y c hx hc
        obtain ⟨k1, k2⟩ := hnb F q2 (R.lt q1)
        exact ⟨F, R.keep q1 k2, k1⟩
      · rw [List.getElem?_append_right hj] at hx
        rw [List.getElem?_append_right (by rw [h2]; exact hj), h2] at hc
        match hj' : j - l.length, hx, hc with
        | 0, hx, hc =>
          simp at hx hc; subst hx hc
          obtain ⟨k1, k2⟩ := hnb F hF (R.lt hR)
          exact ⟨F, R.keep hR k2, k1⟩
        | _ + 1, hx, _ => simp at hx⟩
  rcases hown.2 with ⟨q, _⟩ | ⟨g, cap, cur, q, _, _, q3, _⟩
  · have := (hiff.1 q).2; omega
  · subst q
    exact ⟨g, cap, w', hrun, hO, ⟨hg.size, fun U hU hUn => Ext.own' hU h4 hUn hg⟩, hg, by
      rcases hat with e1 | e1
      · exact .inl e1.symm
      · exact .inr (Nat.le_of_eq (Option.some.inj e1).symm)⟩
theorem OwnL.grown {α : Type} {R : Rep α} {n₀ : Nat} {e : TypeId} {size : Nat} {v : Value} {w w' : World} {l : List α} {r : Option Nat} (h : OwnL R n₀ e size v w l) (hg : w.grownBy w' r) (ha : (v.ownBlock = none ∨ v.ownBlock ≠ r) ∧ ∀ w c x F, R.rel w c x F → F = []) : OwnL R n₀ e size v w' l := by
  obtain ⟨cs, q1, q2, q3, q4⟩ := h
  exact ⟨cs, q1, q2, q3.kept hg ha.1, fun j x c hx hc => by
    obtain ⟨F, k1, k2⟩ := q4 j x c hx hc
    have := ha.2 _ _ _ _ k1
    subst this
    exact ⟨[], R.keep k1 (fun b hb => by cases hb), fun b hb => by cases hb⟩⟩
theorem st_noF : ∀ w c x F, stR.rel w c x F → F = [] := fun _ _ _ _ h => h.2
/-- Two slices do not lie in the same block. -/
def Apart (v u : Value) : Prop := ∀ b, v.ownBlock = some b → u.ownBlock ≠ some b
theorem Apart.symm {v u : Value} (h : Apart v u) : Apart u v := fun b hu hv => h b hv hu
theorem Apart.kept {v u : Value} (h : Apart v u) : v.ownBlock = none ∨ v.ownBlock ≠ u.ownBlock := by
  cases q : v.ownBlock with
  | none => exact .inl rfl
  | some b => exact .inr fun e => h b q e.symm
theorem Apart.grow {v u : Value} {w : World} {g n c : Nat} (h : Apart v u) (hor : v.ownBlock = some g ∨ w.heap.size ≤ g) (hu : ∀ b, u.ownBlock = some b → b < w.heap.size) : Apart (.slice (some ⟨g, 0, none⟩) n c) u := fun b hb hub => by
  have e : g = b := Option.some.inj hb
  subst e
  rcases hor with q | q
  · exact h g q hub
  · have := hu g hub; omega
def opN (l : List Mem.Opt) (i : Nat) : Mem.Opt := l[i]?.getD ⟨0, 0, 0, 0, 0, 0, 0, 0, []⟩
theorem opN_at {l : List Mem.Opt} {i : Nat} (h : i < l.length) : l[i]? = some (opN l i) := by unfold opN; rw [List.getElem?_eq_getElem h]; rfl
namespace Mem
theorem can_parts {o : Opt} (h : canB o = true) : chainB o.to o.sl = true ∧ (0 ≤ o.id ∧ o.id ≤ 63) ∧ (1 ≤ o.sz ∧ o.sz ≤ 1000000) ∧ ((0 ≤ o.fr ∧ o.fr < o.to) ∧ o.to ≤ 1000001) ∧ 1 ≤ o.sl.length ∧ o.sl.length ≤ 6 := by
  unfold canB at h
  obtain ⟨h1, h⟩ := Bool.and_eq_true_iff.1 h
  obtain ⟨h2, h⟩ := Bool.and_eq_true_iff.1 h
  obtain ⟨h3, h⟩ := Bool.and_eq_true_iff.1 h
  obtain ⟨h4, h⟩ := Bool.and_eq_true_iff.1 h
  have h5 := Globe.inB_t.1 h
  exact ⟨h1, Globe.inB_t.1 h2, Globe.inB_t.1 h3, spB_t.1 h4, by omega, by omega⟩
theorem chain_to : ∀ {l : List Slt} {e : Int} {i : Nat}, chainB e l = true → i < l.length → e < (slN l i).to ∧ (slN l i).to ≤ 1000001
  | s :: r, e, i, h, hi => by
    unfold chainB at h
    obtain ⟨h1, h2⟩ := Bool.and_eq_true_iff.1 h
    obtain ⟨h1, h3⟩ := Bool.and_eq_true_iff.1 h1
    have h1 := of_decide_eq_true h1
    have h3 := spB_t.1 h3
    simp only [] at h3
    match i with
    | 0 => show e < s.to ∧ s.to ≤ 1000001; omega
    | i + 1 =>
      have := chain_to (i := i) h2 (by simpa using hi)
      show e < (slN r i).to ∧ (slN r i).to ≤ 1000001
      omega
theorem chain_mono : ∀ {l : List Slt} {e : Int} {i j : Nat}, chainB e l = true → i ≤ j → j < l.length → (slN l i).to ≤ (slN l j).to
  | s :: r, e, i, j, h, hij, hj => by
    unfold chainB at h
    obtain ⟨_, h2⟩ := Bool.and_eq_true_iff.1 h
    match i, j with
    | 0, 0 => exact Int.le_refl _
    | 0, j + 1 =>
      have := (chain_to (i := j) h2 (by simpa using hj)).1
      show s.to ≤ (slN r j).to
      omega
    | i + 1, j + 1 =>
      show (slN r i).to ≤ (slN r j).to
      exact chain_mono h2 (by omega) (by simpa using hj)
def wst (o : Opt) : St := freed o (o.sl.length - 1)
def Rel (a b : St) : Prop := b.im = a.im ∧ b.un = a.un ∧ b.fr = a.fr ∧ b.fr < b.to ∧ b.to ≤ a.to
theorem rel_freed {o : Opt} (h : canB o = true) {k : Nat} (hk : k < o.sl.length) : Rel (wst o) (freed o k) := by
  obtain ⟨h1, _, _, h4, h5, _⟩ := can_parts h
  have a := chain_to h1 hk
  have b := chain_mono h1 (show k ≤ o.sl.length - 1 by omega) (by omega)
  exact ⟨rfl, rfl, rfl, by show o.fr < (slN o.sl k).to; omega, b⟩
theorem rel_wst {o : Opt} (h : canB o = true) : Rel (wst o) (wst o) := rel_freed h (by have := (can_parts h).2.2.2.2; omega)
theorem ok_wst {o : Opt} (h : canB o = true) : okSt (wst o) = true := by
  obtain ⟨h1, h2, h3, h4, h5, _⟩ := can_parts h
  have a := chain_to h1 (show o.sl.length - 1 < o.sl.length by omega)
  exact okSt_mk h2 h3 ⟨⟨h4.1.1, by omega⟩, a.2⟩
def wsL (l : List Opt) (i : Nat) : List St := (l.take i).map wst
theorem wsL_next {l : List Opt} {i : Nat} (h : i < l.length) : wsL l (i + 1) = wsL l i ++ [wst (opN l i)] := by
  unfold wsL; rw [List.take_add_one, opN_at h, List.map_append]; rfl
theorem wsL_len {l : List Opt} {i : Nat} (h : i ≤ l.length) : (wsL l i).length = i := by unfold wsL; rw [List.length_map, List.length_take]; omega
theorem ws_ok {l : List Opt} {n : Nat} (h : GoodO l) (hn : l.length = n) : okL (wsL l n) = true := by
  subst hn
  have e : wsL l l.length = l.map wst := by unfold wsL; rw [List.take_length]
  rw [e]
  unfold okL
  have h1 : (l.map wst).all okSt = true := List.all_eq_true.2 fun x hx => by
    obtain ⟨o, ho, rfl⟩ := List.mem_map.1 hx
    obtain ⟨i, hi⟩ := List.getElem?_of_mem ho
    exact ok_wst (h.2 i o hi).2
  have h2 : distB (l.map wst) = true := by
    rw [distB_iff, List.pairwise_map, List.pairwise_iff_getElem]
    intro i j hi hj hij he
    have a := (h.2 i _ (List.getElem?_eq_getElem hi)).1
    have b := (h.2 j _ (List.getElem?_eq_getElem hj)).1
    have he : (l[j]).id = (l[i]).id := he
    rw [a, b] at he; omega
  rw [h1, h2, List.length_map, decide_eq_true (by have := h.1; omega)]; rfl
def RelL : List St → List St → Prop
  | [], [] => True
  | a :: l, b :: m => Rel a b ∧ RelL l m
  | _, _ => False
theorem RelL.snoc : ∀ {l m : List St} {a b : St}, RelL l m → Rel a b → RelL (l ++ [a]) (m ++ [b])
  | [], [], _, _, _, h => ⟨h, trivial⟩
  | _ :: _, _ :: _, _, _, h, k => ⟨h.1, RelL.snoc h.2 k⟩
theorem RelL.fill : ∀ {l m : List St}, RelL l m → (∀ x ∈ l, okU x) → ∀ t, fill m t ≤ fill l t
  | [], [], _, _, _ => Int.le_refl _
  | a :: l, b :: m, h, hu, t => by
    have h1 := RelL.fill h.2 (fun x hx => hu x (List.mem_cons_of_mem _ hx)) t
    rw [fill_cons, fill_cons]
    obtain ⟨⟨_, r1, r2, r3, r4⟩, _⟩ := h
    have hn := (hu a (List.mem_cons_self ..)).1
    have : part t b ≤ part t a := by
      unfold part
      cases q : live t b
      · rw [if_neg (by simp)]; split <;> omega
      · have q := live_iff.1 q
        rw [if_pos rfl, if_pos (live_iff.2 ⟨by omega, by omega⟩)]; omega
    omega
theorem RelL.ims : ∀ {l m : List St}, RelL l m → m.map (·.im) = l.map (·.im)
  | [], [], _ => rfl
  | a :: l, b :: m, h => by rw [List.map_cons, List.map_cons, RelL.ims h.2, h.1.1]
theorem RelL.all : ∀ {l m : List St}, RelL l m → l.all okSt = true → m.all okSt = true
  | [], [], _, _ => rfl
  | a :: l, b :: m, h, k => by
    rw [List.all_cons] at k ⊢
    obtain ⟨k1, k2⟩ := Bool.and_eq_true_iff.1 k
    rw [RelL.all h.2 k2, Bool.and_true]
    obtain ⟨⟨r0, r1, r2, r3, r4⟩, _⟩ := h
    unfold okSt at k1
    obtain ⟨q1, q2⟩ := Bool.and_eq_true_iff.1 k1
    obtain ⟨q2, q3⟩ := Bool.and_eq_true_iff.1 q2
    have q1 := Globe.inB_t.1 q1
    have q2 := Globe.inB_t.1 q2
    have q3 := spB_t.1 q3
    simp only [] at q3
    exact okSt_mk (by omega) (by omega) (by omega)
theorem RelL.ok {l m : List St} (h : RelL l m) (hok : okL l = true) : okL m = true := by
  unfold okL at *
  obtain ⟨h1, h2⟩ := Bool.and_eq_true_iff.1 hok
  obtain ⟨h1, h3⟩ := Bool.and_eq_true_iff.1 h1
  have hl : m.length = l.length := by have := congrArg List.length h.ims; rwa [List.length_map, List.length_map] at this
  have hd : distB m = true := by
    have key : ∀ l : List St, distB l = true ↔ (l.map (·.im)).Pairwise fun x y => y ≠ x := fun l => by rw [distB_iff, List.pairwise_map]
    rw [key, h.ims]; exact (key l).1 h3
  rw [h.all h1, hd, hl, h2]; rfl
theorem most_le {l m : List St} {b w b' w' : Int} (hu : ∀ x ∈ l, okU x) (h : ∀ t, Mem.fill m t ≤ Mem.fill l t) (h1 : IsMost l b w) (h2 : IsMost m b' w') : b' ≤ b := by
  have hb : 0 ≤ b ∧ ∀ t, Mem.fill l t ≤ b := by
    rcases h1 with ⟨rfl, rfl, _⟩ | ⟨_, h3, _, h4, _⟩
    · exact ⟨Int.le_refl _, fun t => Int.le_refl _⟩
    · exact ⟨by rw [← h3]; exact fill_nonneg hu w, h4⟩
  rcases h2 with ⟨_, rfl, _⟩ | ⟨_, h3, _⟩
  · exact hb.1
  · rw [← h3]; exact Int.le_trans (h w') (hb.2 w')
theorem over_le {l m : List St} {lim t t' : Int} (hf : ∀ x ∈ l, 0 ≤ x.fr) (h : ∀ t, Mem.fill m t ≤ Mem.fill l t) (h1 : IsOver l lim t) (h2 : IsOver m lim t') (ht : t < 0) : t' < 0 := by
  rcases h1 with ⟨_, h3⟩ | ⟨⟨x, hx, e⟩, _⟩
  · rcases h2 with ⟨rfl, _⟩ | ⟨_, h4, _⟩
    · omega
    · have := h t'; have := h3 t'; omega
  · have := hf x hx; omega
end Mem
def IntAt (w : World) (a : Option Addr) (n : Nat) (q : Nat → Int) : Prop := n = 0 ∨ ∃ b off, a = some ⟨b, off, none⟩ ∧ ∀ i, i < n → w.cell? ⟨b, off + i, none⟩ = some (.int .i64 (q i)) ∧ IsI (q i)
theorem Worst_y {w0 : World} {a : Option Addr} {n : Nat} {o : Mem.Opt} (c : Nat) (w : World) (h : SlsAt w0 a n o.sl) (e0 : Ext w0 w) (hc : Mem.canB o = true) : Calls Try.prog 28 #[.agg #[.int .i64 o.id, .int .i64 o.od, .int .i64 o.cl, .int .i64 o.sa, .int .i64 o.fr, .int .i64 o.to, .int .i64 o.lk, .int .i64 o.sz, .slice a n c]] w fun e w' => e = .returned (.tuple #[.agg #[.int .i64 (Mem.wst o).im, .int .i64 (Mem.wst o).un, .int .i64 (Mem.wst o).fr, .int .i64 (Mem.wst o).to], .int .i64 0]) ∧ Ext w w' := by
  have h5 := (Mem.can_parts hc).2.2.2.2
  have hb : Mem.freeB o ((o.sl.length : Int) - 1) = true := by unfold Mem.freeB; rw [hc, show Globe.inB ((o.sl.length : Int) - 1) 0 ((o.sl.length : Int) - 1) = true from Globe.inB_t.2 ⟨by omega, by omega⟩]; rfl
  have hv : Mem.freeV o ((o.sl.length : Int) - 1) = Mem.wst o := by unfold Mem.freeV Mem.wst; rw [hb, if_pos rfl, show ((o.sl.length : Int) - 1).toNat = o.sl.length - 1 by omega]
  have he : Mem.freeE o ((o.sl.length : Int) - 1) = 0 := by unfold Mem.freeE; rw [hb]; rfl
  have := Worst_c c w h e0
  rw [hv, he] at this
  exact this
theorem Freed_y {w0 : World} {a : Option Addr} {n : Nat} {o : Mem.Opt} (k c : Nat) (w : World) (h : SlsAt w0 a n o.sl) (e0 : Ext w0 w) (hc : Mem.canB o = true) (hk : k < o.sl.length) : Calls Try.prog 30 #[.agg #[.int .i64 o.id, .int .i64 o.od, .int .i64 o.cl, .int .i64 o.sa, .int .i64 o.fr, .int .i64 o.to, .int .i64 o.lk, .int .i64 o.sz, .slice a n c], .int .i64 (k : Int)] w fun e w' => e = .returned (.tuple #[.agg #[.int .i64 (Mem.freed o k).im, .int .i64 (Mem.freed o k).un, .int .i64 (Mem.freed o k).fr, .int .i64 (Mem.freed o k).to], .int .i64 0]) ∧ Ext w w' := by
  have hb : Mem.freeB o (k : Int) = true := by unfold Mem.freeB; rw [hc, show Globe.inB (k : Int) 0 ((o.sl.length : Int) - 1) = true from Globe.inB_t.2 ⟨by omega, by omega⟩]; rfl
  have hv : Mem.freeV o (k : Int) = Mem.freed o k := by unfold Mem.freeV; rw [hb, if_pos rfl]; rfl
  have he : Mem.freeE o (k : Int) = 0 := by unfold Mem.freeE; rw [hb]; rfl
  have := Freed_c (k : Int) c w h e0
  rw [hv, he] at this
  exact this

end Go.Proofs.Ytnbjjddfcondlaa

/- Openers of lists of rows of six ints, and of ints. -/
namespace Go.Proofs.Ytnbjjddfcondlaa
open Go.ChangeShapes Go.WideShapes Go.ChangeAt Go.RowKit Go.Deep
def Sixes (w : World) (v : Value) : Prop := ∃ (a : Option Addr) (n c : Nat) (q : Nat → Nat → Int), v = .slice a n c ∧ n ≤ c ∧ c ≤ 9223372036854775807 ∧ SixAt w a n q
def Ints1 (w : World) (v : Value) : Prop := ∃ (a : Option Addr) (n c : Nat) (q : Nat → Int), v = .slice a n c ∧ n ≤ c ∧ c ≤ 9223372036854775807 ∧ IntAt w a n q
section
variable {H : Type} {enc : TypeId × Value → H} {W : World}
set_option maxRecDepth 100000 in
theorem open_sixes {b0 : Nat} {v : Value} {d : DataW H} {p : List MemPlace} (hval : Value.okWide Try.prog W .any b0 52 v) (h : DataW.Trod enc Try.prog W 0 (fun _ => true) true 52 v d p) : Sixes W v := by
  obtain ⟨a, n, c, rfl⟩ := okWide_slice Try.underlying52 hval
  obtain ⟨fuel, hf⟩ := h
  rcases open_slice Try.underlying52 hf with ⟨hcs, _⟩ | ⟨a', len, cap, m, k, D, Pl, hcs, hb, hl, hm, hmm, _, hx⟩
  · simp [Value.cells] at hcs
    obtain ⟨rfl, rfl, rfl⟩ := hcs
    exact ⟨none, 0, 0, fun _ _ => 0, rfl, by omega, by omega, .inl rfl⟩
  · simp [Value.cells] at hcs
    obtain ⟨rfl, rfl, rfl⟩ := hcs
    unfold maxLen at hm
    rcases Nat.eq_zero_or_pos n with h0 | h0
    · exact ⟨_, _, _, fun _ _ => 0, rfl, by omega, by omega, .inl h0⟩
    · have h4 : Try.prog.cellsOf 28 = 6 := by kernel_rfl
      rw [h4] at hx
      simp only [if_true] at hmm
      subst hmm
      have each : ∀ i, i < n → ∃ q : Nat → Int, ∀ j, j < 6 → W.cell? (a'.add (i * 6 + j)) = some (.int .i64 (q j)) ∧ IsI (q j) := fun i hi => by
        obtain ⟨cs', hc1, hc2⟩ := hx i (by omega)
        obtain ⟨_, hcl, hat⟩ := World.cells?_some hc1
        obtain ⟨q, hq⟩ := ints_of_array Try.underlying28 hc2 hcl
        refine ⟨q, fun j hj => ⟨?_, (hq j hj).2⟩⟩
        rw [← Go.Deep.add_add, hat j hj]
        exact (hq j hj).1
      obtain ⟨q, hq⟩ := choose_lt11 each
      obtain ⟨b, off, spot⟩ := a'
      have hspot : spot = none := by have := World.cell?_spot (hq 0 h0 0 (by omega)).1; simpa [Addr.add] using this
      subst hspot
      refine ⟨_, _, _, q, rfl, by omega, by omega, .inr ⟨b, off, rfl, fun i hi j hj => ?_⟩⟩
      have := hq i hi j hj
      rw [add_plain, ← Nat.add_assoc] at this
      exact this
set_option maxRecDepth 100000 in
theorem open_ints {b0 : Nat} {v : Value} {d : DataW H} {p : List MemPlace} (hval : Value.okWide Try.prog W .any b0 56 v) (h : DataW.Trod enc Try.prog W 0 (fun _ => true) true 56 v d p) : Ints1 W v := by
  obtain ⟨a, n, c, rfl⟩ := okWide_slice Try.underlying56 hval
  obtain ⟨fuel, hf⟩ := h
  rcases open_slice Try.underlying56 hf with ⟨hcs, _⟩ | ⟨a', len, cap, m, k, D, Pl, hcs, hb, hl, hm, hmm, _, hx⟩
  · simp [Value.cells] at hcs
    obtain ⟨rfl, rfl, rfl⟩ := hcs
    exact ⟨none, 0, 0, fun _ => 0, rfl, by omega, by omega, .inl rfl⟩
  · simp [Value.cells] at hcs
    obtain ⟨rfl, rfl, rfl⟩ := hcs
    unfold maxLen at hm
    rcases Nat.eq_zero_or_pos n with h0 | h0
    · exact ⟨_, _, _, fun _ => 0, rfl, by omega, by omega, .inl h0⟩
    · have h4 : Try.prog.cellsOf 3 = 1 := by kernel_rfl
      rw [h4] at hx
      simp only [if_true] at hmm
      subst hmm
      have each : ∀ i, i < n → ∃ z : Int, W.cell? (a'.add (i * 1)) = some (.int .i64 z) ∧ IsI z := fun i hi => by
        obtain ⟨cs', hc1, hc2⟩ := hx i (by omega)
        obtain ⟨_, hcl, hat⟩ := World.cells?_some hc1
        obtain ⟨z, hz, _, hw⟩ := DataW.trod_int Try.underlying3 hc2
        refine ⟨z, ?_, isI_of_wf hw⟩
        have := hat 0 (by omega)
        rw [hz] at this
        simpa [Addr.add] using this
      obtain ⟨q, hq⟩ := choose_lt11 each
      obtain ⟨b, off, spot⟩ := a'
      have hspot : spot = none := by have := World.cell?_spot (hq 0 h0).1; simpa [Addr.add] using this
      subst hspot
      refine ⟨_, _, _, q, rfl, by omega, by omega, .inr ⟨b, off, rfl, fun i hi => ?_⟩⟩
      have := hq i hi
      rw [Nat.mul_one, add_plain] at this
      exact this
end
end Go.Proofs.Ytnbjjddfcondlaa

/- The walk of MemoryFrees. -/
namespace Go.Proofs.Ytnbjjddfcondlaa
open Go.RowKit

set_option maxRecDepth 1000000 in
set_option maxHeartbeats 4000000 in
theorem MemoryFrees_walk (w : World) (v0 : Value) (op0 : Sixes w v0) (v1 : Value) (op1 : Ints1 w v1) (i2 : Int) (hi2 : IsI i2) (i3 : Int) (hi3 : IsI i3) : Calls Try.prog 5 #[v0, v1, .int .i64 i2, .int .i64 i3] w fun e w' => e = .returned (.bool true) ∧ Ext w w' := by
  obtain ⟨a0, n0, c0, q, rfl, hnc, hcm, hS6⟩ := op0
  obtain ⟨a1, n1, c1, q1, rfl, hnc1, hcm1, hI1⟩ := op1
  refine calls_cw 248 [(3, .int .i64 (i3 : Int)), (2, .int .i64 (i2 : Int)), (1, .slice a1 n1 c1), (0, .slice a0 n0 c0)] Try.func5 rfl Try.ntmps5 (by kernel_rfl) (by kernel_rfl) (fun L => ?_)
  have hE : Ext w w := Ext.refl w
  refine cw_seq ?_
  refine cw_plain ?_
  refine pl_take (.bool false) rfl (by kernel_rfl) (by kernel_rfl) (by kernel_rfl) (by kernel_rfl) ?_
  refine pl_nil ?_
  refine qw_then ?_
  refine cw_seq ?_
  refine cw_plain ?_
  refine pl_step rfl (by kernel_rfl) (by kernel_rfl) (by kernel_rfl) (sn_call (f := 10) (args := #[]) (by kernel_rfl) ((sane_c _).mono ?_))
  rintro e w5 ⟨rfl, hb⟩
  replace hE := hE.trans hb
  have hs6 := hb.size
  clear hb
  refine ⟨_, rfl, ?_⟩
  refine pl_take (.bool true) rfl (by kernel_rfl) (by kernel_rfl) (by kernel_rfl) (by kernel_rfl) ?_
  refine pl_nil ?_
  refine qw_then ?_
  refine cw_seq ?_
  refine cw_seq ?_
  refine cw_plain ?_
  refine pl_take (.bool true) rfl (by kernel_rfl) (by kernel_rfl) (by kernel_rfl) (by kernel_rfl) ?_
  refine pl_take (.bool false) rfl (by kernel_rfl) (by kernel_rfl) (by kernel_rfl) (by kernel_rfl) ?_
  refine pl_nil ?_
  refine qw_then ?_
  refine cw_f (by kernel_rfl) ?_
  refine cw_skip ?_
  refine qw_then ?_
  refine cw_seq ?_
  refine cw_plain ?_
  refine pl_take (.slice a0 n0 c0) rfl (by kernel_rfl) (by kernel_rfl) (by kernel_rfl) (by kernel_rfl) ?_
  refine pl_step rfl (by kernel_rfl) (by kernel_rfl) (by kernel_rfl) (sn_call (f := 26) (args := #[.slice a0 n0 c0]) (by kernel_rfl) ((Options_c _ _ hS6 hE).mono ?_))
  rintro e w7 ⟨aO, kO, cO, po, rfl, hk8, hO, hgo, hb⟩
  replace hE := hE.trans hb
  have hs8 := hb.size
  clear hb
  have hX9 : Ext w7 w7 := Ext.refl _
  obtain ⟨hO1, hO2, hO3⟩ := hO
  refine ⟨_, rfl, ?_⟩
  refine pl_take (.slice aO kO cO) rfl (by kernel_rfl) (by kernel_rfl) (by kernel_rfl) (by kernel_rfl) ?_
  refine pl_nil ?_
  refine qw_then ?_
  refine cw_seq ?_
  refine cw_plain ?_
  refine pl_take (.slice none 0 0) rfl (by kernel_rfl) (by kernel_rfl) (by kernel_rfl) (by kernel_rfl) ?_
  refine pl_nil ?_
  refine qw_then ?_
  refine cw_seq ?_
  refine cw_plain ?_
  refine pl_take (.slice none 0 0) rfl (by kernel_rfl) (by kernel_rfl) (by kernel_rfl) (by kernel_rfl) ?_
  refine pl_nil ?_
  refine qw_then ?_
  refine cw_seq ?_
  refine cw_seq ?_
  refine cw_plain ?_
  refine pl_take (.int .i64 0) rfl (by kernel_rfl) (by kernel_rfl) (by kernel_rfl) (by kernel_rfl) ?_
  refine pl_nil ?_
  refine qw_then ?_
  refine cw_clean [1, 2, 3, 9, 10, 11, 12, 13] (ws' := [(1, .slice a1 n1 c1), (2, .int .i64 (i2 : Int)), (3, .int .i64 (i3 : Int)), (9, .bool true), (10, .slice aO kO cO), (11, .slice none 0 0), (12, .slice none 0 0), (13, .int .i64 0)]) (by kernel_rfl) (fun L => ?_)
  refine cw_block ?_
  refine cw_loop [1, 2, 3, 9, 10, 11, 12, 13] (fun ws' wr m => ∃ i : Nat, ∃ aW : Option Addr, ∃ cW : Nat, ∃ aR : Option Addr, ∃ cR : Nat, ∃ rl : List Mem.St, ws' = [(1, .slice a1 n1 c1), (2, .int .i64 (i2 : Int)), (3, .int .i64 (i3 : Int)), (9, .bool true), (10, .slice aO kO cO), (11, .slice aW i cW), (12, .slice aR i cR), (13, .int .i64 (((i : Nat) : Int) : Int))] ∧ m = kO - i ∧ w7.heap.size ≤ wr.heap.size ∧ Ext w wr ∧ Ext w7 wr ∧ OwnL stR w7.heap.size 26 4 (.slice aW i cW) wr (Mem.wsL po i) ∧ OwnL stR w7.heap.size 26 4 (.slice aR i cR) wr rl ∧ i ≤ kO ∧ rl.length = i ∧ Mem.RelL (Mem.wsL po i) rl ∧ Apart (.slice aW i cW) (.slice aR i cR)) (ws0 := [(1, .slice a1 n1 c1), (2, .int .i64 (i2 : Int)), (3, .int .i64 (i3 : Int)), (9, .bool true), (10, .slice aO kO cO), (11, .slice none 0 0), (12, .slice none 0 0), (13, .int .i64 0)]) (by kernel_rfl) _ ⟨0, none, 0, none, 0, [], rfl, rfl, Nat.le_refl _, hE, hX9, OwnL.nil _ _ _ _ _, OwnL.nil _ _ _ _ _, Nat.zero_le _, rfl, (by unfold Mem.wsL; rw [List.take_zero]; exact trivial), (fun b h => by cases h)⟩ ?_
  clear hE hX9
  rintro m12 L ws w11 ⟨i, aW, cW, aR, cR, rl, rfl, rfl, hs10, hE, hX9, ownW, ownR, hi, hrl, hrel, hap⟩
  by_cases hlt : i < kO
  ·
    obtain ⟨bO, oO, haO, hxO⟩ := hO3.resolve_left (by omega)
    obtain rfl := haO
    obtain ⟨q0, q2, q3, q4, q5, q6, q7, q8, aS, nS, kS, q9, hSl⟩ := hxO i _ (opN_at (show i < po.length by omega))
    obtain ⟨hid, hcan⟩ := hgo.2 i _ (opN_at (show i < po.length by omega))
    have hcp := (Mem.can_parts hcan).2.2.2.2
    have hln := hSl.1
    obtain ⟨bS, oS, haS, _, hxS⟩ := hSl.parts
    have hbW := ownW.lt; have hbR := ownR.lt
    have hwn := Mem.wsL_next (show i < po.length by omega)
    refine cw_seq ?_
    refine cw_seq ?_
    refine cw_plain ?_
    refine pl_take (.int .i64 (((i : Nat) : Int) : Int)) rfl (by kernel_rfl) (by kernel_rfl) (by kernel_rfl) (by kernel_rfl) ?_
    refine pl_take (.slice (some ⟨bO, oO, none⟩) kO cO) rfl (by kernel_rfl) (by kernel_rfl) (by kernel_rfl) (by kernel_rfl) ?_
    refine pl_take (.int .i64 (((kO : Nat) : Int) : Int)) rfl (by kernel_rfl) (by kernel_rfl) (by kernel_rfl) (by kernel_rfl) ?_
    refine pl_take (.bool true) rfl (by kernel_rfl) (by kernel_rfl) (by kernel_rfl) (ev_dec (show _ = Result.ok (Next.value (Value.bool (decide ((((i : Nat) : Int) : Int) < (((kO : Nat) : Int) : Int))))) _ from by kernel_rfl) (by omega)) ?_
    refine pl_nil ?_
    refine qw_then ?_
    refine cw_t (by kernel_rfl) ?_
    refine cw_skip ?_
    refine qw_then ?_
    refine cw_seq ?_
    refine cw_block ?_
    refine cw_seq ?_
    refine cw_plain ?_
    refine pl_take (.slice (some ⟨bO, oO, none⟩) kO cO) rfl (by kernel_rfl) (by kernel_rfl) (by kernel_rfl) (by kernel_rfl) ?_
    refine pl_take (.int .i64 (((i : Nat) : Int) : Int)) rfl (by kernel_rfl) (by kernel_rfl) (by kernel_rfl) (by kernel_rfl) ?_
    refine pl_take (.pointer (some ⟨bO, oO + i * 9, none⟩)) rfl (by kernel_rfl) (by kernel_rfl) (by kernel_rfl) (ex_index (p := .slice (some ⟨bO, oO, none⟩) kO cO) (i := .int .i64 ((i : Nat) : Int)) rfl (by kernel_rfl) (by kernel_rfl) (ix50 (k := i) (by omega))) ?_
    refine pl_take (.agg #[.int .i64 ((opN po i).id : Int), .int .i64 ((opN po i).od : Int), .int .i64 ((opN po i).cl : Int), .int .i64 ((opN po i).sa : Int), .int .i64 ((opN po i).fr : Int), .int .i64 ((opN po i).to : Int), .int .i64 ((opN po i).lk : Int), .int .i64 ((opN po i).sz : Int), .slice aS nS kS]) rfl (by kernel_rfl) (by kernel_rfl) (by kernel_rfl) (ex_load rfl (by kernel_rfl) (ld31 ((hX9.cell q0)) ((hX9.cell q2)) ((hX9.cell q3)) ((hX9.cell q4)) ((hX9.cell q5)) ((hX9.cell q6)) ((hX9.cell q7)) ((hX9.cell q8)) ((hX9.cell q9)))) ?_
    refine pl_step rfl (by kernel_rfl) (by kernel_rfl) (by kernel_rfl) (sn_call (f := 28) (args := #[.agg #[.int .i64 ((opN po i).id : Int), .int .i64 ((opN po i).od : Int), .int .i64 ((opN po i).cl : Int), .int .i64 ((opN po i).sa : Int), .int .i64 ((opN po i).fr : Int), .int .i64 ((opN po i).to : Int), .int .i64 ((opN po i).lk : Int), .int .i64 ((opN po i).sz : Int), .slice aS nS kS]]) (by kernel_rfl) ((Worst_y (o := (opN po i)) _ _ hSl hX9 hcan).mono ?_))
    rintro e w13 ⟨rfl, hb⟩
    replace hE := hE.trans hb
    replace hX9 := hX9.trans hb
    replace ownW := ownW.ext hb
    replace ownR := ownR.ext hb
    have hs14 := hb.size
    clear hb
    refine ⟨_, rfl, ?_⟩
    refine pl_take (.tuple #[.agg #[.int .i64 ((Mem.wst (opN po i)).im : Int), .int .i64 ((Mem.wst (opN po i)).un : Int), .int .i64 ((Mem.wst (opN po i)).fr : Int), .int .i64 ((Mem.wst (opN po i)).to : Int)], .int .i64 0]) rfl (by kernel_rfl) (by kernel_rfl) (by kernel_rfl) (by kernel_rfl) ?_
    refine pl_take (.agg #[.int .i64 ((Mem.wst (opN po i)).im : Int), .int .i64 ((Mem.wst (opN po i)).un : Int), .int .i64 ((Mem.wst (opN po i)).fr : Int), .int .i64 ((Mem.wst (opN po i)).to : Int)]) rfl (by kernel_rfl) (by kernel_rfl) (by kernel_rfl) (by kernel_rfl) ?_
    refine pl_take (.int .i64 0) rfl (by kernel_rfl) (by kernel_rfl) (by kernel_rfl) (by kernel_rfl) ?_
    refine pl_step rfl (by kernel_rfl) (by kernel_rfl) (by kernel_rfl) (sn_new (us := #[.int .i64 0, .int .i64 0, .int .i64 0, .int .i64 0]) (t := 26) (by kernel_rfl) ?_)
    intro O15 X16 hO hOs hb hbx
    have hzO15 := hO; have hyO15 := hOs; clear hO hOs
    have bO15_0 : BoxAt X16 O15 0 (.int .i64 0) := hbx 0 _ rfl
    have bO15_1 : BoxAt X16 O15 1 (.int .i64 0) := hbx 1 _ rfl
    have bO15_2 : BoxAt X16 O15 2 (.int .i64 0) := hbx 2 _ rfl
    have bO15_3 : BoxAt X16 O15 3 (.int .i64 0) := hbx 3 _ rfl
    clear hbx
    replace hE := hE.trans hb
    replace hX9 := hX9.trans hb
    replace ownW := ownW.ext hb
    replace ownR := ownR.ext hb
    have hs17 := hb.size
    clear hb
    have lt18 := bO15_0.lt
    refine pl_put rfl (by kernel_rfl) (by kernel_rfl) (sn_setK4 (O := O15) (j := 0) (v0 := .int .i64 ((Mem.wst (opN po i)).im : Int)) (v1 := .int .i64 ((Mem.wst (opN po i)).un : Int)) (v2 := .int .i64 ((Mem.wst (opN po i)).fr : Int)) (v3 := .int .i64 ((Mem.wst (opN po i)).to : Int)) (ex_store (p := .pointer (some ⟨O15, 0, none⟩)) (v := .agg #[.int .i64 ((Mem.wst (opN po i)).im : Int), .int .i64 ((Mem.wst (opN po i)).un : Int), .int .i64 ((Mem.wst (opN po i)).fr : Int), .int .i64 ((Mem.wst (opN po i)).to : Int)]) rfl (by kernel_rfl) (by kernel_rfl) (st26 bO15_0.1 bO15_0.2 bO15_1.1 bO15_1.2 bO15_2.1 bO15_2.2 bO15_3.1 bO15_3.2)) bO15_0 bO15_1 bO15_2 bO15_3 ?_)
    intro X19 ho hv0 hv1 hv2 hv3 hk
    replace hE := ho.ext hE (Nat.le_trans (Nat.le_trans hs6 (Nat.le_trans hs8 (Nat.le_trans hs10 hs14))) (Nat.le_of_eq hzO15))
    replace hX9 := ho.ext hX9 (Nat.le_trans (Nat.le_trans hs10 hs14) (Nat.le_of_eq hzO15))
    replace ownW := ownW.turn ho (own_not2 hbW (Nat.le_trans hs14 (Nat.le_of_eq hzO15))) (fun _ _ _ h => by rw [h.2]; exact fun b hb => by cases hb)
    replace ownR := ownR.turn ho (own_not2 hbR (Nat.le_trans hs14 (Nat.le_of_eq hzO15))) (fun _ _ _ h => by rw [h.2]; exact fun b hb => by cases hb)
    have hs20 : X16.heap.size ≤ X19.heap.size := Nat.le_of_eq ho.size.symm
    clear ho hk bO15_0 bO15_1 bO15_2 bO15_3
    have bO15_0 := hv0; clear hv0
    have bO15_1 := hv1; clear hv1
    have bO15_2 := hv2; clear hv2
    have bO15_3 := hv3; clear hv3
    refine pl_take (.int .i64 0) rfl (by kernel_rfl) (by kernel_rfl) (by kernel_rfl) (by kernel_rfl) ?_
    refine pl_nil ?_
    refine qw_then ?_
    refine cw_clean [1, 2, 3, 9, 10, 11, 12, 13, 14, 15] (ws' := [(1, .slice a1 n1 c1), (2, .int .i64 (i2 : Int)), (3, .int .i64 (i3 : Int)), (9, .bool true), (10, .slice (some ⟨bO, oO, none⟩) kO cO), (11, .slice aW i cW), (12, .slice aR i cR), (13, .int .i64 (((i : Nat) : Int) : Int)), (14, .pointer (some ⟨O15, 0, none⟩)), (15, .int .i64 0)]) (by kernel_rfl) (fun L => ?_)
    refine cw_seq ?_
    refine cw_seq ?_
    refine cw_draw [(some 55, [15], []), (some 56, [55], [0]), (some 57, [56], [1]), (some 58, [14, 57], [2]), (some 59, [58, 57], [3, 2]), (some 60, [10, 57], [2]), (some 61, [13, 57], [2]), (some 62, [60, 61, 57], [5, 6, 2]), (some 63, [62, 57], [7, 2]), (some 64, [63, 57], [8, 2]), (some 65, [59, 64, 57], [4, 9, 2]), (some 66, [57, 65], [2, 10]), (some 67, [66], [11, 2]), (some 68, [14, 67], [12]), (some 69, [68, 67], [13, 12]), (some 70, [10, 67], [12]), (some 71, [13, 67], [12]), (some 72, [70, 71, 67], [15, 16, 12]), (some 73, [72, 67], [17, 12]), (some 74, [73, 67], [18, 12]), (some 75, [69, 74, 67], [14, 19, 12]), (some 76, [67, 75], [12, 20]), (some 77, [76], [21, 12]), (some 78, [14, 77], [22]), (some 79, [78, 77], [23, 22]), (some 80, [79, 77], [24, 22]), (some 81, [10, 77], [22]), (some 82, [13, 77], [22]), (some 83, [81, 82, 77], [26, 27, 22]), (some 84, [83, 77], [28, 22]), (some 85, [84, 77], [29, 22]), (some 86, [85, 77], [30, 22]), (some 87, [80, 86, 77], [25, 31, 22]), (some 88, [77, 87], [22, 32])] (fun w' => w'.cell? ⟨O15, 0, none⟩ = some (.int .i64 ((Mem.wst (opN po i)).im : Int)) ∧ w'.cell? ⟨bO, oO + i * 9, none⟩ = some (.int .i64 ((opN po i).id : Int)) ∧ w'.cell? ⟨O15, 1, none⟩ = some (.int .i64 ((Mem.wst (opN po i)).un : Int)) ∧ w'.cell? ⟨bO, oO + i * 9 + 7, none⟩ = some (.int .i64 ((opN po i).sz : Int)) ∧ w'.cell? ⟨O15, 2, none⟩ = some (.int .i64 ((Mem.wst (opN po i)).fr : Int)) ∧ w'.cell? ⟨bO, oO + i * 9 + 4, none⟩ = some (.int .i64 ((opN po i).fr : Int))) (by kernel_rfl) (by kernel_rfl) (by kernel_rfl) (by kernel_rfl) ((calm_then (calm_then (calm_block (calm_then (calm_then (calm_block (calm_then calm_body)))))))) (⟨bO15_0.1, (hX9.cell q0), bO15_1.1, (hX9.cell q8), bO15_2.1, (hX9.cell q5)⟩) (fun ops Q X21 hb hL hR hK => ?_)
    replace hE := hE.trans hb
    replace hX9 := hX9.trans hb
    replace ownW := ownW.ext hb
    replace ownR := ownR.ext hb
    replace bO15_0 := BoxAt.ext hb bO15_0
    replace bO15_1 := BoxAt.ext hb bO15_1
    replace bO15_2 := BoxAt.ext hb bO15_2
    replace bO15_3 := BoxAt.ext hb bO15_3
    have hs22 := hb.size
    clear hb
    refine wd_take 0 (.int .i64 0) hR rfl (by kernel_rfl) rfl (by kernel_rfl) (fun w _ => by kernel_rfl) (⟨bO15_0.1, (hX9.cell q0), bO15_1.1, (hX9.cell q8), bO15_2.1, (hX9.cell q5)⟩) ?_
    refine wd_take 1 (.bool false) hR rfl (by kernel_rfl) rfl (by kernel_rfl) (fun w _ => by kernel_rfl) (⟨bO15_0.1, (hX9.cell q0), bO15_1.1, (hX9.cell q8), bO15_2.1, (hX9.cell q5)⟩) ?_
    refine wd_take 2 (.bool false) hR rfl (by kernel_rfl) rfl (by kernel_rfl) (fun w _ => by kernel_rfl) (⟨bO15_0.1, (hX9.cell q0), bO15_1.1, (hX9.cell q8), bO15_2.1, (hX9.cell q5)⟩) ?_
    refine wd_take 3 (.pointer (some ⟨O15, 0, none⟩)) hR rfl (by kernel_rfl) rfl (by kernel_rfl) (fun w _ => by kernel_rfl) (⟨bO15_0.1, (hX9.cell q0), bO15_1.1, (hX9.cell q8), bO15_2.1, (hX9.cell q5)⟩) ?_
    refine wd_take 4 (.int .i64 ((Mem.wst (opN po i)).im : Int)) hR rfl (by kernel_rfl) rfl (by kernel_rfl) (fun w hS => ex_load rfl (by kernel_rfl) (ld3 (hS.1))) (⟨bO15_0.1, (hX9.cell q0), bO15_1.1, (hX9.cell q8), bO15_2.1, (hX9.cell q5)⟩) ?_
    refine wd_take 5 (.slice (some ⟨bO, oO, none⟩) kO cO) hR rfl (by kernel_rfl) rfl (by kernel_rfl) (fun w _ => by kernel_rfl) (⟨bO15_0.1, (hX9.cell q0), bO15_1.1, (hX9.cell q8), bO15_2.1, (hX9.cell q5)⟩) ?_
    refine wd_take 6 (.int .i64 (((i : Nat) : Int) : Int)) hR rfl (by kernel_rfl) rfl (by kernel_rfl) (fun w _ => by kernel_rfl) (⟨bO15_0.1, (hX9.cell q0), bO15_1.1, (hX9.cell q8), bO15_2.1, (hX9.cell q5)⟩) ?_
    refine wd_take 7 (.pointer (some ⟨bO, oO + i * 9, none⟩)) hR rfl (by kernel_rfl) rfl (by kernel_rfl) (fun w _ => ex_index (p := .slice (some ⟨bO, oO, none⟩) kO cO) (i := .int .i64 ((i : Nat) : Int)) rfl (by kernel_rfl) (by kernel_rfl) (ix50 (k := i) (by omega))) (⟨bO15_0.1, (hX9.cell q0), bO15_1.1, (hX9.cell q8), bO15_2.1, (hX9.cell q5)⟩) ?_
    refine wd_take 8 (.pointer (some ⟨bO, oO + i * 9, none⟩)) hR rfl (by kernel_rfl) rfl (by kernel_rfl) (fun w _ => by kernel_rfl) (⟨bO15_0.1, (hX9.cell q0), bO15_1.1, (hX9.cell q8), bO15_2.1, (hX9.cell q5)⟩) ?_
    refine wd_take 9 (.int .i64 ((opN po i).id : Int)) hR rfl (by kernel_rfl) rfl (by kernel_rfl) (fun w hS => ex_load rfl (by kernel_rfl) (ld3 (hS.2.1))) (⟨bO15_0.1, (hX9.cell q0), bO15_1.1, (hX9.cell q8), bO15_2.1, (hX9.cell q5)⟩) ?_
    refine wd_take 10 (.bool false) hR rfl (by kernel_rfl) rfl (by kernel_rfl) (fun w _ => ev_nne (show _ = Result.ok (Next.value (Value.bool (((Mem.wst (opN po i)).im : Int) != ((opN po i).id : Int)))) _ from by kernel_rfl) (rfl)) (⟨bO15_0.1, (hX9.cell q0), bO15_1.1, (hX9.cell q8), bO15_2.1, (hX9.cell q5)⟩) ?_
    refine wd_take 11 (.bool false) hR rfl (by kernel_rfl) rfl (by kernel_rfl) (fun w _ => by kernel_rfl) (⟨bO15_0.1, (hX9.cell q0), bO15_1.1, (hX9.cell q8), bO15_2.1, (hX9.cell q5)⟩) ?_
    refine wd_take 12 (.bool false) hR rfl (by kernel_rfl) rfl (by kernel_rfl) (fun w _ => by kernel_rfl) (⟨bO15_0.1, (hX9.cell q0), bO15_1.1, (hX9.cell q8), bO15_2.1, (hX9.cell q5)⟩) ?_
    refine wd_take 13 (.pointer (some ⟨O15, 1, none⟩)) hR rfl (by kernel_rfl) rfl (by kernel_rfl) (fun w _ => by kernel_rfl) (⟨bO15_0.1, (hX9.cell q0), bO15_1.1, (hX9.cell q8), bO15_2.1, (hX9.cell q5)⟩) ?_
    refine wd_take 14 (.int .i64 ((Mem.wst (opN po i)).un : Int)) hR rfl (by kernel_rfl) rfl (by kernel_rfl) (fun w hS => ex_load rfl (by kernel_rfl) (ld3 (hS.2.2.1))) (⟨bO15_0.1, (hX9.cell q0), bO15_1.1, (hX9.cell q8), bO15_2.1, (hX9.cell q5)⟩) ?_
    refine wd_take 15 (.slice (some ⟨bO, oO, none⟩) kO cO) hR rfl (by kernel_rfl) rfl (by kernel_rfl) (fun w _ => by kernel_rfl) (⟨bO15_0.1, (hX9.cell q0), bO15_1.1, (hX9.cell q8), bO15_2.1, (hX9.cell q5)⟩) ?_
    refine wd_take 16 (.int .i64 (((i : Nat) : Int) : Int)) hR rfl (by kernel_rfl) rfl (by kernel_rfl) (fun w _ => by kernel_rfl) (⟨bO15_0.1, (hX9.cell q0), bO15_1.1, (hX9.cell q8), bO15_2.1, (hX9.cell q5)⟩) ?_
    refine wd_take 17 (.pointer (some ⟨bO, oO + i * 9, none⟩)) hR rfl (by kernel_rfl) rfl (by kernel_rfl) (fun w _ => ex_index (p := .slice (some ⟨bO, oO, none⟩) kO cO) (i := .int .i64 ((i : Nat) : Int)) rfl (by kernel_rfl) (by kernel_rfl) (ix50 (k := i) (by omega))) (⟨bO15_0.1, (hX9.cell q0), bO15_1.1, (hX9.cell q8), bO15_2.1, (hX9.cell q5)⟩) ?_
    refine wd_take 18 (.pointer (some ⟨bO, oO + i * 9 + 7, none⟩)) hR rfl (by kernel_rfl) rfl (by kernel_rfl) (fun w _ => by kernel_rfl) (⟨bO15_0.1, (hX9.cell q0), bO15_1.1, (hX9.cell q8), bO15_2.1, (hX9.cell q5)⟩) ?_
    refine wd_take 19 (.int .i64 ((opN po i).sz : Int)) hR rfl (by kernel_rfl) rfl (by kernel_rfl) (fun w hS => ex_load rfl (by kernel_rfl) (ld3 (hS.2.2.2.1))) (⟨bO15_0.1, (hX9.cell q0), bO15_1.1, (hX9.cell q8), bO15_2.1, (hX9.cell q5)⟩) ?_
    refine wd_take 20 (.bool false) hR rfl (by kernel_rfl) rfl (by kernel_rfl) (fun w _ => ev_nne (show _ = Result.ok (Next.value (Value.bool (((Mem.wst (opN po i)).un : Int) != ((opN po i).sz : Int)))) _ from by kernel_rfl) (rfl)) (⟨bO15_0.1, (hX9.cell q0), bO15_1.1, (hX9.cell q8), bO15_2.1, (hX9.cell q5)⟩) ?_
    refine wd_take 21 (.bool false) hR rfl (by kernel_rfl) rfl (by kernel_rfl) (fun w _ => by kernel_rfl) (⟨bO15_0.1, (hX9.cell q0), bO15_1.1, (hX9.cell q8), bO15_2.1, (hX9.cell q5)⟩) ?_
    refine wd_take 22 (.bool false) hR rfl (by kernel_rfl) rfl (by kernel_rfl) (fun w _ => by kernel_rfl) (⟨bO15_0.1, (hX9.cell q0), bO15_1.1, (hX9.cell q8), bO15_2.1, (hX9.cell q5)⟩) ?_
    refine wd_take 23 (.pointer (some ⟨O15, 2, none⟩)) hR rfl (by kernel_rfl) rfl (by kernel_rfl) (fun w _ => by kernel_rfl) (⟨bO15_0.1, (hX9.cell q0), bO15_1.1, (hX9.cell q8), bO15_2.1, (hX9.cell q5)⟩) ?_
    refine wd_take 24 (.pointer (some ⟨O15, 2, none⟩)) hR rfl (by kernel_rfl) rfl (by kernel_rfl) (fun w _ => by kernel_rfl) (⟨bO15_0.1, (hX9.cell q0), bO15_1.1, (hX9.cell q8), bO15_2.1, (hX9.cell q5)⟩) ?_
    refine wd_take 25 (.int .i64 ((Mem.wst (opN po i)).fr : Int)) hR rfl (by kernel_rfl) rfl (by kernel_rfl) (fun w hS => ex_load rfl (by kernel_rfl) (ld3 (hS.2.2.2.2.1))) (⟨bO15_0.1, (hX9.cell q0), bO15_1.1, (hX9.cell q8), bO15_2.1, (hX9.cell q5)⟩) ?_
    refine wd_take 26 (.slice (some ⟨bO, oO, none⟩) kO cO) hR rfl (by kernel_rfl) rfl (by kernel_rfl) (fun w _ => by kernel_rfl) (⟨bO15_0.1, (hX9.cell q0), bO15_1.1, (hX9.cell q8), bO15_2.1, (hX9.cell q5)⟩) ?_
    refine wd_take 27 (.int .i64 (((i : Nat) : Int) : Int)) hR rfl (by kernel_rfl) rfl (by kernel_rfl) (fun w _ => by kernel_rfl) (⟨bO15_0.1, (hX9.cell q0), bO15_1.1, (hX9.cell q8), bO15_2.1, (hX9.cell q5)⟩) ?_
    refine wd_take 28 (.pointer (some ⟨bO, oO + i * 9, none⟩)) hR rfl (by kernel_rfl) rfl (by kernel_rfl) (fun w _ => ex_index (p := .slice (some ⟨bO, oO, none⟩) kO cO) (i := .int .i64 ((i : Nat) : Int)) rfl (by kernel_rfl) (by kernel_rfl) (ix50 (k := i) (by omega))) (⟨bO15_0.1, (hX9.cell q0), bO15_1.1, (hX9.cell q8), bO15_2.1, (hX9.cell q5)⟩) ?_
    refine wd_take 29 (.pointer (some ⟨bO, oO + i * 9 + 4, none⟩)) hR rfl (by kernel_rfl) rfl (by kernel_rfl) (fun w _ => by kernel_rfl) (⟨bO15_0.1, (hX9.cell q0), bO15_1.1, (hX9.cell q8), bO15_2.1, (hX9.cell q5)⟩) ?_
    refine wd_take 30 (.pointer (some ⟨bO, oO + i * 9 + 4, none⟩)) hR rfl (by kernel_rfl) rfl (by kernel_rfl) (fun w _ => by kernel_rfl) (⟨bO15_0.1, (hX9.cell q0), bO15_1.1, (hX9.cell q8), bO15_2.1, (hX9.cell q5)⟩) ?_
    refine wd_take 31 (.int .i64 ((opN po i).fr : Int)) hR rfl (by kernel_rfl) rfl (by kernel_rfl) (fun w hS => ex_load rfl (by kernel_rfl) (ld3 (hS.2.2.2.2.2))) (⟨bO15_0.1, (hX9.cell q0), bO15_1.1, (hX9.cell q8), bO15_2.1, (hX9.cell q5)⟩) ?_
    refine wd_take 32 (.bool false) hR rfl (by kernel_rfl) rfl (by kernel_rfl) (fun w _ => ev_nne (show _ = Result.ok (Next.value (Value.bool (((Mem.wst (opN po i)).fr : Int) != ((opN po i).fr : Int)))) _ from by kernel_rfl) (rfl)) (⟨bO15_0.1, (hX9.cell q0), bO15_1.1, (hX9.cell q8), bO15_2.1, (hX9.cell q5)⟩) ?_
    refine wd_take 33 (.bool false) hR rfl (by kernel_rfl) rfl (by kernel_rfl) (fun w _ => by kernel_rfl) (⟨bO15_0.1, (hX9.cell q0), bO15_1.1, (hX9.cell q8), bO15_2.1, (hX9.cell q5)⟩) ?_
    refine wd_end hL hR hK (by kernel_rfl) ?_
    refine qw_then ?_
    refine cw_clean [1, 2, 3, 9, 10, 11, 12, 13, 14, 88] (ws' := [(1, .slice a1 n1 c1), (2, .int .i64 (i2 : Int)), (3, .int .i64 (i3 : Int)), (9, .bool true), (10, .slice (some ⟨bO, oO, none⟩) kO cO), (11, .slice aW i cW), (12, .slice aR i cR), (13, .int .i64 (((i : Nat) : Int) : Int)), (14, .pointer (some ⟨O15, 0, none⟩)), (88, .bool false)]) (by kernel_rfl) (fun L => ?_)
    refine cw_f (by kernel_rfl) ?_
    refine cw_skip ?_
    refine qw_then ?_
    refine cw_seq ?_
    refine cw_plain ?_
    refine pl_take (.slice aW i cW) rfl (by kernel_rfl) (by kernel_rfl) (by kernel_rfl) (by kernel_rfl) ?_
    refine pl_take (.agg #[.int .i64 ((Mem.wst (opN po i)).im : Int), .int .i64 ((Mem.wst (opN po i)).un : Int), .int .i64 ((Mem.wst (opN po i)).fr : Int), .int .i64 ((Mem.wst (opN po i)).to : Int)]) rfl (by kernel_rfl) (by kernel_rfl) (by kernel_rfl) (ex_load rfl (by kernel_rfl) (ld26 (bO15_0.1) (bO15_1.1) (bO15_2.1) (bO15_3.1))) ?_
    refine pl_step rfl (by kernel_rfl) (by kernel_rfl) (by kernel_rfl) (sn_newS (us := #[.int .i64 ((Mem.wst (opN po i)).im : Int), .int .i64 ((Mem.wst (opN po i)).un : Int), .int .i64 ((Mem.wst (opN po i)).fr : Int), .int .i64 ((Mem.wst (opN po i)).to : Int)]) (t := 26) (k := 1) (c := 1) (by kernel_rfl) ?_)
    intro O23 X24 hO hOs hb hbx
    have hzO23 := hO; have hyO23 := hOs; clear hO hOs
    have bO23_0 : BoxAt X24 O23 0 (.int .i64 ((Mem.wst (opN po i)).im : Int)) := hbx 0 _ rfl
    have bO23_1 : BoxAt X24 O23 1 (.int .i64 ((Mem.wst (opN po i)).un : Int)) := hbx 1 _ rfl
    have bO23_2 : BoxAt X24 O23 2 (.int .i64 ((Mem.wst (opN po i)).fr : Int)) := hbx 2 _ rfl
    have bO23_3 : BoxAt X24 O23 3 (.int .i64 ((Mem.wst (opN po i)).to : Int)) := hbx 3 _ rfl
    clear hbx
    replace hE := hE.trans hb
    replace hX9 := hX9.trans hb
    replace ownW := ownW.ext hb
    replace ownR := ownR.ext hb
    replace bO15_0 := BoxAt.ext hb bO15_0
    replace bO15_1 := BoxAt.ext hb bO15_1
    replace bO15_2 := BoxAt.ext hb bO15_2
    replace bO15_3 := BoxAt.ext hb bO15_3
    have hs25 := hb.size
    clear hb
    have lt26 := bO23_0.lt
    have hlo28 := (ownR).lt
    have hbs39 := ownW.base
    obtain ⟨g29, cap30, w31, hrun32, own33, hgr34, hgb35, hor27⟩ := own_app1h (P := Try.prog) (ty := 27) stT (ownW) (Nat.le_trans hs10 (Nat.le_trans hs14 (Nat.le_trans hs17 (Nat.le_trans hs20 (Nat.le_trans hs22 hs25))))) (k := i) (Mem.wsL_len (by omega)) (O := O23) (c := 1) (x := (Mem.wst (opN po i))) (d := [.int .i64 ((Mem.wst (opN po i)).im : Int), .int .i64 ((Mem.wst (opN po i)).un : Int), .int .i64 ((Mem.wst (opN po i)).fr : Int), .int .i64 ((Mem.wst (opN po i)).to : Int)]) (F := []) rfl (cells4 (bO23_0.1) (bO23_1.1) (bO23_2.1) (bO23_3.1)) (by simp [Value.oneCell']) ⟨rfl, rfl⟩ (fun b hb => by cases hb) (by omega) (by omega)
    refine pl_step rfl (by kernel_rfl) (by kernel_rfl) (by kernel_rfl) (sn_eff (v := .slice (some ⟨g29, 0, none⟩) (i + 1) cap30) (w' := w31) (ex_append rfl (by kernel_rfl) (by kernel_rfl) hrun32) ?_)
    replace ownR := OwnL.grown ownR hgb35 (⟨(hap).symm.kept, st_noF⟩)
    replace bO15_0 := BoxAt.grownR bO15_0 hgb35 (own_not2 hbW (Nat.le_trans hs14 (Nat.le_of_eq hzO15)))
    replace bO15_1 := BoxAt.grownR bO15_1 hgb35 (own_not2 hbW (Nat.le_trans hs14 (Nat.le_of_eq hzO15)))
    replace bO15_2 := BoxAt.grownR bO15_2 hgb35 (own_not2 hbW (Nat.le_trans hs14 (Nat.le_of_eq hzO15)))
    replace bO15_3 := BoxAt.grownR bO15_3 hgb35 (own_not2 hbW (Nat.le_trans hs14 (Nat.le_of_eq hzO15)))
    replace bO23_0 := BoxAt.grownR bO23_0 hgb35 (own_not2 hbW (Nat.le_trans (Nat.le_trans hs14 (Nat.le_trans hs17 (Nat.le_trans hs20 hs22))) (Nat.le_of_eq hzO23)))
    replace bO23_1 := BoxAt.grownR bO23_1 hgb35 (own_not2 hbW (Nat.le_trans (Nat.le_trans hs14 (Nat.le_trans hs17 (Nat.le_trans hs20 hs22))) (Nat.le_of_eq hzO23)))
    replace bO23_2 := BoxAt.grownR bO23_2 hgb35 (own_not2 hbW (Nat.le_trans (Nat.le_trans hs14 (Nat.le_trans hs17 (Nat.le_trans hs20 hs22))) (Nat.le_of_eq hzO23)))
    replace bO23_3 := BoxAt.grownR bO23_3 hgb35 (own_not2 hbW (Nat.le_trans (Nat.le_trans hs14 (Nat.le_trans hs17 (Nat.le_trans hs20 hs22))) (Nat.le_of_eq hzO23)))
    replace hE := hgr34.ext _ hE (Nat.le_trans hs6 hs8)
    replace hX9 := hgr34.ext _ hX9 (Nat.le_refl _)
    have hs36 := hgr34.size
    have hl37 := own33.base g29 rfl; have hh38 := own33.lt g29 rfl
    replace hap : Apart (.slice (some ⟨g29, 0, none⟩) (i + 1) cap30) (.slice aR i cR) := hap.grow hor27 hlo28
    have hbk41 := own33.lt
    refine pl_take (.slice (some ⟨g29, 0, none⟩) (i + 1) cap30) rfl (by kernel_rfl) (by kernel_rfl) (by kernel_rfl) (by kernel_rfl) ?_
    refine pl_nil ?_
    refine qw_then ?_
    refine cw_seq ?_
    refine cw_plain ?_
    refine pl_take (.agg #[.int .i64 ((Mem.wst (opN po i)).im : Int), .int .i64 ((Mem.wst (opN po i)).un : Int), .int .i64 ((Mem.wst (opN po i)).fr : Int), .int .i64 ((Mem.wst (opN po i)).to : Int)]) rfl (by kernel_rfl) (by kernel_rfl) (by kernel_rfl) (ex_load rfl (by kernel_rfl) (ld26 (bO15_0.1) (bO15_1.1) (bO15_2.1) (bO15_3.1))) ?_
    refine pl_step rfl (by kernel_rfl) (by kernel_rfl) (by kernel_rfl) (sn_new (us := #[.int .i64 0, .int .i64 0, .int .i64 0, .int .i64 0]) (t := 26) (by kernel_rfl) ?_)
    intro O42 X43 hO hOs hb hbx
    have hzO42 := hO; have hyO42 := hOs; clear hO hOs
    have bO42_0 : BoxAt X43 O42 0 (.int .i64 0) := hbx 0 _ rfl
    have bO42_1 : BoxAt X43 O42 1 (.int .i64 0) := hbx 1 _ rfl
    have bO42_2 : BoxAt X43 O42 2 (.int .i64 0) := hbx 2 _ rfl
    have bO42_3 : BoxAt X43 O42 3 (.int .i64 0) := hbx 3 _ rfl
    clear hbx
    replace hE := hE.trans hb
    replace hX9 := hX9.trans hb
    replace ownR := ownR.ext hb
    replace bO15_0 := BoxAt.ext hb bO15_0
    replace bO15_1 := BoxAt.ext hb bO15_1
    replace bO15_2 := BoxAt.ext hb bO15_2
    replace bO15_3 := BoxAt.ext hb bO15_3
    replace bO23_0 := BoxAt.ext hb bO23_0
    replace bO23_1 := BoxAt.ext hb bO23_1
    replace bO23_2 := BoxAt.ext hb bO23_2
    replace bO23_3 := BoxAt.ext hb bO23_3
    replace own33 := own33.ext hb
    have hs44 := hb.size
    clear hb
    have lt45 := bO42_0.lt
    refine pl_put rfl (by kernel_rfl) (by kernel_rfl) (sn_setK4 (O := O42) (j := 0) (v0 := .int .i64 ((Mem.wst (opN po i)).im : Int)) (v1 := .int .i64 ((Mem.wst (opN po i)).un : Int)) (v2 := .int .i64 ((Mem.wst (opN po i)).fr : Int)) (v3 := .int .i64 ((Mem.wst (opN po i)).to : Int)) (ex_store (p := .pointer (some ⟨O42, 0, none⟩)) (v := .agg #[.int .i64 ((Mem.wst (opN po i)).im : Int), .int .i64 ((Mem.wst (opN po i)).un : Int), .int .i64 ((Mem.wst (opN po i)).fr : Int), .int .i64 ((Mem.wst (opN po i)).to : Int)]) rfl (by kernel_rfl) (by kernel_rfl) (st26 bO42_0.1 bO42_0.2 bO42_1.1 bO42_1.2 bO42_2.1 bO42_2.2 bO42_3.1 bO42_3.2)) bO42_0 bO42_1 bO42_2 bO42_3 ?_)
    intro X46 ho hv0 hv1 hv2 hv3 hk
    replace hE := ho.ext hE (Nat.le_trans (Nat.le_trans hs6 (Nat.le_trans hs8 (Nat.le_trans hs10 (Nat.le_trans hs14 (Nat.le_trans hs17 (Nat.le_trans hs20 (Nat.le_trans hs22 (Nat.le_trans hs25 hs36)))))))) (Nat.le_of_eq hzO42))
    replace hX9 := ho.ext hX9 (Nat.le_trans (Nat.le_trans hs10 (Nat.le_trans hs14 (Nat.le_trans hs17 (Nat.le_trans hs20 (Nat.le_trans hs22 (Nat.le_trans hs25 hs36)))))) (Nat.le_of_eq hzO42))
    replace ownR := ownR.turn ho (own_not2 hbR (Nat.le_trans (Nat.le_trans hs14 (Nat.le_trans hs17 (Nat.le_trans hs20 (Nat.le_trans hs22 (Nat.le_trans hs25 hs36))))) (Nat.le_of_eq hzO42))) (fun _ _ _ h => by rw [h.2]; exact fun b hb => by cases hb)
    replace bO15_0 := ho.box (Nat.ne_of_gt (Nat.lt_of_lt_of_le lt18 (Nat.le_trans (Nat.le_trans hs20 (Nat.le_trans hs22 (Nat.le_trans hs25 hs36))) (Nat.le_of_eq hzO42)))) bO15_0
    replace bO15_1 := ho.box (Nat.ne_of_gt (Nat.lt_of_lt_of_le lt18 (Nat.le_trans (Nat.le_trans hs20 (Nat.le_trans hs22 (Nat.le_trans hs25 hs36))) (Nat.le_of_eq hzO42)))) bO15_1
    replace bO15_2 := ho.box (Nat.ne_of_gt (Nat.lt_of_lt_of_le lt18 (Nat.le_trans (Nat.le_trans hs20 (Nat.le_trans hs22 (Nat.le_trans hs25 hs36))) (Nat.le_of_eq hzO42)))) bO15_2
    replace bO15_3 := ho.box (Nat.ne_of_gt (Nat.lt_of_lt_of_le lt18 (Nat.le_trans (Nat.le_trans hs20 (Nat.le_trans hs22 (Nat.le_trans hs25 hs36))) (Nat.le_of_eq hzO42)))) bO15_3
    replace bO23_0 := ho.box (Nat.ne_of_gt (Nat.lt_of_lt_of_le lt26 (Nat.le_trans hs36 (Nat.le_of_eq hzO42)))) bO23_0
    replace bO23_1 := ho.box (Nat.ne_of_gt (Nat.lt_of_lt_of_le lt26 (Nat.le_trans hs36 (Nat.le_of_eq hzO42)))) bO23_1
    replace bO23_2 := ho.box (Nat.ne_of_gt (Nat.lt_of_lt_of_le lt26 (Nat.le_trans hs36 (Nat.le_of_eq hzO42)))) bO23_2
    replace bO23_3 := ho.box (Nat.ne_of_gt (Nat.lt_of_lt_of_le lt26 (Nat.le_trans hs36 (Nat.le_of_eq hzO42)))) bO23_3
    replace own33 := own33.turn ho (own_not2 hbk41 (Nat.le_of_eq hzO42)) (fun _ _ _ h => by rw [h.2]; exact fun b hb => by cases hb)
    have hs47 : X43.heap.size ≤ X46.heap.size := Nat.le_of_eq ho.size.symm
    clear ho hk bO42_0 bO42_1 bO42_2 bO42_3
    have bO42_0 := hv0; clear hv0
    have bO42_1 := hv1; clear hv1
    have bO42_2 := hv2; clear hv2
    have bO42_3 := hv3; clear hv3
    refine pl_nil ?_
    refine qw_then ?_
    refine cw_clean [1, 2, 3, 9, 10, 11, 12, 13, 14, 16] (ws' := [(1, .slice a1 n1 c1), (2, .int .i64 (i2 : Int)), (3, .int .i64 (i3 : Int)), (9, .bool true), (10, .slice (some ⟨bO, oO, none⟩) kO cO), (11, .slice (some ⟨g29, 0, none⟩) (i + 1) cap30), (12, .slice aR i cR), (13, .int .i64 (((i : Nat) : Int) : Int)), (14, .pointer (some ⟨O15, 0, none⟩)), (16, .pointer (some ⟨O42, 0, none⟩))]) (by kernel_rfl) (fun L => ?_)
    refine cw_seq ?_
    refine cw_seq ?_
    refine cw_plain ?_
    refine pl_take (.int .i64 0) rfl (by kernel_rfl) (by kernel_rfl) (by kernel_rfl) (by kernel_rfl) ?_
    refine pl_nil ?_
    refine qw_then ?_
    refine cw_block ?_
    refine cw_loop [1, 2, 3, 9, 10, 11, 12, 13, 14, 16, 17] (fun ws' wr m => ∃ k : Nat, ∃ x : Mem.St, ws' = [(1, .slice a1 n1 c1), (2, .int .i64 (i2 : Int)), (3, .int .i64 (i3 : Int)), (9, .bool true), (10, .slice (some ⟨bO, oO, none⟩) kO cO), (11, .slice (some ⟨g29, 0, none⟩) (i + 1) cap30), (12, .slice aR i cR), (13, .int .i64 (((i : Nat) : Int) : Int)), (14, .pointer (some ⟨O15, 0, none⟩)), (16, .pointer (some ⟨O42, 0, none⟩)), (17, .int .i64 (((k : Nat) : Int) : Int))] ∧ m = nS - k ∧ X46.heap.size ≤ wr.heap.size ∧ Ext w wr ∧ Ext w7 wr ∧ OwnL stR w7.heap.size 26 4 (.slice aR i cR) wr rl ∧ BoxAt wr O15 0 (.int .i64 ((Mem.wst (opN po i)).im : Int)) ∧ BoxAt wr O15 1 (.int .i64 ((Mem.wst (opN po i)).un : Int)) ∧ BoxAt wr O15 2 (.int .i64 ((Mem.wst (opN po i)).fr : Int)) ∧ BoxAt wr O15 3 (.int .i64 ((Mem.wst (opN po i)).to : Int)) ∧ BoxAt wr O23 0 (.int .i64 ((Mem.wst (opN po i)).im : Int)) ∧ BoxAt wr O23 1 (.int .i64 ((Mem.wst (opN po i)).un : Int)) ∧ BoxAt wr O23 2 (.int .i64 ((Mem.wst (opN po i)).fr : Int)) ∧ BoxAt wr O23 3 (.int .i64 ((Mem.wst (opN po i)).to : Int)) ∧ OwnL stR w7.heap.size 26 4 (.slice (some ⟨g29, 0, none⟩) (i + 1) cap30) wr (Mem.wsL po i ++ [Mem.wst (opN po i)]) ∧ BoxAt wr O42 0 (.int .i64 (x.im : Int)) ∧ BoxAt wr O42 1 (.int .i64 (x.un : Int)) ∧ BoxAt wr O42 2 (.int .i64 (x.fr : Int)) ∧ BoxAt wr O42 3 (.int .i64 (x.to : Int)) ∧ k ≤ nS ∧ Mem.Rel (Mem.wst (opN po i)) x) (ws0 := [(1, .slice a1 n1 c1), (2, .int .i64 (i2 : Int)), (3, .int .i64 (i3 : Int)), (9, .bool true), (10, .slice (some ⟨bO, oO, none⟩) kO cO), (11, .slice (some ⟨g29, 0, none⟩) (i + 1) cap30), (12, .slice aR i cR), (13, .int .i64 (((i : Nat) : Int) : Int)), (14, .pointer (some ⟨O15, 0, none⟩)), (16, .pointer (some ⟨O42, 0, none⟩)), (17, .int .i64 0)]) (by kernel_rfl) _ ⟨0, (Mem.wst (opN po i)), rfl, rfl, Nat.le_refl _, hE, hX9, ownR, bO15_0, bO15_1, bO15_2, bO15_3, bO23_0, bO23_1, bO23_2, bO23_3, own33, bO42_0, bO42_1, bO42_2, bO42_3, Nat.zero_le _, Mem.rel_wst hcan⟩ ?_
    clear ownR bO15_0 bO15_1 bO15_2 bO15_3 bO23_0 bO23_1 bO23_2 bO23_3 own33 bO42_0 bO42_1 bO42_2 bO42_3 hE hX9
    rintro m50 L ws w49 ⟨k, x, rfl, rfl, hs48, hE, hX9, ownR, bO15_0, bO15_1, bO15_2, bO15_3, bO23_0, bO23_1, bO23_2, bO23_3, own33, bx0, bx1, bx2, bx3, hk, hrx⟩
    by_cases hlt : k < nS
    ·
      obtain rfl := haS (by omega)
      obtain ⟨s0, s1, s2⟩ := hxS k hlt
      have hrf := Mem.rel_freed hcan (show k < (opN po i).sl.length by omega)
      have hfl : (Mem.freed (opN po i) k).to ≤ (Mem.wst (opN po i)).to := hrf.2.2.2.2
      refine cw_seq ?_
      refine cw_seq ?_
      refine cw_plain ?_
      refine pl_take (.int .i64 (((k : Nat) : Int) : Int)) rfl (by kernel_rfl) (by kernel_rfl) (by kernel_rfl) (by kernel_rfl) ?_
      refine pl_take (.slice (some ⟨bO, oO, none⟩) kO cO) rfl (by kernel_rfl) (by kernel_rfl) (by kernel_rfl) (by kernel_rfl) ?_
      refine pl_take (.int .i64 (((i : Nat) : Int) : Int)) rfl (by kernel_rfl) (by kernel_rfl) (by kernel_rfl) (by kernel_rfl) ?_
      refine pl_take (.pointer (some ⟨bO, oO + i * 9, none⟩)) rfl (by kernel_rfl) (by kernel_rfl) (by kernel_rfl) (ex_index (p := .slice (some ⟨bO, oO, none⟩) kO cO) (i := .int .i64 ((i : Nat) : Int)) rfl (by kernel_rfl) (by kernel_rfl) (ix50 (k := i) (by omega))) ?_
      refine pl_take (.pointer (some ⟨bO, oO + i * 9 + 8, none⟩)) rfl (by kernel_rfl) (by kernel_rfl) (by kernel_rfl) (by kernel_rfl) ?_
      refine pl_take (.slice (some ⟨bS, oS, none⟩) nS kS) rfl (by kernel_rfl) (by kernel_rfl) (by kernel_rfl) (ex_load rfl (by kernel_rfl) (ld29 ((hX9.cell q9)))) ?_
      refine pl_take (.int .i64 (((nS : Nat) : Int) : Int)) rfl (by kernel_rfl) (by kernel_rfl) (by kernel_rfl) (by kernel_rfl) ?_
      refine pl_take (.bool true) rfl (by kernel_rfl) (by kernel_rfl) (by kernel_rfl) (ev_dec (show _ = Result.ok (Next.value (Value.bool (decide ((((k : Nat) : Int) : Int) < (((nS : Nat) : Int) : Int))))) _ from by kernel_rfl) (by omega)) ?_
      refine pl_nil ?_
      refine qw_then ?_
      refine cw_clean [1, 2, 3, 9, 10, 11, 12, 13, 14, 16, 17, 101] (ws' := [(1, .slice a1 n1 c1), (2, .int .i64 (i2 : Int)), (3, .int .i64 (i3 : Int)), (9, .bool true), (10, .slice (some ⟨bO, oO, none⟩) kO cO), (11, .slice (some ⟨g29, 0, none⟩) (i + 1) cap30), (12, .slice aR i cR), (13, .int .i64 (((i : Nat) : Int) : Int)), (14, .pointer (some ⟨O15, 0, none⟩)), (16, .pointer (some ⟨O42, 0, none⟩)), (17, .int .i64 (((k : Nat) : Int) : Int)), (101, .bool true)]) (by kernel_rfl) (fun L => ?_)
      refine cw_t (by kernel_rfl) ?_
      refine cw_skip ?_
      refine qw_then ?_
      refine cw_seq ?_
      refine cw_block ?_
      refine cw_seq ?_
      refine cw_plain ?_
      refine pl_take (.slice (some ⟨bO, oO, none⟩) kO cO) rfl (by kernel_rfl) (by kernel_rfl) (by kernel_rfl) (by kernel_rfl) ?_
      refine pl_take (.int .i64 (((i : Nat) : Int) : Int)) rfl (by kernel_rfl) (by kernel_rfl) (by kernel_rfl) (by kernel_rfl) ?_
      refine pl_take (.pointer (some ⟨bO, oO + i * 9, none⟩)) rfl (by kernel_rfl) (by kernel_rfl) (by kernel_rfl) (ex_index (p := .slice (some ⟨bO, oO, none⟩) kO cO) (i := .int .i64 ((i : Nat) : Int)) rfl (by kernel_rfl) (by kernel_rfl) (ix50 (k := i) (by omega))) ?_
      refine pl_take (.agg #[.int .i64 ((opN po i).id : Int), .int .i64 ((opN po i).od : Int), .int .i64 ((opN po i).cl : Int), .int .i64 ((opN po i).sa : Int), .int .i64 ((opN po i).fr : Int), .int .i64 ((opN po i).to : Int), .int .i64 ((opN po i).lk : Int), .int .i64 ((opN po i).sz : Int), .slice (some ⟨bS, oS, none⟩) nS kS]) rfl (by kernel_rfl) (by kernel_rfl) (by kernel_rfl) (ex_load rfl (by kernel_rfl) (ld31 ((hX9.cell q0)) ((hX9.cell q2)) ((hX9.cell q3)) ((hX9.cell q4)) ((hX9.cell q5)) ((hX9.cell q6)) ((hX9.cell q7)) ((hX9.cell q8)) ((hX9.cell q9)))) ?_
      refine pl_take (.int .i64 (((k : Nat) : Int) : Int)) rfl (by kernel_rfl) (by kernel_rfl) (by kernel_rfl) (by kernel_rfl) ?_
      refine pl_step rfl (by kernel_rfl) (by kernel_rfl) (by kernel_rfl) (sn_call (f := 30) (args := #[.agg #[.int .i64 ((opN po i).id : Int), .int .i64 ((opN po i).od : Int), .int .i64 ((opN po i).cl : Int), .int .i64 ((opN po i).sa : Int), .int .i64 ((opN po i).fr : Int), .int .i64 ((opN po i).to : Int), .int .i64 ((opN po i).lk : Int), .int .i64 ((opN po i).sz : Int), .slice (some ⟨bS, oS, none⟩) nS kS], .int .i64 (((k : Nat) : Int) : Int)]) (by kernel_rfl) ((Freed_y (o := (opN po i)) k _ _ hSl hX9 hcan (by omega)).mono ?_))
      rintro e w51 ⟨rfl, hb⟩
      replace hE := hE.trans hb
      replace hX9 := hX9.trans hb
      replace ownR := ownR.ext hb
      replace bO15_0 := BoxAt.ext hb bO15_0
      replace bO15_1 := BoxAt.ext hb bO15_1
      replace bO15_2 := BoxAt.ext hb bO15_2
      replace bO15_3 := BoxAt.ext hb bO15_3
      replace bO23_0 := BoxAt.ext hb bO23_0
      replace bO23_1 := BoxAt.ext hb bO23_1
      replace bO23_2 := BoxAt.ext hb bO23_2
      replace bO23_3 := BoxAt.ext hb bO23_3
      replace own33 := own33.ext hb
      replace bx0 := BoxAt.ext hb bx0
      replace bx1 := BoxAt.ext hb bx1
      replace bx2 := BoxAt.ext hb bx2
      replace bx3 := BoxAt.ext hb bx3
      have hs52 := hb.size
      clear hb
      refine ⟨_, rfl, ?_⟩
      refine pl_take (.tuple #[.agg #[.int .i64 ((Mem.freed (opN po i) k).im : Int), .int .i64 ((Mem.freed (opN po i) k).un : Int), .int .i64 ((Mem.freed (opN po i) k).fr : Int), .int .i64 ((Mem.freed (opN po i) k).to : Int)], .int .i64 0]) rfl (by kernel_rfl) (by kernel_rfl) (by kernel_rfl) (by kernel_rfl) ?_
      refine pl_take (.agg #[.int .i64 ((Mem.freed (opN po i) k).im : Int), .int .i64 ((Mem.freed (opN po i) k).un : Int), .int .i64 ((Mem.freed (opN po i) k).fr : Int), .int .i64 ((Mem.freed (opN po i) k).to : Int)]) rfl (by kernel_rfl) (by kernel_rfl) (by kernel_rfl) (by kernel_rfl) ?_
      refine pl_take (.int .i64 0) rfl (by kernel_rfl) (by kernel_rfl) (by kernel_rfl) (by kernel_rfl) ?_
      refine pl_step rfl (by kernel_rfl) (by kernel_rfl) (by kernel_rfl) (sn_new (us := #[.int .i64 0, .int .i64 0, .int .i64 0, .int .i64 0]) (t := 26) (by kernel_rfl) ?_)
      intro O53 X54 hO hOs hb hbx
      have hzO53 := hO; have hyO53 := hOs; clear hO hOs
      have bO53_0 : BoxAt X54 O53 0 (.int .i64 0) := hbx 0 _ rfl
      have bO53_1 : BoxAt X54 O53 1 (.int .i64 0) := hbx 1 _ rfl
      have bO53_2 : BoxAt X54 O53 2 (.int .i64 0) := hbx 2 _ rfl
      have bO53_3 : BoxAt X54 O53 3 (.int .i64 0) := hbx 3 _ rfl
      clear hbx
      replace hE := hE.trans hb
      replace hX9 := hX9.trans hb
      replace ownR := ownR.ext hb
      replace bO15_0 := BoxAt.ext hb bO15_0
      replace bO15_1 := BoxAt.ext hb bO15_1
      replace bO15_2 := BoxAt.ext hb bO15_2
      replace bO15_3 := BoxAt.ext hb bO15_3
      replace bO23_0 := BoxAt.ext hb bO23_0
      replace bO23_1 := BoxAt.ext hb bO23_1
      replace bO23_2 := BoxAt.ext hb bO23_2
      replace bO23_3 := BoxAt.ext hb bO23_3
      replace own33 := own33.ext hb
      replace bx0 := BoxAt.ext hb bx0
      replace bx1 := BoxAt.ext hb bx1
      replace bx2 := BoxAt.ext hb bx2
      replace bx3 := BoxAt.ext hb bx3
      have hs55 := hb.size
      clear hb
      have lt56 := bO53_0.lt
      refine pl_put rfl (by kernel_rfl) (by kernel_rfl) (sn_setK4 (O := O53) (j := 0) (v0 := .int .i64 ((Mem.freed (opN po i) k).im : Int)) (v1 := .int .i64 ((Mem.freed (opN po i) k).un : Int)) (v2 := .int .i64 ((Mem.freed (opN po i) k).fr : Int)) (v3 := .int .i64 ((Mem.freed (opN po i) k).to : Int)) (ex_store (p := .pointer (some ⟨O53, 0, none⟩)) (v := .agg #[.int .i64 ((Mem.freed (opN po i) k).im : Int), .int .i64 ((Mem.freed (opN po i) k).un : Int), .int .i64 ((Mem.freed (opN po i) k).fr : Int), .int .i64 ((Mem.freed (opN po i) k).to : Int)]) rfl (by kernel_rfl) (by kernel_rfl) (st26 bO53_0.1 bO53_0.2 bO53_1.1 bO53_1.2 bO53_2.1 bO53_2.2 bO53_3.1 bO53_3.2)) bO53_0 bO53_1 bO53_2 bO53_3 ?_)
      intro X57 ho hv0 hv1 hv2 hv3 hk
      replace hE := ho.ext hE (Nat.le_trans (Nat.le_trans hs6 (Nat.le_trans hs8 (Nat.le_trans hs10 (Nat.le_trans hs14 (Nat.le_trans hs17 (Nat.le_trans hs20 (Nat.le_trans hs22 (Nat.le_trans hs25 (Nat.le_trans hs36 (Nat.le_trans hs44 (Nat.le_trans hs47 (Nat.le_trans hs48 hs52)))))))))))) (Nat.le_of_eq hzO53))
      replace hX9 := ho.ext hX9 (Nat.le_trans (Nat.le_trans hs10 (Nat.le_trans hs14 (Nat.le_trans hs17 (Nat.le_trans hs20 (Nat.le_trans hs22 (Nat.le_trans hs25 (Nat.le_trans hs36 (Nat.le_trans hs44 (Nat.le_trans hs47 (Nat.le_trans hs48 hs52)))))))))) (Nat.le_of_eq hzO53))
      replace ownR := ownR.turn ho (own_not2 hbR (Nat.le_trans (Nat.le_trans hs14 (Nat.le_trans hs17 (Nat.le_trans hs20 (Nat.le_trans hs22 (Nat.le_trans hs25 (Nat.le_trans hs36 (Nat.le_trans hs44 (Nat.le_trans hs47 (Nat.le_trans hs48 hs52))))))))) (Nat.le_of_eq hzO53))) (fun _ _ _ h => by rw [h.2]; exact fun b hb => by cases hb)
      replace bO15_0 := ho.box (Nat.ne_of_gt (Nat.lt_of_lt_of_le lt18 (Nat.le_trans (Nat.le_trans hs20 (Nat.le_trans hs22 (Nat.le_trans hs25 (Nat.le_trans hs36 (Nat.le_trans hs44 (Nat.le_trans hs47 (Nat.le_trans hs48 hs52))))))) (Nat.le_of_eq hzO53)))) bO15_0
      replace bO15_1 := ho.box (Nat.ne_of_gt (Nat.lt_of_lt_of_le lt18 (Nat.le_trans (Nat.le_trans hs20 (Nat.le_trans hs22 (Nat.le_trans hs25 (Nat.le_trans hs36 (Nat.le_trans hs44 (Nat.le_trans hs47 (Nat.le_trans hs48 hs52))))))) (Nat.le_of_eq hzO53)))) bO15_1
      replace bO15_2 := ho.box (Nat.ne_of_gt (Nat.lt_of_lt_of_le lt18 (Nat.le_trans (Nat.le_trans hs20 (Nat.le_trans hs22 (Nat.le_trans hs25 (Nat.le_trans hs36 (Nat.le_trans hs44 (Nat.le_trans hs47 (Nat.le_trans hs48 hs52))))))) (Nat.le_of_eq hzO53)))) bO15_2
      replace bO15_3 := ho.box (Nat.ne_of_gt (Nat.lt_of_lt_of_le lt18 (Nat.le_trans (Nat.le_trans hs20 (Nat.le_trans hs22 (Nat.le_trans hs25 (Nat.le_trans hs36 (Nat.le_trans hs44 (Nat.le_trans hs47 (Nat.le_trans hs48 hs52))))))) (Nat.le_of_eq hzO53)))) bO15_3
      replace bO23_0 := ho.box (Nat.ne_of_gt (Nat.lt_of_lt_of_le lt26 (Nat.le_trans (Nat.le_trans hs36 (Nat.le_trans hs44 (Nat.le_trans hs47 (Nat.le_trans hs48 hs52)))) (Nat.le_of_eq hzO53)))) bO23_0
      replace bO23_1 := ho.box (Nat.ne_of_gt (Nat.lt_of_lt_of_le lt26 (Nat.le_trans (Nat.le_trans hs36 (Nat.le_trans hs44 (Nat.le_trans hs47 (Nat.le_trans hs48 hs52)))) (Nat.le_of_eq hzO53)))) bO23_1
      replace bO23_2 := ho.box (Nat.ne_of_gt (Nat.lt_of_lt_of_le lt26 (Nat.le_trans (Nat.le_trans hs36 (Nat.le_trans hs44 (Nat.le_trans hs47 (Nat.le_trans hs48 hs52)))) (Nat.le_of_eq hzO53)))) bO23_2
      replace bO23_3 := ho.box (Nat.ne_of_gt (Nat.lt_of_lt_of_le lt26 (Nat.le_trans (Nat.le_trans hs36 (Nat.le_trans hs44 (Nat.le_trans hs47 (Nat.le_trans hs48 hs52)))) (Nat.le_of_eq hzO53)))) bO23_3
      replace own33 := own33.turn ho (own_not2 hbk41 (Nat.le_trans (Nat.le_trans hs44 (Nat.le_trans hs47 (Nat.le_trans hs48 hs52))) (Nat.le_of_eq hzO53))) (fun _ _ _ h => by rw [h.2]; exact fun b hb => by cases hb)
      replace bx0 := ho.box (Nat.ne_of_gt (Nat.lt_of_lt_of_le lt45 (Nat.le_trans (Nat.le_trans hs47 (Nat.le_trans hs48 hs52)) (Nat.le_of_eq hzO53)))) bx0
      replace bx1 := ho.box (Nat.ne_of_gt (Nat.lt_of_lt_of_le lt45 (Nat.le_trans (Nat.le_trans hs47 (Nat.le_trans hs48 hs52)) (Nat.le_of_eq hzO53)))) bx1
      replace bx2 := ho.box (Nat.ne_of_gt (Nat.lt_of_lt_of_le lt45 (Nat.le_trans (Nat.le_trans hs47 (Nat.le_trans hs48 hs52)) (Nat.le_of_eq hzO53)))) bx2
      replace bx3 := ho.box (Nat.ne_of_gt (Nat.lt_of_lt_of_le lt45 (Nat.le_trans (Nat.le_trans hs47 (Nat.le_trans hs48 hs52)) (Nat.le_of_eq hzO53)))) bx3
      have hs58 : X54.heap.size ≤ X57.heap.size := Nat.le_of_eq ho.size.symm
      clear ho hk bO53_0 bO53_1 bO53_2 bO53_3
      have bO53_0 := hv0; clear hv0
      have bO53_1 := hv1; clear hv1
      have bO53_2 := hv2; clear hv2
      have bO53_3 := hv3; clear hv3
      refine pl_take (.int .i64 0) rfl (by kernel_rfl) (by kernel_rfl) (by kernel_rfl) (by kernel_rfl) ?_
      refine pl_nil ?_
      refine qw_then ?_
      refine cw_clean [1, 2, 3, 9, 10, 11, 12, 13, 14, 16, 17, 18, 19] (ws' := [(1, .slice a1 n1 c1), (2, .int .i64 (i2 : Int)), (3, .int .i64 (i3 : Int)), (9, .bool true), (10, .slice (some ⟨bO, oO, none⟩) kO cO), (11, .slice (some ⟨g29, 0, none⟩) (i + 1) cap30), (12, .slice aR i cR), (13, .int .i64 (((i : Nat) : Int) : Int)), (14, .pointer (some ⟨O15, 0, none⟩)), (16, .pointer (some ⟨O42, 0, none⟩)), (17, .int .i64 (((k : Nat) : Int) : Int)), (18, .pointer (some ⟨O53, 0, none⟩)), (19, .int .i64 0)]) (by kernel_rfl) (fun L => ?_)
      refine cw_seq ?_
      refine cw_seq ?_
      refine cw_draw [(some 113, [19], []), (some 114, [113], [0]), (some 115, [114], [1]), (some 116, [18, 115], [2]), (some 117, [116, 115], [3, 2]), (some 118, [117, 115], [4, 2]), (some 119, [10, 115], [2]), (some 120, [13, 115], [2]), (some 121, [119, 120, 115], [6, 7, 2]), (some 122, [121, 115], [8, 2]), (some 123, [122, 115], [9, 2]), (some 124, [17, 115], [2]), (some 125, [123, 124, 115], [10, 11, 2]), (some 126, [125, 115], [12, 2]), (some 127, [126, 115], [13, 2]), (some 128, [127, 115], [14, 2]), (some 129, [118, 128, 115], [5, 15, 2]), (some 130, [115, 129], [2, 16]), (some 131, [130], [17, 2]), (some 132, [18, 131], [18]), (some 133, [132, 131], [19, 18]), (some 134, [133, 131], [20, 18]), (some 135, [14, 131], [18]), (some 136, [135, 131], [22, 18]), (some 137, [136, 131], [23, 18]), (some 138, [134, 137, 131], [21, 24, 18]), (some 139, [131, 138], [18, 25])] (fun w' => w'.cell? ⟨O53, 3, none⟩ = some (.int .i64 ((Mem.freed (opN po i) k).to : Int)) ∧ w'.cell? ⟨bO, oO + i * 9 + 8, none⟩ = some (.slice (some ⟨bS, oS, none⟩) nS kS) ∧ w'.cell? ⟨bS, oS + k * 3 + 1 + 1, none⟩ = some (.int .i64 ((slN (opN po i).sl k).to : Int)) ∧ w'.cell? ⟨O15, 3, none⟩ = some (.int .i64 ((Mem.wst (opN po i)).to : Int))) (by kernel_rfl) (by kernel_rfl) (by kernel_rfl) (by kernel_rfl) ((calm_then (calm_then (calm_block (calm_then (calm_then (calm_block (calm_then (calm_block (calm_then (calm_then (calm_block (calm_then calm_body))))))))))))) (⟨bO53_3.1, (hX9.cell q9), (hX9.cell s2), bO15_3.1⟩) (fun ops Q X59 hb hL hR hK => ?_)
      replace hE := hE.trans hb
      replace hX9 := hX9.trans hb
      replace ownR := ownR.ext hb
      replace bO15_0 := BoxAt.ext hb bO15_0
      replace bO15_1 := BoxAt.ext hb bO15_1
      replace bO15_2 := BoxAt.ext hb bO15_2
      replace bO15_3 := BoxAt.ext hb bO15_3
      replace bO23_0 := BoxAt.ext hb bO23_0
      replace bO23_1 := BoxAt.ext hb bO23_1
      replace bO23_2 := BoxAt.ext hb bO23_2
      replace bO23_3 := BoxAt.ext hb bO23_3
      replace own33 := own33.ext hb
      replace bx0 := BoxAt.ext hb bx0
      replace bx1 := BoxAt.ext hb bx1
      replace bx2 := BoxAt.ext hb bx2
      replace bx3 := BoxAt.ext hb bx3
      replace bO53_0 := BoxAt.ext hb bO53_0
      replace bO53_1 := BoxAt.ext hb bO53_1
      replace bO53_2 := BoxAt.ext hb bO53_2
      replace bO53_3 := BoxAt.ext hb bO53_3
      have hs60 := hb.size
      clear hb
      refine wd_take 0 (.int .i64 0) hR rfl (by kernel_rfl) rfl (by kernel_rfl) (fun w _ => by kernel_rfl) (⟨bO53_3.1, (hX9.cell q9), (hX9.cell s2), bO15_3.1⟩) ?_
      refine wd_take 1 (.bool false) hR rfl (by kernel_rfl) rfl (by kernel_rfl) (fun w _ => by kernel_rfl) (⟨bO53_3.1, (hX9.cell q9), (hX9.cell s2), bO15_3.1⟩) ?_
      refine wd_take 2 (.bool false) hR rfl (by kernel_rfl) rfl (by kernel_rfl) (fun w _ => by kernel_rfl) (⟨bO53_3.1, (hX9.cell q9), (hX9.cell s2), bO15_3.1⟩) ?_
      refine wd_take 3 (.pointer (some ⟨O53, 2, none⟩)) hR rfl (by kernel_rfl) rfl (by kernel_rfl) (fun w _ => by kernel_rfl) (⟨bO53_3.1, (hX9.cell q9), (hX9.cell s2), bO15_3.1⟩) ?_
      refine wd_take 4 (.pointer (some ⟨O53, 3, none⟩)) hR rfl (by kernel_rfl) rfl (by kernel_rfl) (fun w _ => by kernel_rfl) (⟨bO53_3.1, (hX9.cell q9), (hX9.cell s2), bO15_3.1⟩) ?_
      refine wd_take 5 (.int .i64 ((Mem.freed (opN po i) k).to : Int)) hR rfl (by kernel_rfl) rfl (by kernel_rfl) (fun w hS => ex_load rfl (by kernel_rfl) (ld3 (hS.1))) (⟨bO53_3.1, (hX9.cell q9), (hX9.cell s2), bO15_3.1⟩) ?_
      refine wd_take 6 (.slice (some ⟨bO, oO, none⟩) kO cO) hR rfl (by kernel_rfl) rfl (by kernel_rfl) (fun w _ => by kernel_rfl) (⟨bO53_3.1, (hX9.cell q9), (hX9.cell s2), bO15_3.1⟩) ?_
      refine wd_take 7 (.int .i64 (((i : Nat) : Int) : Int)) hR rfl (by kernel_rfl) rfl (by kernel_rfl) (fun w _ => by kernel_rfl) (⟨bO53_3.1, (hX9.cell q9), (hX9.cell s2), bO15_3.1⟩) ?_
      refine wd_take 8 (.pointer (some ⟨bO, oO + i * 9, none⟩)) hR rfl (by kernel_rfl) rfl (by kernel_rfl) (fun w _ => ex_index (p := .slice (some ⟨bO, oO, none⟩) kO cO) (i := .int .i64 ((i : Nat) : Int)) rfl (by kernel_rfl) (by kernel_rfl) (ix50 (k := i) (by omega))) (⟨bO53_3.1, (hX9.cell q9), (hX9.cell s2), bO15_3.1⟩) ?_
      refine wd_take 9 (.pointer (some ⟨bO, oO + i * 9 + 8, none⟩)) hR rfl (by kernel_rfl) rfl (by kernel_rfl) (fun w _ => by kernel_rfl) (⟨bO53_3.1, (hX9.cell q9), (hX9.cell s2), bO15_3.1⟩) ?_
      refine wd_take 10 (.slice (some ⟨bS, oS, none⟩) nS kS) hR rfl (by kernel_rfl) rfl (by kernel_rfl) (fun w hS => ex_load rfl (by kernel_rfl) (ld29 (hS.2.1))) (⟨bO53_3.1, (hX9.cell q9), (hX9.cell s2), bO15_3.1⟩) ?_
      refine wd_take 11 (.int .i64 (((k : Nat) : Int) : Int)) hR rfl (by kernel_rfl) rfl (by kernel_rfl) (fun w _ => by kernel_rfl) (⟨bO53_3.1, (hX9.cell q9), (hX9.cell s2), bO15_3.1⟩) ?_
      refine wd_take 12 (.pointer (some ⟨bS, oS + k * 3, none⟩)) hR rfl (by kernel_rfl) rfl (by kernel_rfl) (fun w _ => ex_index (p := .slice (some ⟨bS, oS, none⟩) nS kS) (i := .int .i64 ((k : Nat) : Int)) rfl (by kernel_rfl) (by kernel_rfl) (ix29 (k := k) (by omega))) (⟨bO53_3.1, (hX9.cell q9), (hX9.cell s2), bO15_3.1⟩) ?_
      refine wd_take 13 (.pointer (some ⟨bS, oS + k * 3 + 1, none⟩)) hR rfl (by kernel_rfl) rfl (by kernel_rfl) (fun w _ => by kernel_rfl) (⟨bO53_3.1, (hX9.cell q9), (hX9.cell s2), bO15_3.1⟩) ?_
      refine wd_take 14 (.pointer (some ⟨bS, oS + k * 3 + 1 + 1, none⟩)) hR rfl (by kernel_rfl) rfl (by kernel_rfl) (fun w _ => by kernel_rfl) (⟨bO53_3.1, (hX9.cell q9), (hX9.cell s2), bO15_3.1⟩) ?_
      refine wd_take 15 (.int .i64 ((slN (opN po i).sl k).to : Int)) hR rfl (by kernel_rfl) rfl (by kernel_rfl) (fun w hS => ex_load rfl (by kernel_rfl) (ld3 (hS.2.2.1))) (⟨bO53_3.1, (hX9.cell q9), (hX9.cell s2), bO15_3.1⟩) ?_
      refine wd_take 16 (.bool false) hR rfl (by kernel_rfl) rfl (by kernel_rfl) (fun w _ => ev_nne (show _ = Result.ok (Next.value (Value.bool (((Mem.freed (opN po i) k).to : Int) != ((slN (opN po i).sl k).to : Int)))) _ from by kernel_rfl) (rfl)) (⟨bO53_3.1, (hX9.cell q9), (hX9.cell s2), bO15_3.1⟩) ?_
      refine wd_take 17 (.bool false) hR rfl (by kernel_rfl) rfl (by kernel_rfl) (fun w _ => by kernel_rfl) (⟨bO53_3.1, (hX9.cell q9), (hX9.cell s2), bO15_3.1⟩) ?_
      refine wd_take 18 (.bool false) hR rfl (by kernel_rfl) rfl (by kernel_rfl) (fun w _ => by kernel_rfl) (⟨bO53_3.1, (hX9.cell q9), (hX9.cell s2), bO15_3.1⟩) ?_
      refine wd_take 19 (.pointer (some ⟨O53, 2, none⟩)) hR rfl (by kernel_rfl) rfl (by kernel_rfl) (fun w _ => by kernel_rfl) (⟨bO53_3.1, (hX9.cell q9), (hX9.cell s2), bO15_3.1⟩) ?_
      refine wd_take 20 (.pointer (some ⟨O53, 3, none⟩)) hR rfl (by kernel_rfl) rfl (by kernel_rfl) (fun w _ => by kernel_rfl) (⟨bO53_3.1, (hX9.cell q9), (hX9.cell s2), bO15_3.1⟩) ?_
      refine wd_take 21 (.int .i64 ((Mem.freed (opN po i) k).to : Int)) hR rfl (by kernel_rfl) rfl (by kernel_rfl) (fun w hS => ex_load rfl (by kernel_rfl) (ld3 (hS.1))) (⟨bO53_3.1, (hX9.cell q9), (hX9.cell s2), bO15_3.1⟩) ?_
      refine wd_take 22 (.pointer (some ⟨O15, 2, none⟩)) hR rfl (by kernel_rfl) rfl (by kernel_rfl) (fun w _ => by kernel_rfl) (⟨bO53_3.1, (hX9.cell q9), (hX9.cell s2), bO15_3.1⟩) ?_
      refine wd_take 23 (.pointer (some ⟨O15, 3, none⟩)) hR rfl (by kernel_rfl) rfl (by kernel_rfl) (fun w _ => by kernel_rfl) (⟨bO53_3.1, (hX9.cell q9), (hX9.cell s2), bO15_3.1⟩) ?_
      refine wd_take 24 (.int .i64 ((Mem.wst (opN po i)).to : Int)) hR rfl (by kernel_rfl) rfl (by kernel_rfl) (fun w hS => ex_load rfl (by kernel_rfl) (ld3 (hS.2.2.2))) (⟨bO53_3.1, (hX9.cell q9), (hX9.cell s2), bO15_3.1⟩) ?_
      refine wd_take 25 (.bool false) hR rfl (by kernel_rfl) rfl (by kernel_rfl) (fun w _ => ev_ndec (show _ = Result.ok (Next.value (Value.bool (decide (((Mem.freed (opN po i) k).to : Int) > ((Mem.wst (opN po i)).to : Int))))) _ from by kernel_rfl) (Int.not_lt.2 hfl)) (⟨bO53_3.1, (hX9.cell q9), (hX9.cell s2), bO15_3.1⟩) ?_
      refine wd_take 26 (.bool false) hR rfl (by kernel_rfl) rfl (by kernel_rfl) (fun w _ => by kernel_rfl) (⟨bO53_3.1, (hX9.cell q9), (hX9.cell s2), bO15_3.1⟩) ?_
      refine wd_end hL hR hK (by kernel_rfl) ?_
      refine qw_then ?_
      refine cw_clean [1, 2, 3, 9, 10, 11, 12, 13, 14, 16, 17, 18, 139] (ws' := [(1, .slice a1 n1 c1), (2, .int .i64 (i2 : Int)), (3, .int .i64 (i3 : Int)), (9, .bool true), (10, .slice (some ⟨bO, oO, none⟩) kO cO), (11, .slice (some ⟨g29, 0, none⟩) (i + 1) cap30), (12, .slice aR i cR), (13, .int .i64 (((i : Nat) : Int) : Int)), (14, .pointer (some ⟨O15, 0, none⟩)), (16, .pointer (some ⟨O42, 0, none⟩)), (17, .int .i64 (((k : Nat) : Int) : Int)), (18, .pointer (some ⟨O53, 0, none⟩)), (139, .bool false)]) (by kernel_rfl) (fun L => ?_)
      refine cw_f (by kernel_rfl) ?_
      refine cw_skip ?_
      refine qw_then ?_
      refine cw_seq ?_
      by_cases hw1 : i < n1
      ·
        obtain ⟨b1, o1, ha1, hc1⟩ := hI1.resolve_left (by omega)
        obtain rfl := ha1
        obtain ⟨z1, hz1⟩ := hc1 i hw1
        by_cases hpk : pickF (q1 i) ((nS + 1 : Nat) : Int) = (k : Int)
        ·
          refine cw_draw [(some 140, [13], []), (some 141, [1], []), (some 142, [141], [1]), (some 143, [140, 142], [0, 2]), (some 144, [143], [3]), (some 145, [1, 144], [4]), (some 146, [13, 144], [4]), (some 147, [145, 146, 144], [5, 6, 4]), (some 148, [147, 144], [7, 4]), (some 149, [10, 144], [4]), (some 150, [13, 144], [4]), (some 151, [149, 150, 144], [9, 10, 4]), (some 152, [151, 144], [11, 4]), (some 153, [152, 144], [12, 4]), (some 154, [153, 144], [13, 4]), (some 155, [154, 144], [14, 4]), (some 156, [148, 155, 144], [8, 15, 4, 4]), (some 157, [17, 144], [4]), (some 158, [156, 157, 144], [16, 17, 4]), (some 159, [144, 158], [4, 18])] (fun w' => w'.cell? ⟨b1, o1 + i, none⟩ = some (.int .i64 (q1 i : Int)) ∧ w'.cell? ⟨bO, oO + i * 9 + 8, none⟩ = some (.slice (some ⟨bS, oS, none⟩) nS kS)) (by kernel_rfl) (by kernel_rfl) (by kernel_rfl) (by kernel_rfl) ((calm_then (calm_block (calm_then (calm_then (calm_block (calm_then (calm_block (calm_then (calm_then (calm_block (calm_then calm_body)))))))))))) (⟨(hE.cell z1), (hX9.cell q9)⟩) (fun ops Q X61 hb hL hR hK => ?_)
          replace hE := hE.trans hb
          replace hX9 := hX9.trans hb
          replace ownR := ownR.ext hb
          replace bO15_0 := BoxAt.ext hb bO15_0
          replace bO15_1 := BoxAt.ext hb bO15_1
          replace bO15_2 := BoxAt.ext hb bO15_2
          replace bO15_3 := BoxAt.ext hb bO15_3
          replace bO23_0 := BoxAt.ext hb bO23_0
          replace bO23_1 := BoxAt.ext hb bO23_1
          replace bO23_2 := BoxAt.ext hb bO23_2
          replace bO23_3 := BoxAt.ext hb bO23_3
          replace own33 := own33.ext hb
          replace bx0 := BoxAt.ext hb bx0
          replace bx1 := BoxAt.ext hb bx1
          replace bx2 := BoxAt.ext hb bx2
          replace bx3 := BoxAt.ext hb bx3
          replace bO53_0 := BoxAt.ext hb bO53_0
          replace bO53_1 := BoxAt.ext hb bO53_1
          replace bO53_2 := BoxAt.ext hb bO53_2
          replace bO53_3 := BoxAt.ext hb bO53_3
          have hs62 := hb.size
          clear hb
          refine wd_take 0 (.int .i64 (((i : Nat) : Int) : Int)) hR rfl (by kernel_rfl) rfl (by kernel_rfl) (fun w _ => by kernel_rfl) (⟨(hE.cell z1), (hX9.cell q9)⟩) ?_
          refine wd_take 1 (.slice (some ⟨b1, o1, none⟩) n1 c1) hR rfl (by kernel_rfl) rfl (by kernel_rfl) (fun w _ => by kernel_rfl) (⟨(hE.cell z1), (hX9.cell q9)⟩) ?_
          refine wd_take 2 (.int .i64 (((n1 : Nat) : Int) : Int)) hR rfl (by kernel_rfl) rfl (by kernel_rfl) (fun w _ => by kernel_rfl) (⟨(hE.cell z1), (hX9.cell q9)⟩) ?_
          refine wd_take 3 (.bool true) hR rfl (by kernel_rfl) rfl (by kernel_rfl) (fun w _ => ev_dec (show _ = Result.ok (Next.value (Value.bool (decide ((((i : Nat) : Int) : Int) < (((n1 : Nat) : Int) : Int))))) _ from by kernel_rfl) (by omega)) (⟨(hE.cell z1), (hX9.cell q9)⟩) ?_
          refine wd_take 4 (.bool true) hR rfl (by kernel_rfl) rfl (by kernel_rfl) (fun w _ => by kernel_rfl) (⟨(hE.cell z1), (hX9.cell q9)⟩) ?_
          refine wd_take 5 (.slice (some ⟨b1, o1, none⟩) n1 c1) hR rfl (by kernel_rfl) rfl (by kernel_rfl) (fun w _ => by kernel_rfl) (⟨(hE.cell z1), (hX9.cell q9)⟩) ?_
          refine wd_take 6 (.int .i64 (((i : Nat) : Int) : Int)) hR rfl (by kernel_rfl) rfl (by kernel_rfl) (fun w _ => by kernel_rfl) (⟨(hE.cell z1), (hX9.cell q9)⟩) ?_
          refine wd_take 7 (.pointer (some ⟨b1, o1 + i, none⟩)) hR rfl (by kernel_rfl) rfl (by kernel_rfl) (fun w _ => ex_index (p := .slice (some ⟨b1, o1, none⟩) n1 c1) (i := .int .i64 ((i : Nat) : Int)) rfl (by kernel_rfl) (by kernel_rfl) (ix56 (k := i) (by omega))) (⟨(hE.cell z1), (hX9.cell q9)⟩) ?_
          refine wd_take 8 (.int .i64 (q1 i : Int)) hR rfl (by kernel_rfl) rfl (by kernel_rfl) (fun w hS => ex_load rfl (by kernel_rfl) (ld3 (hS.1))) (⟨(hE.cell z1), (hX9.cell q9)⟩) ?_
          refine wd_take 9 (.slice (some ⟨bO, oO, none⟩) kO cO) hR rfl (by kernel_rfl) rfl (by kernel_rfl) (fun w _ => by kernel_rfl) (⟨(hE.cell z1), (hX9.cell q9)⟩) ?_
          refine wd_take 10 (.int .i64 (((i : Nat) : Int) : Int)) hR rfl (by kernel_rfl) rfl (by kernel_rfl) (fun w _ => by kernel_rfl) (⟨(hE.cell z1), (hX9.cell q9)⟩) ?_
          refine wd_take 11 (.pointer (some ⟨bO, oO + i * 9, none⟩)) hR rfl (by kernel_rfl) rfl (by kernel_rfl) (fun w _ => ex_index (p := .slice (some ⟨bO, oO, none⟩) kO cO) (i := .int .i64 ((i : Nat) : Int)) rfl (by kernel_rfl) (by kernel_rfl) (ix50 (k := i) (by omega))) (⟨(hE.cell z1), (hX9.cell q9)⟩) ?_
          refine wd_take 12 (.pointer (some ⟨bO, oO + i * 9 + 8, none⟩)) hR rfl (by kernel_rfl) rfl (by kernel_rfl) (fun w _ => by kernel_rfl) (⟨(hE.cell z1), (hX9.cell q9)⟩) ?_
          refine wd_take 13 (.slice (some ⟨bS, oS, none⟩) nS kS) hR rfl (by kernel_rfl) rfl (by kernel_rfl) (fun w hS => ex_load rfl (by kernel_rfl) (ld29 (hS.2))) (⟨(hE.cell z1), (hX9.cell q9)⟩) ?_
          refine wd_take 14 (.int .i64 (((nS : Nat) : Int) : Int)) hR rfl (by kernel_rfl) rfl (by kernel_rfl) (fun w _ => by kernel_rfl) (⟨(hE.cell z1), (hX9.cell q9)⟩) ?_
          refine wd_take 15 (.int .i64 (((nS + 1 : Nat) : Int) : Int)) hR rfl (by kernel_rfl) rfl (by kernel_rfl) (fun w _ => ev_wrap (by kernel_rfl) (by omega) (by omega)) (⟨(hE.cell z1), (hX9.cell q9)⟩) ?_
          refine wd_take 17 (.int .i64 (((k : Nat) : Int) : Int)) hR rfl (by kernel_rfl) rfl (by kernel_rfl) (fun w _ => by kernel_rfl) (⟨(hE.cell z1), (hX9.cell q9)⟩) ?_
          refine wd_step 16 hR rfl (by kernel_rfl) (by kernel_rfl) (by kernel_rfl) (sn_call (f := 12) (args := #[.int .i64 (q1 i : Int), .int .i64 (((nS + 1 : Nat) : Int) : Int)]) (by kernel_rfl) ((pick_c (q1 i) (((nS + 1 : Nat) : Int)) _ hz1 (by omega) (by omega)).mono ?_))
          rintro e w' ⟨rfl, rfl⟩
          refine ⟨_, rfl, ⟨(hE.cell z1), (hX9.cell q9)⟩, ?_⟩
          refine wd_take 18 (.bool true) hR rfl (by kernel_rfl) rfl (by kernel_rfl) (fun w _ => ev_eq (show _ = Result.ok (Next.value (Value.bool ((pickF (q1 i) (((nS + 1 : Nat) : Int)) : Int) == (((k : Nat) : Int) : Int)))) _ from by kernel_rfl) (hpk)) (⟨(hE.cell z1), (hX9.cell q9)⟩) ?_
          refine wd_take 19 (.bool true) hR rfl (by kernel_rfl) rfl (by kernel_rfl) (fun w _ => by kernel_rfl) (⟨(hE.cell z1), (hX9.cell q9)⟩) ?_
          refine wd_end hL hR hK (by kernel_rfl) ?_
          refine qw_then ?_
          refine cw_clean [1, 2, 3, 9, 10, 11, 12, 13, 14, 16, 17, 18, 159] (ws' := [(1, .slice (some ⟨b1, o1, none⟩) n1 c1), (2, .int .i64 (i2 : Int)), (3, .int .i64 (i3 : Int)), (9, .bool true), (10, .slice (some ⟨bO, oO, none⟩) kO cO), (11, .slice (some ⟨g29, 0, none⟩) (i + 1) cap30), (12, .slice aR i cR), (13, .int .i64 (((i : Nat) : Int) : Int)), (14, .pointer (some ⟨O15, 0, none⟩)), (16, .pointer (some ⟨O42, 0, none⟩)), (17, .int .i64 (((k : Nat) : Int) : Int)), (18, .pointer (some ⟨O53, 0, none⟩)), (159, .bool true)]) (by kernel_rfl) (fun L => ?_)
          refine cw_t (by kernel_rfl) ?_
          refine cw_plain ?_
          refine pl_take (.agg #[.int .i64 ((Mem.freed (opN po i) k).im : Int), .int .i64 ((Mem.freed (opN po i) k).un : Int), .int .i64 ((Mem.freed (opN po i) k).fr : Int), .int .i64 ((Mem.freed (opN po i) k).to : Int)]) rfl (by kernel_rfl) (by kernel_rfl) (by kernel_rfl) (ex_load rfl (by kernel_rfl) (ld26 (bO53_0.1) (bO53_1.1) (bO53_2.1) (bO53_3.1))) ?_
          refine pl_put rfl (by kernel_rfl) (by kernel_rfl) (sn_setK4 (O := O42) (j := 0) (v0 := .int .i64 ((Mem.freed (opN po i) k).im : Int)) (v1 := .int .i64 ((Mem.freed (opN po i) k).un : Int)) (v2 := .int .i64 ((Mem.freed (opN po i) k).fr : Int)) (v3 := .int .i64 ((Mem.freed (opN po i) k).to : Int)) (ex_store (p := .pointer (some ⟨O42, 0, none⟩)) (v := .agg #[.int .i64 ((Mem.freed (opN po i) k).im : Int), .int .i64 ((Mem.freed (opN po i) k).un : Int), .int .i64 ((Mem.freed (opN po i) k).fr : Int), .int .i64 ((Mem.freed (opN po i) k).to : Int)]) rfl (by kernel_rfl) (by kernel_rfl) (st26 bx0.1 bx0.2 bx1.1 bx1.2 bx2.1 bx2.2 bx3.1 bx3.2)) bx0 bx1 bx2 bx3 ?_)
          intro X63 ho hv0 hv1 hv2 hv3 hk
          replace hE := ho.ext hE (Nat.le_trans (Nat.le_trans hs6 (Nat.le_trans hs8 (Nat.le_trans hs10 (Nat.le_trans hs14 (Nat.le_trans hs17 (Nat.le_trans hs20 (Nat.le_trans hs22 (Nat.le_trans hs25 hs36)))))))) (Nat.le_of_eq hzO42))
          replace hX9 := ho.ext hX9 (Nat.le_trans (Nat.le_trans hs10 (Nat.le_trans hs14 (Nat.le_trans hs17 (Nat.le_trans hs20 (Nat.le_trans hs22 (Nat.le_trans hs25 hs36)))))) (Nat.le_of_eq hzO42))
          replace ownR := ownR.turn ho (own_not2 hbR (Nat.le_trans (Nat.le_trans hs14 (Nat.le_trans hs17 (Nat.le_trans hs20 (Nat.le_trans hs22 (Nat.le_trans hs25 hs36))))) (Nat.le_of_eq hzO42))) (fun _ _ _ h => by rw [h.2]; exact fun b hb => by cases hb)
          replace bO15_0 := ho.box (Nat.ne_of_gt (Nat.lt_of_lt_of_le lt18 (Nat.le_trans (Nat.le_trans hs20 (Nat.le_trans hs22 (Nat.le_trans hs25 hs36))) (Nat.le_of_eq hzO42)))) bO15_0
          replace bO15_1 := ho.box (Nat.ne_of_gt (Nat.lt_of_lt_of_le lt18 (Nat.le_trans (Nat.le_trans hs20 (Nat.le_trans hs22 (Nat.le_trans hs25 hs36))) (Nat.le_of_eq hzO42)))) bO15_1
          replace bO15_2 := ho.box (Nat.ne_of_gt (Nat.lt_of_lt_of_le lt18 (Nat.le_trans (Nat.le_trans hs20 (Nat.le_trans hs22 (Nat.le_trans hs25 hs36))) (Nat.le_of_eq hzO42)))) bO15_2
          replace bO15_3 := ho.box (Nat.ne_of_gt (Nat.lt_of_lt_of_le lt18 (Nat.le_trans (Nat.le_trans hs20 (Nat.le_trans hs22 (Nat.le_trans hs25 hs36))) (Nat.le_of_eq hzO42)))) bO15_3
          replace bO23_0 := ho.box (Nat.ne_of_gt (Nat.lt_of_lt_of_le lt26 (Nat.le_trans hs36 (Nat.le_of_eq hzO42)))) bO23_0
          replace bO23_1 := ho.box (Nat.ne_of_gt (Nat.lt_of_lt_of_le lt26 (Nat.le_trans hs36 (Nat.le_of_eq hzO42)))) bO23_1
          replace bO23_2 := ho.box (Nat.ne_of_gt (Nat.lt_of_lt_of_le lt26 (Nat.le_trans hs36 (Nat.le_of_eq hzO42)))) bO23_2
          replace bO23_3 := ho.box (Nat.ne_of_gt (Nat.lt_of_lt_of_le lt26 (Nat.le_trans hs36 (Nat.le_of_eq hzO42)))) bO23_3
          replace own33 := own33.turn ho (own_not2 hbk41 (Nat.le_of_eq hzO42)) (fun _ _ _ h => by rw [h.2]; exact fun b hb => by cases hb)
          replace bO53_0 := ho.box (Nat.ne_of_lt (Nat.lt_of_lt_of_le lt45 (Nat.le_trans (Nat.le_trans hs47 (Nat.le_trans hs48 hs52)) (Nat.le_of_eq hzO53)))) bO53_0
          replace bO53_1 := ho.box (Nat.ne_of_lt (Nat.lt_of_lt_of_le lt45 (Nat.le_trans (Nat.le_trans hs47 (Nat.le_trans hs48 hs52)) (Nat.le_of_eq hzO53)))) bO53_1
          replace bO53_2 := ho.box (Nat.ne_of_lt (Nat.lt_of_lt_of_le lt45 (Nat.le_trans (Nat.le_trans hs47 (Nat.le_trans hs48 hs52)) (Nat.le_of_eq hzO53)))) bO53_2
          replace bO53_3 := ho.box (Nat.ne_of_lt (Nat.lt_of_lt_of_le lt45 (Nat.le_trans (Nat.le_trans hs47 (Nat.le_trans hs48 hs52)) (Nat.le_of_eq hzO53)))) bO53_3
          have hs64 : X61.heap.size ≤ X63.heap.size := Nat.le_of_eq ho.size.symm
          clear ho hk bx0 bx1 bx2 bx3
          have bx0 := hv0; clear hv0
          have bx1 := hv1; clear hv1
          have bx2 := hv2; clear hv2
          have bx3 := hv3; clear hv3
          refine pl_nil ?_
          refine qw_block ?_
          refine qw_then ?_
          refine cw_plain ?_
          refine pl_take (.int .i64 (((k : Nat) : Int) : Int)) rfl (by kernel_rfl) (by kernel_rfl) (by kernel_rfl) (by kernel_rfl) ?_
          refine pl_take (.int .i64 (((k + 1 : Nat) : Int) : Int)) rfl (by kernel_rfl) (by kernel_rfl) (by kernel_rfl) (ev_wrap (by kernel_rfl) (by omega) (by omega)) ?_
          refine pl_take (.int .i64 (((k + 1 : Nat) : Int) : Int)) rfl (by kernel_rfl) (by kernel_rfl) (by kernel_rfl) (by kernel_rfl) ?_
          refine pl_nil ?_
          refine qw_round [1, 2, 3, 9, 10, 11, 12, 13, 14, 16, 17] (ws' := [(1, .slice (some ⟨b1, o1, none⟩) n1 c1), (2, .int .i64 (i2 : Int)), (3, .int .i64 (i3 : Int)), (9, .bool true), (10, .slice (some ⟨bO, oO, none⟩) kO cO), (11, .slice (some ⟨g29, 0, none⟩) (i + 1) cap30), (12, .slice aR i cR), (13, .int .i64 (((i : Nat) : Int) : Int)), (14, .pointer (some ⟨O15, 0, none⟩)), (16, .pointer (some ⟨O42, 0, none⟩)), (17, .int .i64 (((k + 1 : Nat) : Int) : Int))]) (by kernel_rfl) _ ?_ ⟨(k + 1), (Mem.freed (opN po i) k), rfl, rfl, (Nat.le_trans hs48 (Nat.le_trans hs52 (Nat.le_trans hs55 (Nat.le_trans hs58 (Nat.le_trans hs60 (Nat.le_trans hs62 hs64)))))), hE, hX9, ownR, bO15_0, bO15_1, bO15_2, bO15_3, bO23_0, bO23_1, bO23_2, bO23_3, own33, bx0, bx1, bx2, bx3, by omega, hrf⟩
          omega
        ·
          refine cw_draw [(some 140, [13], []), (some 141, [1], []), (some 142, [141], [1]), (some 143, [140, 142], [0, 2]), (some 144, [143], [3]), (some 145, [1, 144], [4]), (some 146, [13, 144], [4]), (some 147, [145, 146, 144], [5, 6, 4]), (some 148, [147, 144], [7, 4]), (some 149, [10, 144], [4]), (some 150, [13, 144], [4]), (some 151, [149, 150, 144], [9, 10, 4]), (some 152, [151, 144], [11, 4]), (some 153, [152, 144], [12, 4]), (some 154, [153, 144], [13, 4]), (some 155, [154, 144], [14, 4]), (some 156, [148, 155, 144], [8, 15, 4, 4]), (some 157, [17, 144], [4]), (some 158, [156, 157, 144], [16, 17, 4]), (some 159, [144, 158], [4, 18])] (fun w' => w'.cell? ⟨b1, o1 + i, none⟩ = some (.int .i64 (q1 i : Int)) ∧ w'.cell? ⟨bO, oO + i * 9 + 8, none⟩ = some (.slice (some ⟨bS, oS, none⟩) nS kS)) (by kernel_rfl) (by kernel_rfl) (by kernel_rfl) (by kernel_rfl) ((calm_then (calm_block (calm_then (calm_then (calm_block (calm_then (calm_block (calm_then (calm_then (calm_block (calm_then calm_body)))))))))))) (⟨(hE.cell z1), (hX9.cell q9)⟩) (fun ops Q X65 hb hL hR hK => ?_)
          replace hE := hE.trans hb
          replace hX9 := hX9.trans hb
          replace ownR := ownR.ext hb
          replace bO15_0 := BoxAt.ext hb bO15_0
          replace bO15_1 := BoxAt.ext hb bO15_1
          replace bO15_2 := BoxAt.ext hb bO15_2
          replace bO15_3 := BoxAt.ext hb bO15_3
          replace bO23_0 := BoxAt.ext hb bO23_0
          replace bO23_1 := BoxAt.ext hb bO23_1
          replace bO23_2 := BoxAt.ext hb bO23_2
          replace bO23_3 := BoxAt.ext hb bO23_3
          replace own33 := own33.ext hb
          replace bx0 := BoxAt.ext hb bx0
          replace bx1 := BoxAt.ext hb bx1
          replace bx2 := BoxAt.ext hb bx2
          replace bx3 := BoxAt.ext hb bx3
          replace bO53_0 := BoxAt.ext hb bO53_0
          replace bO53_1 := BoxAt.ext hb bO53_1
          replace bO53_2 := BoxAt.ext hb bO53_2
          replace bO53_3 := BoxAt.ext hb bO53_3
          have hs66 := hb.size
          clear hb
          refine wd_take 0 (.int .i64 (((i : Nat) : Int) : Int)) hR rfl (by kernel_rfl) rfl (by kernel_rfl) (fun w _ => by kernel_rfl) (⟨(hE.cell z1), (hX9.cell q9)⟩) ?_
          refine wd_take 1 (.slice (some ⟨b1, o1, none⟩) n1 c1) hR rfl (by kernel_rfl) rfl (by kernel_rfl) (fun w _ => by kernel_rfl) (⟨(hE.cell z1), (hX9.cell q9)⟩) ?_
          refine wd_take 2 (.int .i64 (((n1 : Nat) : Int) : Int)) hR rfl (by kernel_rfl) rfl (by kernel_rfl) (fun w _ => by kernel_rfl) (⟨(hE.cell z1), (hX9.cell q9)⟩) ?_
          refine wd_take 3 (.bool true) hR rfl (by kernel_rfl) rfl (by kernel_rfl) (fun w _ => ev_dec (show _ = Result.ok (Next.value (Value.bool (decide ((((i : Nat) : Int) : Int) < (((n1 : Nat) : Int) : Int))))) _ from by kernel_rfl) (by omega)) (⟨(hE.cell z1), (hX9.cell q9)⟩) ?_
          refine wd_take 4 (.bool true) hR rfl (by kernel_rfl) rfl (by kernel_rfl) (fun w _ => by kernel_rfl) (⟨(hE.cell z1), (hX9.cell q9)⟩) ?_
          refine wd_take 5 (.slice (some ⟨b1, o1, none⟩) n1 c1) hR rfl (by kernel_rfl) rfl (by kernel_rfl) (fun w _ => by kernel_rfl) (⟨(hE.cell z1), (hX9.cell q9)⟩) ?_
          refine wd_take 6 (.int .i64 (((i : Nat) : Int) : Int)) hR rfl (by kernel_rfl) rfl (by kernel_rfl) (fun w _ => by kernel_rfl) (⟨(hE.cell z1), (hX9.cell q9)⟩) ?_
          refine wd_take 7 (.pointer (some ⟨b1, o1 + i, none⟩)) hR rfl (by kernel_rfl) rfl (by kernel_rfl) (fun w _ => ex_index (p := .slice (some ⟨b1, o1, none⟩) n1 c1) (i := .int .i64 ((i : Nat) : Int)) rfl (by kernel_rfl) (by kernel_rfl) (ix56 (k := i) (by omega))) (⟨(hE.cell z1), (hX9.cell q9)⟩) ?_
          refine wd_take 8 (.int .i64 (q1 i : Int)) hR rfl (by kernel_rfl) rfl (by kernel_rfl) (fun w hS => ex_load rfl (by kernel_rfl) (ld3 (hS.1))) (⟨(hE.cell z1), (hX9.cell q9)⟩) ?_
          refine wd_take 9 (.slice (some ⟨bO, oO, none⟩) kO cO) hR rfl (by kernel_rfl) rfl (by kernel_rfl) (fun w _ => by kernel_rfl) (⟨(hE.cell z1), (hX9.cell q9)⟩) ?_
          refine wd_take 10 (.int .i64 (((i : Nat) : Int) : Int)) hR rfl (by kernel_rfl) rfl (by kernel_rfl) (fun w _ => by kernel_rfl) (⟨(hE.cell z1), (hX9.cell q9)⟩) ?_
          refine wd_take 11 (.pointer (some ⟨bO, oO + i * 9, none⟩)) hR rfl (by kernel_rfl) rfl (by kernel_rfl) (fun w _ => ex_index (p := .slice (some ⟨bO, oO, none⟩) kO cO) (i := .int .i64 ((i : Nat) : Int)) rfl (by kernel_rfl) (by kernel_rfl) (ix50 (k := i) (by omega))) (⟨(hE.cell z1), (hX9.cell q9)⟩) ?_
          refine wd_take 12 (.pointer (some ⟨bO, oO + i * 9 + 8, none⟩)) hR rfl (by kernel_rfl) rfl (by kernel_rfl) (fun w _ => by kernel_rfl) (⟨(hE.cell z1), (hX9.cell q9)⟩) ?_
          refine wd_take 13 (.slice (some ⟨bS, oS, none⟩) nS kS) hR rfl (by kernel_rfl) rfl (by kernel_rfl) (fun w hS => ex_load rfl (by kernel_rfl) (ld29 (hS.2))) (⟨(hE.cell z1), (hX9.cell q9)⟩) ?_
          refine wd_take 14 (.int .i64 (((nS : Nat) : Int) : Int)) hR rfl (by kernel_rfl) rfl (by kernel_rfl) (fun w _ => by kernel_rfl) (⟨(hE.cell z1), (hX9.cell q9)⟩) ?_
          refine wd_take 15 (.int .i64 (((nS + 1 : Nat) : Int) : Int)) hR rfl (by kernel_rfl) rfl (by kernel_rfl) (fun w _ => ev_wrap (by kernel_rfl) (by omega) (by omega)) (⟨(hE.cell z1), (hX9.cell q9)⟩) ?_
          refine wd_take 17 (.int .i64 (((k : Nat) : Int) : Int)) hR rfl (by kernel_rfl) rfl (by kernel_rfl) (fun w _ => by kernel_rfl) (⟨(hE.cell z1), (hX9.cell q9)⟩) ?_
          refine wd_step 16 hR rfl (by kernel_rfl) (by kernel_rfl) (by kernel_rfl) (sn_call (f := 12) (args := #[.int .i64 (q1 i : Int), .int .i64 (((nS + 1 : Nat) : Int) : Int)]) (by kernel_rfl) ((pick_c (q1 i) (((nS + 1 : Nat) : Int)) _ hz1 (by omega) (by omega)).mono ?_))
          rintro e w' ⟨rfl, rfl⟩
          refine ⟨_, rfl, ⟨(hE.cell z1), (hX9.cell q9)⟩, ?_⟩
          refine wd_take 18 (.bool false) hR rfl (by kernel_rfl) rfl (by kernel_rfl) (fun w _ => ev_neq (show _ = Result.ok (Next.value (Value.bool ((pickF (q1 i) (((nS + 1 : Nat) : Int)) : Int) == (((k : Nat) : Int) : Int)))) _ from by kernel_rfl) (hpk)) (⟨(hE.cell z1), (hX9.cell q9)⟩) ?_
          refine wd_take 19 (.bool false) hR rfl (by kernel_rfl) rfl (by kernel_rfl) (fun w _ => by kernel_rfl) (⟨(hE.cell z1), (hX9.cell q9)⟩) ?_
          refine wd_end hL hR hK (by kernel_rfl) ?_
          refine qw_then ?_
          refine cw_clean [1, 2, 3, 9, 10, 11, 12, 13, 14, 16, 17, 18, 159] (ws' := [(1, .slice (some ⟨b1, o1, none⟩) n1 c1), (2, .int .i64 (i2 : Int)), (3, .int .i64 (i3 : Int)), (9, .bool true), (10, .slice (some ⟨bO, oO, none⟩) kO cO), (11, .slice (some ⟨g29, 0, none⟩) (i + 1) cap30), (12, .slice aR i cR), (13, .int .i64 (((i : Nat) : Int) : Int)), (14, .pointer (some ⟨O15, 0, none⟩)), (16, .pointer (some ⟨O42, 0, none⟩)), (17, .int .i64 (((k : Nat) : Int) : Int)), (18, .pointer (some ⟨O53, 0, none⟩)), (159, .bool false)]) (by kernel_rfl) (fun L => ?_)
          refine cw_f (by kernel_rfl) ?_
          refine cw_skip ?_
          refine qw_block ?_
          refine qw_then ?_
          refine cw_plain ?_
          refine pl_take (.int .i64 (((k : Nat) : Int) : Int)) rfl (by kernel_rfl) (by kernel_rfl) (by kernel_rfl) (by kernel_rfl) ?_
          refine pl_take (.int .i64 (((k + 1 : Nat) : Int) : Int)) rfl (by kernel_rfl) (by kernel_rfl) (by kernel_rfl) (ev_wrap (by kernel_rfl) (by omega) (by omega)) ?_
          refine pl_take (.int .i64 (((k + 1 : Nat) : Int) : Int)) rfl (by kernel_rfl) (by kernel_rfl) (by kernel_rfl) (by kernel_rfl) ?_
          refine pl_nil ?_
          refine qw_round [1, 2, 3, 9, 10, 11, 12, 13, 14, 16, 17] (ws' := [(1, .slice (some ⟨b1, o1, none⟩) n1 c1), (2, .int .i64 (i2 : Int)), (3, .int .i64 (i3 : Int)), (9, .bool true), (10, .slice (some ⟨bO, oO, none⟩) kO cO), (11, .slice (some ⟨g29, 0, none⟩) (i + 1) cap30), (12, .slice aR i cR), (13, .int .i64 (((i : Nat) : Int) : Int)), (14, .pointer (some ⟨O15, 0, none⟩)), (16, .pointer (some ⟨O42, 0, none⟩)), (17, .int .i64 (((k + 1 : Nat) : Int) : Int))]) (by kernel_rfl) _ ?_ ⟨(k + 1), x, rfl, rfl, (Nat.le_trans hs48 (Nat.le_trans hs52 (Nat.le_trans hs55 (Nat.le_trans hs58 (Nat.le_trans hs60 hs66))))), hE, hX9, ownR, bO15_0, bO15_1, bO15_2, bO15_3, bO23_0, bO23_1, bO23_2, bO23_3, own33, bx0, bx1, bx2, bx3, by omega, hrx⟩
          omega
      ·
        refine cw_draw [(some 140, [13], []), (some 141, [1], []), (some 142, [141], [1]), (some 143, [140, 142], [0, 2]), (some 144, [143], [3]), (some 145, [1, 144], [4]), (some 146, [13, 144], [4]), (some 147, [145, 146, 144], [5, 6, 4]), (some 148, [147, 144], [7, 4]), (some 149, [10, 144], [4]), (some 150, [13, 144], [4]), (some 151, [149, 150, 144], [9, 10, 4]), (some 152, [151, 144], [11, 4]), (some 153, [152, 144], [12, 4]), (some 154, [153, 144], [13, 4]), (some 155, [154, 144], [14, 4]), (some 156, [148, 155, 144], [8, 15, 4, 4]), (some 157, [17, 144], [4]), (some 158, [156, 157, 144], [16, 17, 4]), (some 159, [144, 158], [4, 18])] (fun w' => True) (by kernel_rfl) (by kernel_rfl) (by kernel_rfl) (by kernel_rfl) ((calm_then (calm_block (calm_then (calm_then (calm_block (calm_then (calm_block (calm_then (calm_then (calm_block (calm_then calm_body)))))))))))) (trivial) (fun ops Q X67 hb hL hR hK => ?_)
        replace hE := hE.trans hb
        replace hX9 := hX9.trans hb
        replace ownR := ownR.ext hb
        replace bO15_0 := BoxAt.ext hb bO15_0
        replace bO15_1 := BoxAt.ext hb bO15_1
        replace bO15_2 := BoxAt.ext hb bO15_2
        replace bO15_3 := BoxAt.ext hb bO15_3
        replace bO23_0 := BoxAt.ext hb bO23_0
        replace bO23_1 := BoxAt.ext hb bO23_1
        replace bO23_2 := BoxAt.ext hb bO23_2
        replace bO23_3 := BoxAt.ext hb bO23_3
        replace own33 := own33.ext hb
        replace bx0 := BoxAt.ext hb bx0
        replace bx1 := BoxAt.ext hb bx1
        replace bx2 := BoxAt.ext hb bx2
        replace bx3 := BoxAt.ext hb bx3
        replace bO53_0 := BoxAt.ext hb bO53_0
        replace bO53_1 := BoxAt.ext hb bO53_1
        replace bO53_2 := BoxAt.ext hb bO53_2
        replace bO53_3 := BoxAt.ext hb bO53_3
        have hs68 := hb.size
        clear hb
        refine wd_take 0 (.int .i64 (((i : Nat) : Int) : Int)) hR rfl (by kernel_rfl) rfl (by kernel_rfl) (fun w _ => by kernel_rfl) (trivial) ?_
        refine wd_take 1 (.slice a1 n1 c1) hR rfl (by kernel_rfl) rfl (by kernel_rfl) (fun w _ => by kernel_rfl) (trivial) ?_
        refine wd_take 2 (.int .i64 (((n1 : Nat) : Int) : Int)) hR rfl (by kernel_rfl) rfl (by kernel_rfl) (fun w _ => by kernel_rfl) (trivial) ?_
        refine wd_take 3 (.bool false) hR rfl (by kernel_rfl) rfl (by kernel_rfl) (fun w _ => ev_ndec (show _ = Result.ok (Next.value (Value.bool (decide ((((i : Nat) : Int) : Int) < (((n1 : Nat) : Int) : Int))))) _ from by kernel_rfl) (by omega)) (trivial) ?_
        refine wd_take 4 (.bool false) hR rfl (by kernel_rfl) rfl (by kernel_rfl) (fun w _ => by kernel_rfl) (trivial) ?_
        refine wd_skip 5 hR rfl (by kernel_rfl) rfl (by kernel_rfl) (trivial) ?_
        refine wd_skip 6 hR rfl (by kernel_rfl) rfl (by kernel_rfl) (trivial) ?_
        refine wd_skip 7 hR rfl (by kernel_rfl) rfl (by kernel_rfl) (trivial) ?_
        refine wd_skip 8 hR rfl (by kernel_rfl) rfl (by kernel_rfl) (trivial) ?_
        refine wd_skip 9 hR rfl (by kernel_rfl) rfl (by kernel_rfl) (trivial) ?_
        refine wd_skip 10 hR rfl (by kernel_rfl) rfl (by kernel_rfl) (trivial) ?_
        refine wd_skip 11 hR rfl (by kernel_rfl) rfl (by kernel_rfl) (trivial) ?_
        refine wd_skip 12 hR rfl (by kernel_rfl) rfl (by kernel_rfl) (trivial) ?_
        refine wd_skip 13 hR rfl (by kernel_rfl) rfl (by kernel_rfl) (trivial) ?_
        refine wd_skip 14 hR rfl (by kernel_rfl) rfl (by kernel_rfl) (trivial) ?_
        refine wd_skip 15 hR rfl (by kernel_rfl) rfl (by kernel_rfl) (trivial) ?_
        refine wd_skip 16 hR rfl (by kernel_rfl) rfl (by kernel_rfl) (trivial) ?_
        refine wd_skip 17 hR rfl (by kernel_rfl) rfl (by kernel_rfl) (trivial) ?_
        refine wd_skip 18 hR rfl (by kernel_rfl) rfl (by kernel_rfl) (trivial) ?_
        refine wd_take 19 (.bool false) hR rfl (by kernel_rfl) rfl (by kernel_rfl) (fun w _ => by kernel_rfl) (trivial) ?_
        refine wd_end hL hR hK (by kernel_rfl) ?_
        refine qw_then ?_
        refine cw_clean [1, 2, 3, 9, 10, 11, 12, 13, 14, 16, 17, 18, 159] (ws' := [(1, .slice a1 n1 c1), (2, .int .i64 (i2 : Int)), (3, .int .i64 (i3 : Int)), (9, .bool true), (10, .slice (some ⟨bO, oO, none⟩) kO cO), (11, .slice (some ⟨g29, 0, none⟩) (i + 1) cap30), (12, .slice aR i cR), (13, .int .i64 (((i : Nat) : Int) : Int)), (14, .pointer (some ⟨O15, 0, none⟩)), (16, .pointer (some ⟨O42, 0, none⟩)), (17, .int .i64 (((k : Nat) : Int) : Int)), (18, .pointer (some ⟨O53, 0, none⟩)), (159, .bool false)]) (by kernel_rfl) (fun L => ?_)
        refine cw_f (by kernel_rfl) ?_
        refine cw_skip ?_
        refine qw_block ?_
        refine qw_then ?_
        refine cw_plain ?_
        refine pl_take (.int .i64 (((k : Nat) : Int) : Int)) rfl (by kernel_rfl) (by kernel_rfl) (by kernel_rfl) (by kernel_rfl) ?_
        refine pl_take (.int .i64 (((k + 1 : Nat) : Int) : Int)) rfl (by kernel_rfl) (by kernel_rfl) (by kernel_rfl) (ev_wrap (by kernel_rfl) (by omega) (by omega)) ?_
        refine pl_take (.int .i64 (((k + 1 : Nat) : Int) : Int)) rfl (by kernel_rfl) (by kernel_rfl) (by kernel_rfl) (by kernel_rfl) ?_
        refine pl_nil ?_
        refine qw_round [1, 2, 3, 9, 10, 11, 12, 13, 14, 16, 17] (ws' := [(1, .slice a1 n1 c1), (2, .int .i64 (i2 : Int)), (3, .int .i64 (i3 : Int)), (9, .bool true), (10, .slice (some ⟨bO, oO, none⟩) kO cO), (11, .slice (some ⟨g29, 0, none⟩) (i + 1) cap30), (12, .slice aR i cR), (13, .int .i64 (((i : Nat) : Int) : Int)), (14, .pointer (some ⟨O15, 0, none⟩)), (16, .pointer (some ⟨O42, 0, none⟩)), (17, .int .i64 (((k + 1 : Nat) : Int) : Int))]) (by kernel_rfl) _ ?_ ⟨(k + 1), x, rfl, rfl, (Nat.le_trans hs48 (Nat.le_trans hs52 (Nat.le_trans hs55 (Nat.le_trans hs58 (Nat.le_trans hs60 hs68))))), hE, hX9, ownR, bO15_0, bO15_1, bO15_2, bO15_3, bO23_0, bO23_1, bO23_2, bO23_3, own33, bx0, bx1, bx2, bx3, by omega, hrx⟩
        omega
    ·
      refine cw_seq ?_
      refine cw_seq ?_
      refine cw_plain ?_
      refine pl_take (.int .i64 (((k : Nat) : Int) : Int)) rfl (by kernel_rfl) (by kernel_rfl) (by kernel_rfl) (by kernel_rfl) ?_
      refine pl_take (.slice (some ⟨bO, oO, none⟩) kO cO) rfl (by kernel_rfl) (by kernel_rfl) (by kernel_rfl) (by kernel_rfl) ?_
      refine pl_take (.int .i64 (((i : Nat) : Int) : Int)) rfl (by kernel_rfl) (by kernel_rfl) (by kernel_rfl) (by kernel_rfl) ?_
      refine pl_take (.pointer (some ⟨bO, oO + i * 9, none⟩)) rfl (by kernel_rfl) (by kernel_rfl) (by kernel_rfl) (ex_index (p := .slice (some ⟨bO, oO, none⟩) kO cO) (i := .int .i64 ((i : Nat) : Int)) rfl (by kernel_rfl) (by kernel_rfl) (ix50 (k := i) (by omega))) ?_
      refine pl_take (.pointer (some ⟨bO, oO + i * 9 + 8, none⟩)) rfl (by kernel_rfl) (by kernel_rfl) (by kernel_rfl) (by kernel_rfl) ?_
      refine pl_take (.slice aS nS kS) rfl (by kernel_rfl) (by kernel_rfl) (by kernel_rfl) (ex_load rfl (by kernel_rfl) (ld29 ((hX9.cell q9)))) ?_
      refine pl_take (.int .i64 (((nS : Nat) : Int) : Int)) rfl (by kernel_rfl) (by kernel_rfl) (by kernel_rfl) (by kernel_rfl) ?_
      refine pl_take (.bool false) rfl (by kernel_rfl) (by kernel_rfl) (by kernel_rfl) (ev_ndec (show _ = Result.ok (Next.value (Value.bool (decide ((((k : Nat) : Int) : Int) < (((nS : Nat) : Int) : Int))))) _ from by kernel_rfl) (by omega)) ?_
      refine pl_nil ?_
      refine qw_then ?_
      refine cw_clean [1, 2, 3, 9, 10, 11, 12, 13, 14, 16, 17, 101] (ws' := [(1, .slice a1 n1 c1), (2, .int .i64 (i2 : Int)), (3, .int .i64 (i3 : Int)), (9, .bool true), (10, .slice (some ⟨bO, oO, none⟩) kO cO), (11, .slice (some ⟨g29, 0, none⟩) (i + 1) cap30), (12, .slice aR i cR), (13, .int .i64 (((i : Nat) : Int) : Int)), (14, .pointer (some ⟨O15, 0, none⟩)), (16, .pointer (some ⟨O42, 0, none⟩)), (17, .int .i64 (((k : Nat) : Int) : Int)), (101, .bool false)]) (by kernel_rfl) (fun L => ?_)
      refine cw_f (by kernel_rfl) ?_
      refine cw_exit ?_
      refine qw_then_exit ?_
      refine qw_then_exit ?_
      refine qw_block_out ?_
      refine qw_then ?_
      refine cw_plain ?_
      refine pl_take (.slice aR i cR) rfl (by kernel_rfl) (by kernel_rfl) (by kernel_rfl) (by kernel_rfl) ?_
      refine pl_take (.agg #[.int .i64 (x.im : Int), .int .i64 (x.un : Int), .int .i64 (x.fr : Int), .int .i64 (x.to : Int)]) rfl (by kernel_rfl) (by kernel_rfl) (by kernel_rfl) (ex_load rfl (by kernel_rfl) (ld26 (bx0.1) (bx1.1) (bx2.1) (bx3.1))) ?_
      refine pl_step rfl (by kernel_rfl) (by kernel_rfl) (by kernel_rfl) (sn_newS (us := #[.int .i64 (x.im : Int), .int .i64 (x.un : Int), .int .i64 (x.fr : Int), .int .i64 (x.to : Int)]) (t := 26) (k := 1) (c := 1) (by kernel_rfl) ?_)
      intro O69 X70 hO hOs hb hbx
      have hzO69 := hO; have hyO69 := hOs; clear hO hOs
      have bO69_0 : BoxAt X70 O69 0 (.int .i64 (x.im : Int)) := hbx 0 _ rfl
      have bO69_1 : BoxAt X70 O69 1 (.int .i64 (x.un : Int)) := hbx 1 _ rfl
      have bO69_2 : BoxAt X70 O69 2 (.int .i64 (x.fr : Int)) := hbx 2 _ rfl
      have bO69_3 : BoxAt X70 O69 3 (.int .i64 (x.to : Int)) := hbx 3 _ rfl
      clear hbx
      replace hE := hE.trans hb
      replace hX9 := hX9.trans hb
      replace ownR := ownR.ext hb
      replace bO15_0 := BoxAt.ext hb bO15_0
      replace bO15_1 := BoxAt.ext hb bO15_1
      replace bO15_2 := BoxAt.ext hb bO15_2
      replace bO15_3 := BoxAt.ext hb bO15_3
      replace bO23_0 := BoxAt.ext hb bO23_0
      replace bO23_1 := BoxAt.ext hb bO23_1
      replace bO23_2 := BoxAt.ext hb bO23_2
      replace bO23_3 := BoxAt.ext hb bO23_3
      replace own33 := own33.ext hb
      replace bx0 := BoxAt.ext hb bx0
      replace bx1 := BoxAt.ext hb bx1
      replace bx2 := BoxAt.ext hb bx2
      replace bx3 := BoxAt.ext hb bx3
      have hs71 := hb.size
      clear hb
      have lt72 := bO69_0.lt
      have hlo74 := (own33).lt
      have hbs85 := ownR.base
      obtain ⟨g75, cap76, w77, hrun78, own79, hgr80, hgb81, hor73⟩ := own_app1h (P := Try.prog) (ty := 27) stT (ownR) (Nat.le_trans hs10 (Nat.le_trans hs14 (Nat.le_trans hs17 (Nat.le_trans hs20 (Nat.le_trans hs22 (Nat.le_trans hs25 (Nat.le_trans hs36 (Nat.le_trans hs44 (Nat.le_trans hs47 (Nat.le_trans hs48 hs71)))))))))) (k := i) hrl (O := O69) (c := 1) (x := (x : Mem.St)) (d := [.int .i64 (x.im : Int), .int .i64 (x.un : Int), .int .i64 (x.fr : Int), .int .i64 (x.to : Int)]) (F := []) rfl (cells4 (bO69_0.1) (bO69_1.1) (bO69_2.1) (bO69_3.1)) (by simp [Value.oneCell']) ⟨rfl, rfl⟩ (fun b hb => by cases hb) (by omega) (by omega)
      refine pl_step rfl (by kernel_rfl) (by kernel_rfl) (by kernel_rfl) (sn_eff (v := .slice (some ⟨g75, 0, none⟩) (i + 1) cap76) (w' := w77) (ex_append rfl (by kernel_rfl) (by kernel_rfl) hrun78) ?_)
      replace bO15_0 := BoxAt.grownR bO15_0 hgb81 (own_not2 hbR (Nat.le_trans hs14 (Nat.le_of_eq hzO15)))
      replace bO15_1 := BoxAt.grownR bO15_1 hgb81 (own_not2 hbR (Nat.le_trans hs14 (Nat.le_of_eq hzO15)))
      replace bO15_2 := BoxAt.grownR bO15_2 hgb81 (own_not2 hbR (Nat.le_trans hs14 (Nat.le_of_eq hzO15)))
      replace bO15_3 := BoxAt.grownR bO15_3 hgb81 (own_not2 hbR (Nat.le_trans hs14 (Nat.le_of_eq hzO15)))
      replace bO23_0 := BoxAt.grownR bO23_0 hgb81 (own_not2 hbR (Nat.le_trans (Nat.le_trans hs14 (Nat.le_trans hs17 (Nat.le_trans hs20 hs22))) (Nat.le_of_eq hzO23)))
      replace bO23_1 := BoxAt.grownR bO23_1 hgb81 (own_not2 hbR (Nat.le_trans (Nat.le_trans hs14 (Nat.le_trans hs17 (Nat.le_trans hs20 hs22))) (Nat.le_of_eq hzO23)))
      replace bO23_2 := BoxAt.grownR bO23_2 hgb81 (own_not2 hbR (Nat.le_trans (Nat.le_trans hs14 (Nat.le_trans hs17 (Nat.le_trans hs20 hs22))) (Nat.le_of_eq hzO23)))
      replace bO23_3 := BoxAt.grownR bO23_3 hgb81 (own_not2 hbR (Nat.le_trans (Nat.le_trans hs14 (Nat.le_trans hs17 (Nat.le_trans hs20 hs22))) (Nat.le_of_eq hzO23)))
      replace own33 := OwnL.grown own33 hgb81 (⟨(hap).kept, st_noF⟩)
      replace bx0 := BoxAt.grownR bx0 hgb81 (own_not2 hbR (Nat.le_trans (Nat.le_trans hs14 (Nat.le_trans hs17 (Nat.le_trans hs20 (Nat.le_trans hs22 (Nat.le_trans hs25 hs36))))) (Nat.le_of_eq hzO42)))
      replace bx1 := BoxAt.grownR bx1 hgb81 (own_not2 hbR (Nat.le_trans (Nat.le_trans hs14 (Nat.le_trans hs17 (Nat.le_trans hs20 (Nat.le_trans hs22 (Nat.le_trans hs25 hs36))))) (Nat.le_of_eq hzO42)))
      replace bx2 := BoxAt.grownR bx2 hgb81 (own_not2 hbR (Nat.le_trans (Nat.le_trans hs14 (Nat.le_trans hs17 (Nat.le_trans hs20 (Nat.le_trans hs22 (Nat.le_trans hs25 hs36))))) (Nat.le_of_eq hzO42)))
      replace bx3 := BoxAt.grownR bx3 hgb81 (own_not2 hbR (Nat.le_trans (Nat.le_trans hs14 (Nat.le_trans hs17 (Nat.le_trans hs20 (Nat.le_trans hs22 (Nat.le_trans hs25 hs36))))) (Nat.le_of_eq hzO42)))
      replace bO69_0 := BoxAt.grownR bO69_0 hgb81 (own_not2 hbR (Nat.le_trans (Nat.le_trans hs14 (Nat.le_trans hs17 (Nat.le_trans hs20 (Nat.le_trans hs22 (Nat.le_trans hs25 (Nat.le_trans hs36 (Nat.le_trans hs44 (Nat.le_trans hs47 hs48)))))))) (Nat.le_of_eq hzO69)))
      replace bO69_1 := BoxAt.grownR bO69_1 hgb81 (own_not2 hbR (Nat.le_trans (Nat.le_trans hs14 (Nat.le_trans hs17 (Nat.le_trans hs20 (Nat.le_trans hs22 (Nat.le_trans hs25 (Nat.le_trans hs36 (Nat.le_trans hs44 (Nat.le_trans hs47 hs48)))))))) (Nat.le_of_eq hzO69)))
      replace bO69_2 := BoxAt.grownR bO69_2 hgb81 (own_not2 hbR (Nat.le_trans (Nat.le_trans hs14 (Nat.le_trans hs17 (Nat.le_trans hs20 (Nat.le_trans hs22 (Nat.le_trans hs25 (Nat.le_trans hs36 (Nat.le_trans hs44 (Nat.le_trans hs47 hs48)))))))) (Nat.le_of_eq hzO69)))
      replace bO69_3 := BoxAt.grownR bO69_3 hgb81 (own_not2 hbR (Nat.le_trans (Nat.le_trans hs14 (Nat.le_trans hs17 (Nat.le_trans hs20 (Nat.le_trans hs22 (Nat.le_trans hs25 (Nat.le_trans hs36 (Nat.le_trans hs44 (Nat.le_trans hs47 hs48)))))))) (Nat.le_of_eq hzO69)))
      replace hE := hgr80.ext _ hE (Nat.le_trans hs6 hs8)
      replace hX9 := hgr80.ext _ hX9 (Nat.le_refl _)
      have hs82 := hgr80.size
      have hl83 := own79.base g75 rfl; have hh84 := own79.lt g75 rfl
      replace hap : Apart (.slice (some ⟨g29, 0, none⟩) (i + 1) cap30) (.slice (some ⟨g75, 0, none⟩) (i + 1) cap76) := (hap.symm.grow hor73 hlo74).symm
      have hbk87 := own79.lt
      refine pl_take (.slice (some ⟨g75, 0, none⟩) (i + 1) cap76) rfl (by kernel_rfl) (by kernel_rfl) (by kernel_rfl) (by kernel_rfl) ?_
      refine pl_nil ?_
      refine qw_block ?_
      refine qw_then ?_
      refine cw_clean [1, 2, 3, 9, 10, 11, 12, 13] (ws' := [(1, .slice a1 n1 c1), (2, .int .i64 (i2 : Int)), (3, .int .i64 (i3 : Int)), (9, .bool true), (10, .slice (some ⟨bO, oO, none⟩) kO cO), (11, .slice (some ⟨g29, 0, none⟩) (i + 1) cap30), (12, .slice (some ⟨g75, 0, none⟩) (i + 1) cap76), (13, .int .i64 (((i : Nat) : Int) : Int))]) (by kernel_rfl) (fun L => ?_)
      refine cw_plain ?_
      refine pl_take (.int .i64 (((i : Nat) : Int) : Int)) rfl (by kernel_rfl) (by kernel_rfl) (by kernel_rfl) (by kernel_rfl) ?_
      refine pl_take (.int .i64 (((i + 1 : Nat) : Int) : Int)) rfl (by kernel_rfl) (by kernel_rfl) (by kernel_rfl) (ev_wrap (by kernel_rfl) (by omega) (by omega)) ?_
      refine pl_take (.int .i64 (((i + 1 : Nat) : Int) : Int)) rfl (by kernel_rfl) (by kernel_rfl) (by kernel_rfl) (by kernel_rfl) ?_
      refine pl_nil ?_
      refine qw_round [1, 2, 3, 9, 10, 11, 12, 13] (ws' := [(1, .slice a1 n1 c1), (2, .int .i64 (i2 : Int)), (3, .int .i64 (i3 : Int)), (9, .bool true), (10, .slice (some ⟨bO, oO, none⟩) kO cO), (11, .slice (some ⟨g29, 0, none⟩) (i + 1) cap30), (12, .slice (some ⟨g75, 0, none⟩) (i + 1) cap76), (13, .int .i64 (((i + 1 : Nat) : Int) : Int))]) (by kernel_rfl) _ ?_ ⟨(i + 1), (some ⟨g29, 0, none⟩), cap30, (some ⟨g75, 0, none⟩), cap76, (rl ++ [x]), rfl, rfl, (Nat.le_trans hs10 (Nat.le_trans hs14 (Nat.le_trans hs17 (Nat.le_trans hs20 (Nat.le_trans hs22 (Nat.le_trans hs25 (Nat.le_trans hs36 (Nat.le_trans hs44 (Nat.le_trans hs47 (Nat.le_trans hs48 (Nat.le_trans hs71 hs82))))))))))), hE, hX9, (by rw [hwn]; exact own33), own79, by omega, (by rw [List.length_append, hrl]; rfl), (by rw [hwn]; exact hrel.snoc hrx), hap⟩
      omega
  ·
    have hin : i = kO := by omega
    rw [hin] at hrel
    refine cw_seq ?_
    refine cw_seq ?_
    refine cw_plain ?_
    refine pl_take (.int .i64 (((i : Nat) : Int) : Int)) rfl (by kernel_rfl) (by kernel_rfl) (by kernel_rfl) (by kernel_rfl) ?_
    refine pl_take (.slice aO kO cO) rfl (by kernel_rfl) (by kernel_rfl) (by kernel_rfl) (by kernel_rfl) ?_
    refine pl_take (.int .i64 (((kO : Nat) : Int) : Int)) rfl (by kernel_rfl) (by kernel_rfl) (by kernel_rfl) (by kernel_rfl) ?_
    refine pl_take (.bool false) rfl (by kernel_rfl) (by kernel_rfl) (by kernel_rfl) (ev_ndec (show _ = Result.ok (Next.value (Value.bool (decide ((((i : Nat) : Int) : Int) < (((kO : Nat) : Int) : Int))))) _ from by kernel_rfl) (by omega)) ?_
    refine pl_nil ?_
    refine qw_then ?_
    refine cw_f (by kernel_rfl) ?_
    refine cw_exit ?_
    refine qw_then_exit ?_
    refine qw_then_exit ?_
    refine qw_block_out ?_
    refine qw_then ?_
    refine cw_seq ?_
    refine cw_plain ?_
    refine pl_take (.int .i64 (i2 : Int)) rfl (by kernel_rfl) (by kernel_rfl) (by kernel_rfl) (by kernel_rfl) ?_
    refine pl_step rfl (by kernel_rfl) (by kernel_rfl) (by kernel_rfl) (sn_call (f := 12) (args := #[.int .i64 (i2 : Int), .int .i64 600]) (by kernel_rfl) ((pickv_c i2 600 _ hi2 (by omega) (by omega)).mono ?_))
    rintro e w' ⟨pk88, rfl, hqpk88, rfl⟩
    refine ⟨_, rfl, ?_⟩
    refine pl_take (.int .i64 (pk88 : Int)) rfl (by kernel_rfl) (by kernel_rfl) (by kernel_rfl) (by kernel_rfl) ?_
    refine pl_nil ?_
    refine qw_then ?_
    refine cw_clean [3, 9, 11, 12, 20] (ws' := [(3, .int .i64 (i3 : Int)), (9, .bool true), (11, .slice aW i cW), (12, .slice aR i cR), (20, .int .i64 (pk88 : Int))]) (by kernel_rfl) (fun L => ?_)
    refine cw_seq ?_
    refine cw_plain ?_
    refine pl_take (.int .i64 (i3 : Int)) rfl (by kernel_rfl) (by kernel_rfl) (by kernel_rfl) (by kernel_rfl) ?_
    refine pl_step rfl (by kernel_rfl) (by kernel_rfl) (by kernel_rfl) (sn_call (f := 12) (args := #[.int .i64 (i3 : Int), .int .i64 400]) (by kernel_rfl) ((pickv_c i3 400 _ hi3 (by omega) (by omega)).mono ?_))
    rintro e w' ⟨pk89, rfl, hqpk89, rfl⟩
    refine ⟨_, rfl, ?_⟩
    refine pl_take (.int .i64 (pk89 : Int)) rfl (by kernel_rfl) (by kernel_rfl) (by kernel_rfl) (by kernel_rfl) ?_
    refine pl_nil ?_
    refine qw_then ?_
    refine cw_seq ?_
    have hokW := Mem.ws_ok hgo hO1
    have hokR := hrel.ok hokW
    have hMW : StsAt w11 aW i (Mem.wsL po kO) := own_sts (by rw [← hin]; exact ownW) (by rw [Mem.wsL_len (by omega), hin]) (by omega)
    have hMR : StsAt w11 aR i rl := own_sts ownR hrl (by omega)
    have huW := Mem.okL_u hokW; have hfW := Mem.okL_f hokW
    have hX90 : Ext w11 w11 := Ext.refl _
    refine cw_plain ?_
    refine pl_take (.slice aW i cW) rfl (by kernel_rfl) (by kernel_rfl) (by kernel_rfl) (by kernel_rfl) ?_
    refine pl_take (.int .i64 (pk88 : Int)) rfl (by kernel_rfl) (by kernel_rfl) (by kernel_rfl) (by kernel_rfl) ?_
    refine pl_step rfl (by kernel_rfl) (by kernel_rfl) (by kernel_rfl) (sn_call (f := 20) (args := #[.slice aW i cW, .int .i64 (pk88 : Int)]) (by kernel_rfl) ((Fill_y pk88 _ _ hMW (Ext.refl _) hokW (by omega) (by omega)).mono ?_))
    rintro e w92 ⟨f91, rfl, hf91, hb⟩
    replace hE := hE.trans hb
    replace hX9 := hX9.trans hb
    replace hX90 := hX90.trans hb
    have hs93 := hb.size
    clear hb
    refine ⟨_, rfl, ?_⟩
    refine pl_take (.tuple #[.int .i64 (f91 : Int), .int .i64 0]) rfl (by kernel_rfl) (by kernel_rfl) (by kernel_rfl) (by kernel_rfl) ?_
    refine pl_take (.int .i64 (f91 : Int)) rfl (by kernel_rfl) (by kernel_rfl) (by kernel_rfl) (by kernel_rfl) ?_
    refine pl_take (.int .i64 0) rfl (by kernel_rfl) (by kernel_rfl) (by kernel_rfl) (by kernel_rfl) ?_
    refine pl_take (.int .i64 (f91 : Int)) rfl (by kernel_rfl) (by kernel_rfl) (by kernel_rfl) (by kernel_rfl) ?_
    refine pl_take (.int .i64 0) rfl (by kernel_rfl) (by kernel_rfl) (by kernel_rfl) (by kernel_rfl) ?_
    refine pl_nil ?_
    refine qw_then ?_
    refine cw_clean [9, 11, 12, 20, 21, 22, 23] (ws' := [(9, .bool true), (11, .slice aW i cW), (12, .slice aR i cR), (20, .int .i64 (pk88 : Int)), (21, .int .i64 (pk89 : Int)), (22, .int .i64 (f91 : Int)), (23, .int .i64 0)]) (by kernel_rfl) (fun L => ?_)
    refine cw_seq ?_
    refine cw_plain ?_
    refine pl_take (.slice aR i cR) rfl (by kernel_rfl) (by kernel_rfl) (by kernel_rfl) (by kernel_rfl) ?_
    refine pl_take (.int .i64 (pk88 : Int)) rfl (by kernel_rfl) (by kernel_rfl) (by kernel_rfl) (by kernel_rfl) ?_
    refine pl_step rfl (by kernel_rfl) (by kernel_rfl) (by kernel_rfl) (sn_call (f := 20) (args := #[.slice aR i cR, .int .i64 (pk88 : Int)]) (by kernel_rfl) ((Fill_y pk88 _ _ hMR hX90 hokR (by omega) (by omega)).mono ?_))
    rintro e w95 ⟨f94, rfl, hf94, hb⟩
    replace hE := hE.trans hb
    replace hX9 := hX9.trans hb
    replace hX90 := hX90.trans hb
    have hs96 := hb.size
    clear hb
    refine ⟨_, rfl, ?_⟩
    refine pl_take (.tuple #[.int .i64 (f94 : Int), .int .i64 0]) rfl (by kernel_rfl) (by kernel_rfl) (by kernel_rfl) (by kernel_rfl) ?_
    refine pl_take (.int .i64 (f94 : Int)) rfl (by kernel_rfl) (by kernel_rfl) (by kernel_rfl) (by kernel_rfl) ?_
    refine pl_take (.int .i64 0) rfl (by kernel_rfl) (by kernel_rfl) (by kernel_rfl) (by kernel_rfl) ?_
    refine pl_take (.int .i64 (f94 : Int)) rfl (by kernel_rfl) (by kernel_rfl) (by kernel_rfl) (by kernel_rfl) ?_
    refine pl_take (.int .i64 0) rfl (by kernel_rfl) (by kernel_rfl) (by kernel_rfl) (by kernel_rfl) ?_
    refine pl_nil ?_
    refine qw_then ?_
    refine cw_clean [9, 11, 12, 21, 22, 23, 24, 25] (ws' := [(9, .bool true), (11, .slice aW i cW), (12, .slice aR i cR), (21, .int .i64 (pk89 : Int)), (22, .int .i64 (f91 : Int)), (23, .int .i64 0), (24, .int .i64 (f94 : Int)), (25, .int .i64 0)]) (by kernel_rfl) (fun L => ?_)
    refine cw_seq ?_
    refine cw_plain ?_
    refine pl_take (.slice aW i cW) rfl (by kernel_rfl) (by kernel_rfl) (by kernel_rfl) (by kernel_rfl) ?_
    refine pl_step rfl (by kernel_rfl) (by kernel_rfl) (by kernel_rfl) (sn_call (f := 13) (args := #[.slice aW i cW]) (by kernel_rfl) ((Most_y _ _ hMW hX90 hokW).mono ?_))
    rintro e w99 ⟨b97, t98, rfl, hmb97, hb⟩
    replace hE := hE.trans hb
    replace hX9 := hX9.trans hb
    replace hX90 := hX90.trans hb
    have hs100 := hb.size
    clear hb
    refine ⟨_, rfl, ?_⟩
    refine pl_take (.tuple #[.int .i64 (b97 : Int), .int .i64 (t98 : Int), .int .i64 0]) rfl (by kernel_rfl) (by kernel_rfl) (by kernel_rfl) (by kernel_rfl) ?_
    refine pl_take (.int .i64 (b97 : Int)) rfl (by kernel_rfl) (by kernel_rfl) (by kernel_rfl) (by kernel_rfl) ?_
    refine pl_take (.int .i64 (t98 : Int)) rfl (by kernel_rfl) (by kernel_rfl) (by kernel_rfl) (by kernel_rfl) ?_
    refine pl_take (.int .i64 0) rfl (by kernel_rfl) (by kernel_rfl) (by kernel_rfl) (by kernel_rfl) ?_
    refine pl_take (.int .i64 (b97 : Int)) rfl (by kernel_rfl) (by kernel_rfl) (by kernel_rfl) (by kernel_rfl) ?_
    refine pl_take (.int .i64 (t98 : Int)) rfl (by kernel_rfl) (by kernel_rfl) (by kernel_rfl) (by kernel_rfl) ?_
    refine pl_take (.int .i64 0) rfl (by kernel_rfl) (by kernel_rfl) (by kernel_rfl) (by kernel_rfl) ?_
    refine pl_nil ?_
    refine qw_then ?_
    refine cw_clean [9, 11, 12, 21, 22, 23, 24, 25, 26, 28] (ws' := [(9, .bool true), (11, .slice aW i cW), (12, .slice aR i cR), (21, .int .i64 (pk89 : Int)), (22, .int .i64 (f91 : Int)), (23, .int .i64 0), (24, .int .i64 (f94 : Int)), (25, .int .i64 0), (26, .int .i64 (b97 : Int)), (28, .int .i64 0)]) (by kernel_rfl) (fun L => ?_)
    refine cw_seq ?_
    refine cw_plain ?_
    refine pl_take (.slice aR i cR) rfl (by kernel_rfl) (by kernel_rfl) (by kernel_rfl) (by kernel_rfl) ?_
    refine pl_step rfl (by kernel_rfl) (by kernel_rfl) (by kernel_rfl) (sn_call (f := 13) (args := #[.slice aR i cR]) (by kernel_rfl) ((Most_y _ _ hMR hX90 hokR).mono ?_))
    rintro e w103 ⟨b101, t102, rfl, hmb101, hb⟩
    replace hE := hE.trans hb
    replace hX9 := hX9.trans hb
    replace hX90 := hX90.trans hb
    have hs104 := hb.size
    clear hb
    refine ⟨_, rfl, ?_⟩
    refine pl_take (.tuple #[.int .i64 (b101 : Int), .int .i64 (t102 : Int), .int .i64 0]) rfl (by kernel_rfl) (by kernel_rfl) (by kernel_rfl) (by kernel_rfl) ?_
    refine pl_take (.int .i64 (b101 : Int)) rfl (by kernel_rfl) (by kernel_rfl) (by kernel_rfl) (by kernel_rfl) ?_
    refine pl_take (.int .i64 (t102 : Int)) rfl (by kernel_rfl) (by kernel_rfl) (by kernel_rfl) (by kernel_rfl) ?_
    refine pl_take (.int .i64 0) rfl (by kernel_rfl) (by kernel_rfl) (by kernel_rfl) (by kernel_rfl) ?_
    refine pl_take (.int .i64 (b101 : Int)) rfl (by kernel_rfl) (by kernel_rfl) (by kernel_rfl) (by kernel_rfl) ?_
    refine pl_take (.int .i64 (t102 : Int)) rfl (by kernel_rfl) (by kernel_rfl) (by kernel_rfl) (by kernel_rfl) ?_
    refine pl_take (.int .i64 0) rfl (by kernel_rfl) (by kernel_rfl) (by kernel_rfl) (by kernel_rfl) ?_
    refine pl_nil ?_
    refine qw_then ?_
    refine cw_clean [9, 11, 12, 21, 22, 23, 24, 25, 26, 28, 29, 31] (ws' := [(9, .bool true), (11, .slice aW i cW), (12, .slice aR i cR), (21, .int .i64 (pk89 : Int)), (22, .int .i64 (f91 : Int)), (23, .int .i64 0), (24, .int .i64 (f94 : Int)), (25, .int .i64 0), (26, .int .i64 (b97 : Int)), (28, .int .i64 0), (29, .int .i64 (b101 : Int)), (31, .int .i64 0)]) (by kernel_rfl) (fun L => ?_)
    refine cw_seq ?_
    refine cw_plain ?_
    refine pl_take (.slice aW i cW) rfl (by kernel_rfl) (by kernel_rfl) (by kernel_rfl) (by kernel_rfl) ?_
    refine pl_take (.int .i64 (pk89 : Int)) rfl (by kernel_rfl) (by kernel_rfl) (by kernel_rfl) (by kernel_rfl) ?_
    refine pl_step rfl (by kernel_rfl) (by kernel_rfl) (by kernel_rfl) (sn_call (f := 22) (args := #[.slice aW i cW, .int .i64 (pk89 : Int)]) (by kernel_rfl) ((Over_y pk89 _ _ hMW hX90 hokW (by omega) (by omega)).mono ?_))
    rintro e w106 ⟨ov105, rfl, hov105, hb⟩
    replace hE := hE.trans hb
    replace hX9 := hX9.trans hb
    replace hX90 := hX90.trans hb
    have hs107 := hb.size
    clear hb
    refine ⟨_, rfl, ?_⟩
    refine pl_take (.tuple #[.int .i64 (ov105 : Int), .int .i64 0]) rfl (by kernel_rfl) (by kernel_rfl) (by kernel_rfl) (by kernel_rfl) ?_
    refine pl_take (.int .i64 (ov105 : Int)) rfl (by kernel_rfl) (by kernel_rfl) (by kernel_rfl) (by kernel_rfl) ?_
    refine pl_take (.int .i64 0) rfl (by kernel_rfl) (by kernel_rfl) (by kernel_rfl) (by kernel_rfl) ?_
    refine pl_take (.int .i64 (ov105 : Int)) rfl (by kernel_rfl) (by kernel_rfl) (by kernel_rfl) (by kernel_rfl) ?_
    refine pl_take (.int .i64 0) rfl (by kernel_rfl) (by kernel_rfl) (by kernel_rfl) (by kernel_rfl) ?_
    refine pl_nil ?_
    refine qw_then ?_
    refine cw_clean [9, 12, 21, 22, 23, 24, 25, 26, 28, 29, 31, 32, 33] (ws' := [(9, .bool true), (12, .slice aR i cR), (21, .int .i64 (pk89 : Int)), (22, .int .i64 (f91 : Int)), (23, .int .i64 0), (24, .int .i64 (f94 : Int)), (25, .int .i64 0), (26, .int .i64 (b97 : Int)), (28, .int .i64 0), (29, .int .i64 (b101 : Int)), (31, .int .i64 0), (32, .int .i64 (ov105 : Int)), (33, .int .i64 0)]) (by kernel_rfl) (fun L => ?_)
    refine cw_seq ?_
    refine cw_plain ?_
    refine pl_take (.slice aR i cR) rfl (by kernel_rfl) (by kernel_rfl) (by kernel_rfl) (by kernel_rfl) ?_
    refine pl_take (.int .i64 (pk89 : Int)) rfl (by kernel_rfl) (by kernel_rfl) (by kernel_rfl) (by kernel_rfl) ?_
    refine pl_step rfl (by kernel_rfl) (by kernel_rfl) (by kernel_rfl) (sn_call (f := 22) (args := #[.slice aR i cR, .int .i64 (pk89 : Int)]) (by kernel_rfl) ((Over_y pk89 _ _ hMR hX90 hokR (by omega) (by omega)).mono ?_))
    rintro e w109 ⟨ov108, rfl, hov108, hb⟩
    replace hE := hE.trans hb
    replace hX9 := hX9.trans hb
    replace hX90 := hX90.trans hb
    have hs110 := hb.size
    clear hb
    refine ⟨_, rfl, ?_⟩
    refine pl_take (.tuple #[.int .i64 (ov108 : Int), .int .i64 0]) rfl (by kernel_rfl) (by kernel_rfl) (by kernel_rfl) (by kernel_rfl) ?_
    refine pl_take (.int .i64 (ov108 : Int)) rfl (by kernel_rfl) (by kernel_rfl) (by kernel_rfl) (by kernel_rfl) ?_
    refine pl_take (.int .i64 0) rfl (by kernel_rfl) (by kernel_rfl) (by kernel_rfl) (by kernel_rfl) ?_
    refine pl_take (.int .i64 (ov108 : Int)) rfl (by kernel_rfl) (by kernel_rfl) (by kernel_rfl) (by kernel_rfl) ?_
    refine pl_take (.int .i64 0) rfl (by kernel_rfl) (by kernel_rfl) (by kernel_rfl) (by kernel_rfl) ?_
    refine pl_nil ?_
    refine qw_then ?_
    refine cw_clean [9, 22, 23, 24, 25, 26, 28, 29, 31, 32, 33, 34, 35] (ws' := [(9, .bool true), (22, .int .i64 (f91 : Int)), (23, .int .i64 0), (24, .int .i64 (f94 : Int)), (25, .int .i64 0), (26, .int .i64 (b97 : Int)), (28, .int .i64 0), (29, .int .i64 (b101 : Int)), (31, .int .i64 0), (32, .int .i64 (ov105 : Int)), (33, .int .i64 0), (34, .int .i64 (ov108 : Int)), (35, .int .i64 0)]) (by kernel_rfl) (fun L => ?_)
    refine cw_seq ?_
    have hle := hrel.fill huW pk88; rw [hf91, hf94] at hle
    have hml := Mem.most_le huW (hrel.fill huW) hmb97 hmb101
    have hol := fun ht => Mem.over_le hfW (hrel.fill huW) hov105 hov108 ht
    refine cw_plain ?_
    refine pl_take (.bool true) rfl (by kernel_rfl) (by kernel_rfl) (by kernel_rfl) (by kernel_rfl) ?_
    refine pl_take (.bool true) rfl (by kernel_rfl) (by kernel_rfl) (by kernel_rfl) (by kernel_rfl) ?_
    refine pl_take (.int .i64 0) rfl (by kernel_rfl) (by kernel_rfl) (by kernel_rfl) (by kernel_rfl) ?_
    refine pl_take (.bool true) rfl (by kernel_rfl) (by kernel_rfl) (by kernel_rfl) (by kernel_rfl) ?_
    refine pl_take (.bool true) rfl (by kernel_rfl) (by kernel_rfl) (by kernel_rfl) (by kernel_rfl) ?_
    refine pl_take (.bool true) rfl (by kernel_rfl) (by kernel_rfl) (by kernel_rfl) (by kernel_rfl) ?_
    refine pl_take (.int .i64 0) rfl (by kernel_rfl) (by kernel_rfl) (by kernel_rfl) (by kernel_rfl) ?_
    refine pl_take (.bool true) rfl (by kernel_rfl) (by kernel_rfl) (by kernel_rfl) (by kernel_rfl) ?_
    refine pl_take (.bool true) rfl (by kernel_rfl) (by kernel_rfl) (by kernel_rfl) (by kernel_rfl) ?_
    refine pl_take (.bool true) rfl (by kernel_rfl) (by kernel_rfl) (by kernel_rfl) (by kernel_rfl) ?_
    refine pl_take (.int .i64 0) rfl (by kernel_rfl) (by kernel_rfl) (by kernel_rfl) (by kernel_rfl) ?_
    refine pl_take (.bool true) rfl (by kernel_rfl) (by kernel_rfl) (by kernel_rfl) (by kernel_rfl) ?_
    refine pl_take (.bool true) rfl (by kernel_rfl) (by kernel_rfl) (by kernel_rfl) (by kernel_rfl) ?_
    refine pl_take (.bool true) rfl (by kernel_rfl) (by kernel_rfl) (by kernel_rfl) (by kernel_rfl) ?_
    refine pl_take (.int .i64 0) rfl (by kernel_rfl) (by kernel_rfl) (by kernel_rfl) (by kernel_rfl) ?_
    refine pl_take (.bool true) rfl (by kernel_rfl) (by kernel_rfl) (by kernel_rfl) (by kernel_rfl) ?_
    refine pl_take (.bool true) rfl (by kernel_rfl) (by kernel_rfl) (by kernel_rfl) (by kernel_rfl) ?_
    refine pl_take (.bool true) rfl (by kernel_rfl) (by kernel_rfl) (by kernel_rfl) (by kernel_rfl) ?_
    refine pl_take (.int .i64 0) rfl (by kernel_rfl) (by kernel_rfl) (by kernel_rfl) (by kernel_rfl) ?_
    refine pl_take (.bool true) rfl (by kernel_rfl) (by kernel_rfl) (by kernel_rfl) (by kernel_rfl) ?_
    refine pl_take (.bool true) rfl (by kernel_rfl) (by kernel_rfl) (by kernel_rfl) (by kernel_rfl) ?_
    refine pl_take (.bool true) rfl (by kernel_rfl) (by kernel_rfl) (by kernel_rfl) (by kernel_rfl) ?_
    refine pl_take (.int .i64 0) rfl (by kernel_rfl) (by kernel_rfl) (by kernel_rfl) (by kernel_rfl) ?_
    refine pl_take (.bool true) rfl (by kernel_rfl) (by kernel_rfl) (by kernel_rfl) (by kernel_rfl) ?_
    refine pl_take (.bool true) rfl (by kernel_rfl) (by kernel_rfl) (by kernel_rfl) (by kernel_rfl) ?_
    refine pl_take (.bool true) rfl (by kernel_rfl) (by kernel_rfl) (by kernel_rfl) (by kernel_rfl) ?_
    refine pl_take (.int .i64 (f94 : Int)) rfl (by kernel_rfl) (by kernel_rfl) (by kernel_rfl) (by kernel_rfl) ?_
    refine pl_take (.int .i64 (f91 : Int)) rfl (by kernel_rfl) (by kernel_rfl) (by kernel_rfl) (by kernel_rfl) ?_
    refine pl_take (.bool true) rfl (by kernel_rfl) (by kernel_rfl) (by kernel_rfl) (ev_dec (show _ = Result.ok (Next.value (Value.bool (decide ((f94 : Int) ≤ (f91 : Int))))) _ from by kernel_rfl) (by omega)) ?_
    refine pl_take (.bool true) rfl (by kernel_rfl) (by kernel_rfl) (by kernel_rfl) (by kernel_rfl) ?_
    refine pl_take (.bool true) rfl (by kernel_rfl) (by kernel_rfl) (by kernel_rfl) (by kernel_rfl) ?_
    refine pl_take (.int .i64 (b101 : Int)) rfl (by kernel_rfl) (by kernel_rfl) (by kernel_rfl) (by kernel_rfl) ?_
    refine pl_take (.int .i64 (b97 : Int)) rfl (by kernel_rfl) (by kernel_rfl) (by kernel_rfl) (by kernel_rfl) ?_
    refine pl_take (.bool true) rfl (by kernel_rfl) (by kernel_rfl) (by kernel_rfl) (ev_dec (show _ = Result.ok (Next.value (Value.bool (decide ((b101 : Int) ≤ (b97 : Int))))) _ from by kernel_rfl) (by omega)) ?_
    refine pl_take (.bool true) rfl (by kernel_rfl) (by kernel_rfl) (by kernel_rfl) (by kernel_rfl) ?_
    refine pl_take (.bool true) rfl (by kernel_rfl) (by kernel_rfl) (by kernel_rfl) (by kernel_rfl) ?_
    refine pl_take (.int .i64 (ov105 : Int)) rfl (by kernel_rfl) (by kernel_rfl) (by kernel_rfl) (by kernel_rfl) ?_
    by_cases hc111 : (ov105 : Int) ≥ (0 : Int)
    ·
      refine pl_take (.bool true) rfl (by kernel_rfl) (by kernel_rfl) (by kernel_rfl) (ev_dec (show _ = Result.ok (Next.value (Value.bool (decide ((ov105 : Int) ≥ (0 : Int))))) _ from by kernel_rfl) (hc111)) ?_
      refine pl_take (.bool true) rfl (by kernel_rfl) (by kernel_rfl) (by kernel_rfl) (by kernel_rfl) ?_
      refine pl_skip rfl (by kernel_rfl) (by kernel_rfl) (by kernel_rfl) ?_
      refine pl_skip rfl (by kernel_rfl) (by kernel_rfl) (by kernel_rfl) ?_
      refine pl_take (.bool true) rfl (by kernel_rfl) (by kernel_rfl) (by kernel_rfl) (by kernel_rfl) ?_
      refine pl_take (.bool true) rfl (by kernel_rfl) (by kernel_rfl) (by kernel_rfl) (by kernel_rfl) ?_
      refine pl_take (.bool true) rfl (by kernel_rfl) (by kernel_rfl) (by kernel_rfl) (by kernel_rfl) ?_
      refine pl_nil ?_
      refine qw_then ?_
      refine cw_clean [8] (ws' := [(8, .bool true)]) (by kernel_rfl) (fun L => ?_)
      refine cw_ret ?_
      refine qw_ret [.bool true] rfl ⟨(by kernel_rfl), trivial⟩ ?_
      exact ⟨rfl, hE⟩
    ·
      refine pl_take (.bool false) rfl (by kernel_rfl) (by kernel_rfl) (by kernel_rfl) (ev_ndec (show _ = Result.ok (Next.value (Value.bool (decide ((ov105 : Int) ≥ (0 : Int))))) _ from by kernel_rfl) (hc111)) ?_
      refine pl_take (.bool false) rfl (by kernel_rfl) (by kernel_rfl) (by kernel_rfl) (by kernel_rfl) ?_
      refine pl_take (.int .i64 (ov108 : Int)) rfl (by kernel_rfl) (by kernel_rfl) (by kernel_rfl) (by kernel_rfl) ?_
      refine pl_take (.bool true) rfl (by kernel_rfl) (by kernel_rfl) (by kernel_rfl) (ev_dec (show _ = Result.ok (Next.value (Value.bool (decide ((ov108 : Int) < (0 : Int))))) _ from by kernel_rfl) (hol (by omega))) ?_
      refine pl_take (.bool true) rfl (by kernel_rfl) (by kernel_rfl) (by kernel_rfl) (by kernel_rfl) ?_
      refine pl_take (.bool true) rfl (by kernel_rfl) (by kernel_rfl) (by kernel_rfl) (by kernel_rfl) ?_
      refine pl_take (.bool true) rfl (by kernel_rfl) (by kernel_rfl) (by kernel_rfl) (by kernel_rfl) ?_
      refine pl_nil ?_
      refine qw_then ?_
      refine cw_clean [8] (ws' := [(8, .bool true)]) (by kernel_rfl) (fun L => ?_)
      refine cw_ret ?_
      refine qw_ret [.bool true] rfl ⟨(by kernel_rfl), trivial⟩ ?_
      exact ⟨rfl, hE⟩

end Go.Proofs.Ytnbjjddfcondlaa

/- The statement MemoryFrees: for every input the law returns true, and every argument reads as it read before; the two tables of package math/bits that the row lists are tied to the program's text. -/
namespace Go.Proofs.Ytnbjjddfcondlaa
open Go.ChangeShapes Go.WideShapes Go.ChangeAt Go.RowKit

set_option maxRecDepth 100000 in
theorem MemoryFrees_lifted (os : Os) (started : os.Started) (H : Type) (enc : TypeId × Value → H) :
    ReturnsInHanded {} Try.checked os 5 .any (Rows.memoryFreesSpec.pre6 enc Try.prog Try.f5 Rows.memoryFreesRow.domain false)
      (Rows.memoryFreesSpec.post enc Try.prog Try.f5 false true false false) := by
  refine returnsInHanded_of_change_sized (C := Try.checked) own started (by kernel_rfl) Try.func5
    (ChangeSpec.witness6 (enc := enc) (C := Try.checked) false ⟨#[], #[.slice none 0 0, .slice none 0 0, .int .i64 0, .int .i64 0], []⟩ 8 (by kernel_rfl) (by kernel_rfl) (by kernel_rfl) (by kernel_rfl)) ?_
  intro W base args ds gs before hval0 hW _ hsz _
  have hval : ∀ (j : Nat) t v, Try.f5.params[j]? = some t → args[j]? = some v → Value.okWide Try.prog W .any base t v := hval0
  have hW' := hW
  obtain ⟨p, q, hA0, hV, rfl, hfz, hnd⟩ := hW
  have hA : DataW.TrodAll enc Try.prog W 0 (fun _ => true) true Try.f5.params.toList args.toList ds p := hA0
  rw [Try.params5] at hA hval
  obtain ⟨v0, vs0, d0, ds0, p0, q0, hargs, rfl, rfl, h0, r0⟩ := trodAll_cons hA
  obtain ⟨v1, vs1, d1, ds1, p1, q1, rfl, rfl, rfl, h1, r1⟩ := trodAll_cons r0
  obtain ⟨v2, vs2, d2, ds2, p2, q2, rfl, rfl, rfl, h2, r2⟩ := trodAll_cons r1
  obtain ⟨v3, vs3, d3, ds3, p3, q3, rfl, rfl, rfl, h3, r3⟩ := trodAll_cons r2
  obtain ⟨rfl, rfl, rfl⟩ := trodAll_nil r3
  obtain rfl : args = #[v0, v1, v2, v3] := by cases args; simp_all
  obtain ⟨rfl, rfl⟩ := trodVars_none hV
  have k0 := h0
  have lt0 : ∀ x ∈ p0, x.block < W.heap.size := by obtain ⟨m, hm⟩ := k0; exact DataW.trod_lt m _ _ _ hm
  have op0 := open_sixes (hval 0 _ v0 rfl rfl) h0
  have k1 := h1
  have lt1 : ∀ x ∈ p1, x.block < W.heap.size := by obtain ⟨m, hm⟩ := k1; exact DataW.trod_lt m _ _ _ hm
  have op1 := open_ints (hval 1 _ v1 rfl rfl) h1
  obtain ⟨a2, rfl, rfl, rfl, w2⟩ := open_int Try.underlying3 (hval 2 3 v2 rfl rfl) h2
  obtain ⟨a3, rfl, rfl, rfl, w3⟩ := open_int Try.underlying3 (hval 3 3 v3 rfl rfl) h3
  clear hA0 hval0
  refine (MemoryFrees_walk W v0 op0 v1 op1 a2 (isI_of_wf w2) a3 (isI_of_wf w3)).mono fun e W' ⟨he, hE⟩ => ?_
  subst he
  have bel : Below W.heap.size W W' := hE
  exact ⟨_, rfl, _, _, _, [], _, [], hW', trodAll_mk1 (shut_bool Try.underlying4 _), (trodAll_cons_mk (Below.trod laidOut (by kernel_rfl) (of_decide_eq_true (by kernel_rfl)) k0 bel lt0) (trodAll_cons_mk (Below.trod laidOut (by kernel_rfl) (of_decide_eq_true (by kernel_rfl)) k1 bel lt1) (trodAll_cons_mk (shut_int Try.underlying3 w2) (trodAll_cons_mk (shut_int Try.underlying3 w3) trodAll_mk0)))), rfl, bel.frame _, fun h => by cases h⟩

theorem MemoryFrees_over : Rows.MemoryFreesSaid :=
  OpenClaim.holds_of_wide 5 Try.f5 rfl rfl rfl rfl rfl rfl rfl ⟨rfl, rfl, rfl, rfl, rfl⟩ rfl rfl rfl rfl rfl (by kernel_rfl) Try.func5 (by kernel_rfl)
    (of_decide_eq_true (by kernel_rfl)) (by unfold Func.isWrapper; first | (rw [if_pos (by decide +kernel)]; kernel_rfl) | (rw [if_neg (by decide +kernel)]; exact ⟨rfl, rfl⟩))
    (fun os started H enc _ => MemoryFrees_lifted os started H enc)

theorem MemoryFrees_holds : Rows.MemoryFreesSaid := MemoryFrees_over
#print axioms MemoryFrees_holds
end Go.Proofs.Ytnbjjddfcondlaa
