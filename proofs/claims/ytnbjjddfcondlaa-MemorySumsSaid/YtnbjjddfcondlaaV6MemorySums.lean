/- The statement MemorySums: for every input that the row lists, the law returns true, and every argument reads as it read before. -/
import Derived.Test.YtnbjjddfcondlaaV5MemorySums
/- The walk of MemorySums. -/
namespace Go.Proofs.Ytnbjjddfcondlaa
open Go.RowKit

namespace Mem
/-- Whether one of the first i images begins at w. -/
def begU (l : List St) (w : Int) (i : Nat) : Bool := decide (l.length = 0) || (l.take i).any fun x => decide (x.fr = w)
theorem begU_next {l : List St} {w : Int} {i : Nat} (hi : i < l.length) : begU l w (i + 1) = (begU l w i || decide ((stN l i).fr = w)) := by
  unfold begU; rw [stN_take hi, List.any_append]; simp [Bool.or_assoc]
theorem begU_all {l : List St} {w : Int} (h : l.length = 0 ∨ ∃ x ∈ l, x.fr = w) : begU l w l.length = true := by
  unfold begU
  rw [List.take_length]
  rcases h with h | ⟨x, hx, e⟩
  · simp [h]
  · rw [Bool.or_eq_true, List.any_eq_true]; exact .inr ⟨x, hx, by simp [e]⟩
theorem IsOver.say {l : List St} {lim t : Int} (h : IsOver l lim t) (hok : okL l = true) : -1 ≤ t ∧ (∀ s, lim < fill l s → 0 ≤ t ∧ t ≤ s) ∧ (0 ≤ t → lim < fill l t ∧ ∃ x ∈ l, x.fr = t) := by
  rcases h with ⟨rfl, h⟩ | ⟨⟨x, hx, e⟩, h1, h2⟩
  · exact ⟨by omega, fun s hs => by have := h s; omega, fun h => absurd h (by omega)⟩
  · have hf := okL_f hok x hx
    refine ⟨by omega, fun s hs => ⟨by omega, ?_⟩, fun _ => ⟨h1, x, hx, e⟩⟩
    rcases Int.lt_or_le s t with q | q
    · have := h2 s q; omega
    · exact q
end Mem
set_option maxRecDepth 1000000 in
set_option maxHeartbeats 4000000 in
theorem MemorySums_walk (w : World) (v0 : Value) (op0 : Tris w v0) (i1 : Int) (hi1 : IsI i1) (i2 : Int) (hi2 : IsI i2) : Calls Try.prog 6 #[v0, .int .i64 i1, .int .i64 i2] w fun e w' => e = .returned (.bool true) ∧ Ext w w' := by
  obtain ⟨a0, n0, c0, q, rfl, hnc, hcm, hT⟩ := op0
  refine calls_cw 197 [(2, .int .i64 (i2 : Int)), (1, .int .i64 (i1 : Int)), (0, .slice a0 n0 c0)] Try.func6 rfl Try.ntmps6 (by kernel_rfl) (by kernel_rfl) (fun L => ?_)
  have hE : Ext w w := Ext.refl w
  refine cw_seq ?_
  refine cw_plain ?_
  refine pl_take (.bool false) rfl (by kernel_rfl) (by kernel_rfl) (by kernel_rfl) (by kernel_rfl) ?_
  refine pl_nil ?_
  refine qw_then ?_
  refine cw_seq ?_
  refine cw_plain ?_
  refine pl_step rfl (by kernel_rfl) (by kernel_rfl) (by kernel_rfl) (sn_call (f := 10) (args := #[]) (by kernel_rfl) ((sane_c _).mono ?_))
  rintro e w5 ⟨rfl, hb⟩
  replace hE := hE.trans hb
  have hs6 := hb.size
  clear hb
  refine ⟨_, rfl, ?_⟩
  refine pl_take (.bool true) rfl (by kernel_rfl) (by kernel_rfl) (by kernel_rfl) (by kernel_rfl) ?_
  refine pl_nil ?_
  refine qw_then ?_
  refine cw_seq ?_
  refine cw_seq ?_
  refine cw_plain ?_
  refine pl_take (.bool true) rfl (by kernel_rfl) (by kernel_rfl) (by kernel_rfl) (by kernel_rfl) ?_
  refine pl_take (.bool false) rfl (by kernel_rfl) (by kernel_rfl) (by kernel_rfl) (by kernel_rfl) ?_
  refine pl_nil ?_
  refine qw_then ?_
  refine cw_f (by kernel_rfl) ?_
  refine cw_skip ?_
  refine qw_then ?_
  refine cw_seq ?_
  refine cw_plain ?_
  refine pl_take (.slice a0 n0 c0) rfl (by kernel_rfl) (by kernel_rfl) (by kernel_rfl) (by kernel_rfl) ?_
  refine pl_step rfl (by kernel_rfl) (by kernel_rfl) (by kernel_rfl) (sn_call (f := 11) (args := #[.slice a0 n0 c0]) (by kernel_rfl) ((Made_y _ _ hT hE).mono ?_))
  rintro e w7 ⟨a1, k1, c1, l, rfl, hk12, hkc, hL, hok, hbd, him, hb⟩
  replace hE := hE.trans hb
  have hs8 := hb.size
  clear hb
  have hll := hL.1; have hu := Mem.okL_u hok; have hf := Mem.okL_f hok
  have hX9 : Ext w7 w7 := Ext.refl _
  obtain ⟨bs, os, ha, hbl, hx⟩ := hL.parts
  refine ⟨_, rfl, ?_⟩
  refine pl_take (.slice a1 k1 c1) rfl (by kernel_rfl) (by kernel_rfl) (by kernel_rfl) (by kernel_rfl) ?_
  refine pl_nil ?_
  refine qw_then ?_
  refine cw_seq ?_
  refine cw_plain ?_
  refine pl_take (.int .i64 (i2 : Int)) rfl (by kernel_rfl) (by kernel_rfl) (by kernel_rfl) (by kernel_rfl) ?_
  refine pl_step rfl (by kernel_rfl) (by kernel_rfl) (by kernel_rfl) (sn_call (f := 12) (args := #[.int .i64 (i2 : Int), .int .i64 300]) (by kernel_rfl) ((pickv_c i2 300 _ hi2 (by omega) (by omega)).mono ?_))
  rintro e w' ⟨pk10, rfl, hqpk10, rfl⟩
  refine ⟨_, rfl, ?_⟩
  refine pl_take (.int .i64 (pk10 : Int)) rfl (by kernel_rfl) (by kernel_rfl) (by kernel_rfl) (by kernel_rfl) ?_
  refine pl_nil ?_
  refine qw_then ?_
  refine cw_seq ?_
  refine cw_plain ?_
  refine pl_take (.slice a1 k1 c1) rfl (by kernel_rfl) (by kernel_rfl) (by kernel_rfl) (by kernel_rfl) ?_
  refine pl_step rfl (by kernel_rfl) (by kernel_rfl) (by kernel_rfl) (sn_call (f := 13) (args := #[.slice a1 k1 c1]) (by kernel_rfl) ((Most_y _ _ hL (Ext.refl _) hok).mono ?_))
  rintro e w13 ⟨b11, t12, rfl, hmb11, hb⟩
  replace hE := hE.trans hb
  replace hX9 := hX9.trans hb
  have hs14 := hb.size
  clear hb
  refine ⟨_, rfl, ?_⟩
  refine pl_take (.tuple #[.int .i64 (b11 : Int), .int .i64 (t12 : Int), .int .i64 0]) rfl (by kernel_rfl) (by kernel_rfl) (by kernel_rfl) (by kernel_rfl) ?_
  refine pl_take (.int .i64 (b11 : Int)) rfl (by kernel_rfl) (by kernel_rfl) (by kernel_rfl) (by kernel_rfl) ?_
  refine pl_take (.int .i64 (t12 : Int)) rfl (by kernel_rfl) (by kernel_rfl) (by kernel_rfl) (by kernel_rfl) ?_
  refine pl_take (.int .i64 0) rfl (by kernel_rfl) (by kernel_rfl) (by kernel_rfl) (by kernel_rfl) ?_
  refine pl_take (.int .i64 (b11 : Int)) rfl (by kernel_rfl) (by kernel_rfl) (by kernel_rfl) (by kernel_rfl) ?_
  refine pl_take (.int .i64 (t12 : Int)) rfl (by kernel_rfl) (by kernel_rfl) (by kernel_rfl) (by kernel_rfl) ?_
  refine pl_take (.int .i64 0) rfl (by kernel_rfl) (by kernel_rfl) (by kernel_rfl) (by kernel_rfl) ?_
  refine pl_nil ?_
  refine qw_then ?_
  refine cw_clean [1, 7, 8, 9, 10, 11, 12] (ws' := [(1, .int .i64 (i1 : Int)), (7, .bool true), (8, .slice a1 k1 c1), (9, .int .i64 (pk10 : Int)), (10, .int .i64 (b11 : Int)), (11, .int .i64 (t12 : Int)), (12, .int .i64 0)]) (by kernel_rfl) (fun L => ?_)
  refine cw_seq ?_
  refine cw_plain ?_
  refine pl_take (.slice a1 k1 c1) rfl (by kernel_rfl) (by kernel_rfl) (by kernel_rfl) (by kernel_rfl) ?_
  refine pl_take (.int .i64 (pk10 : Int)) rfl (by kernel_rfl) (by kernel_rfl) (by kernel_rfl) (by kernel_rfl) ?_
  refine pl_step rfl (by kernel_rfl) (by kernel_rfl) (by kernel_rfl) (sn_call (f := 22) (args := #[.slice a1 k1 c1, .int .i64 (pk10 : Int)]) (by kernel_rfl) ((Over_y pk10 _ _ hL hX9 hok (by omega) (by omega)).mono ?_))
  rintro e w16 ⟨ov15, rfl, hov15, hb⟩
  replace hE := hE.trans hb
  replace hX9 := hX9.trans hb
  have hs17 := hb.size
  clear hb
  refine ⟨_, rfl, ?_⟩
  refine pl_take (.tuple #[.int .i64 (ov15 : Int), .int .i64 0]) rfl (by kernel_rfl) (by kernel_rfl) (by kernel_rfl) (by kernel_rfl) ?_
  refine pl_take (.int .i64 (ov15 : Int)) rfl (by kernel_rfl) (by kernel_rfl) (by kernel_rfl) (by kernel_rfl) ?_
  refine pl_take (.int .i64 0) rfl (by kernel_rfl) (by kernel_rfl) (by kernel_rfl) (by kernel_rfl) ?_
  refine pl_take (.int .i64 (ov15 : Int)) rfl (by kernel_rfl) (by kernel_rfl) (by kernel_rfl) (by kernel_rfl) ?_
  refine pl_take (.int .i64 0) rfl (by kernel_rfl) (by kernel_rfl) (by kernel_rfl) (by kernel_rfl) ?_
  refine pl_nil ?_
  refine qw_then ?_
  refine cw_clean [1, 7, 8, 9, 10, 11, 12, 13, 14] (ws' := [(1, .int .i64 (i1 : Int)), (7, .bool true), (8, .slice a1 k1 c1), (9, .int .i64 (pk10 : Int)), (10, .int .i64 (b11 : Int)), (11, .int .i64 (t12 : Int)), (12, .int .i64 0), (13, .int .i64 (ov15 : Int)), (14, .int .i64 0)]) (by kernel_rfl) (fun L => ?_)
  refine cw_seq ?_
  refine cw_seq ?_
  obtain ⟨hz1, hz2, hz3, hz4, hz5, hz6⟩ := hmb11.say hok
  obtain ⟨ho1, ho2, ho3⟩ := hov15.say hok
  have hw1 : k1 = 0 → t12 = -1 := fun h => (hz1 (by omega)).2
  have hw2 : 0 < k1 → 0 ≤ t12 := fun h => (hz2 (by omega)).1
  have hw3 : t12 ≤ 99 := by
    rcases Nat.eq_zero_or_pos k1 with h | h
    · have := hw1 h; omega
    · obtain ⟨_, _, x, hx, e⟩ := hz2 (by omega); have := (hbd x hx).2.1; omega
  have ho4 : ov15 ≤ 99 := by
    rcases Int.lt_or_le ov15 0 with h | h
    · omega
    · obtain ⟨_, x, hx, e⟩ := ho3 h; have := (hbd x hx).2.1; omega
  have hbq : ((((k1 : Nat) : Int) == 0) != ((t12 : Int) == -1)) = false := by
    by_cases h : k1 = 0
    · rw [hw1 h, h]; rfl
    · rw [show (((k1 : Nat) : Int) == 0) = false from beq_eq_false_iff_ne.2 (by omega), show ((t12 : Int) == -1) = false from beq_eq_false_iff_ne.2 (by have := hw2 (by omega); omega)]; rfl
  refine cw_plain ?_
  refine pl_take (.int .i64 0) rfl (by kernel_rfl) (by kernel_rfl) (by kernel_rfl) (by kernel_rfl) ?_
  refine pl_take (.bool false) rfl (by kernel_rfl) (by kernel_rfl) (by kernel_rfl) (by kernel_rfl) ?_
  refine pl_take (.bool false) rfl (by kernel_rfl) (by kernel_rfl) (by kernel_rfl) (by kernel_rfl) ?_
  refine pl_take (.int .i64 0) rfl (by kernel_rfl) (by kernel_rfl) (by kernel_rfl) (by kernel_rfl) ?_
  refine pl_take (.bool false) rfl (by kernel_rfl) (by kernel_rfl) (by kernel_rfl) (by kernel_rfl) ?_
  refine pl_take (.bool false) rfl (by kernel_rfl) (by kernel_rfl) (by kernel_rfl) (by kernel_rfl) ?_
  refine pl_take (.bool false) rfl (by kernel_rfl) (by kernel_rfl) (by kernel_rfl) (by kernel_rfl) ?_
  refine pl_take (.slice a1 k1 c1) rfl (by kernel_rfl) (by kernel_rfl) (by kernel_rfl) (by kernel_rfl) ?_
  refine pl_take (.int .i64 (((k1 : Nat) : Int) : Int)) rfl (by kernel_rfl) (by kernel_rfl) (by kernel_rfl) (by kernel_rfl) ?_
  refine pl_take (.bool ((((k1 : Nat) : Int) == 0))) rfl (by kernel_rfl) (by kernel_rfl) (by kernel_rfl) (ev_bool (show _ = Result.ok (Next.value (Value.bool (((k1 : Nat) : Int) == 0))) _ from by kernel_rfl) rfl) ?_
  refine pl_take (.int .i64 (t12 : Int)) rfl (by kernel_rfl) (by kernel_rfl) (by kernel_rfl) (by kernel_rfl) ?_
  refine pl_take (.bool (((t12 : Int) == -1))) rfl (by kernel_rfl) (by kernel_rfl) (by kernel_rfl) (ev_bool (show _ = Result.ok (Next.value (Value.bool ((t12 : Int) == -1))) _ from by kernel_rfl) rfl) ?_
  refine pl_take (.bool false) rfl (by kernel_rfl) (by kernel_rfl) (by kernel_rfl) (ev_bool (show _ = Result.ok (Next.value (Value.bool ((((k1 : Nat) : Int) == 0) != ((t12 : Int) == -1)))) _ from by kernel_rfl) hbq) ?_
  refine pl_take (.bool false) rfl (by kernel_rfl) (by kernel_rfl) (by kernel_rfl) (by kernel_rfl) ?_
  refine pl_nil ?_
  refine qw_then ?_
  refine cw_clean [1, 7, 8, 9, 10, 11, 13, 57] (ws' := [(1, .int .i64 (i1 : Int)), (7, .bool true), (8, .slice a1 k1 c1), (9, .int .i64 (pk10 : Int)), (10, .int .i64 (b11 : Int)), (11, .int .i64 (t12 : Int)), (13, .int .i64 (ov15 : Int)), (57, .bool false)]) (by kernel_rfl) (fun L => ?_)
  refine cw_f (by kernel_rfl) ?_
  refine cw_skip ?_
  refine qw_then ?_
  refine cw_seq ?_
  refine cw_plain ?_
  refine pl_take (.slice a1 k1 c1) rfl (by kernel_rfl) (by kernel_rfl) (by kernel_rfl) (by kernel_rfl) ?_
  refine pl_take (.int .i64 (((k1 : Nat) : Int) : Int)) rfl (by kernel_rfl) (by kernel_rfl) (by kernel_rfl) (by kernel_rfl) ?_
  refine pl_take (.bool ((((k1 : Nat) : Int) == 0))) rfl (by kernel_rfl) (by kernel_rfl) (by kernel_rfl) (ev_bool (show _ = Result.ok (Next.value (Value.bool (((k1 : Nat) : Int) == 0))) _ from by kernel_rfl) rfl) ?_
  refine pl_take (.bool ((((k1 : Nat) : Int) == 0))) rfl (by kernel_rfl) (by kernel_rfl) (by kernel_rfl) (by kernel_rfl) ?_
  refine pl_nil ?_
  refine qw_then ?_
  refine cw_seq ?_
  refine cw_seq ?_
  refine cw_plain ?_
  refine pl_take (.int .i64 0) rfl (by kernel_rfl) (by kernel_rfl) (by kernel_rfl) (by kernel_rfl) ?_
  refine pl_nil ?_
  refine qw_then ?_
  refine cw_block ?_
  refine cw_loop [1, 7, 8, 9, 10, 11, 13, 15, 16] (fun ws' wr m => ∃ i : Nat, ∃ bg : Bool, ws' = [(1, .int .i64 (i1 : Int)), (7, .bool true), (8, .slice a1 k1 c1), (9, .int .i64 (pk10 : Int)), (10, .int .i64 (b11 : Int)), (11, .int .i64 (t12 : Int)), (13, .int .i64 (ov15 : Int)), (15, .bool bg), (16, .int .i64 (((i : Nat) : Int) : Int))] ∧ m = k1 - i ∧ w16.heap.size ≤ wr.heap.size ∧ Ext w wr ∧ Ext w7 wr ∧ i ≤ k1 ∧ bg = Mem.begU l t12 i) (ws0 := [(1, .int .i64 (i1 : Int)), (7, .bool true), (8, .slice a1 k1 c1), (9, .int .i64 (pk10 : Int)), (10, .int .i64 (b11 : Int)), (11, .int .i64 (t12 : Int)), (13, .int .i64 (ov15 : Int)), (15, .bool ((((k1 : Nat) : Int) == 0))), (16, .int .i64 0)]) (by kernel_rfl) _ ⟨0, (((k1 : Nat) : Int) == 0), rfl, rfl, Nat.le_refl _, hE, hX9, Nat.zero_le _, (by unfold Mem.begU; rw [List.take_zero]; by_cases h : k1 = 0; exact (show (((k1 : Nat) : Int) == 0) = true from beq_iff_eq.2 (by omega)).trans (by rw [decide_eq_true (by omega)]; rfl); exact (show (((k1 : Nat) : Int) == 0) = false from beq_eq_false_iff_ne.2 (by omega)).trans (by rw [decide_eq_false (by omega)]; rfl))⟩ ?_
  clear hE hX9
  rintro m20 L ws w19 ⟨i, bg, rfl, rfl, hs18, hE, hX9, hi, hbg⟩
  by_cases hlt : i < k1
  ·
    obtain rfl := ha (by omega)
    obtain ⟨q21, q22, q23, q24⟩ := hx i hlt
    have hbn := Mem.begU_next (w := t12) (show i < l.length by omega)
    cases bg
    ·
      refine cw_seq ?_
      refine cw_seq ?_
      refine cw_plain ?_
      refine pl_take (.int .i64 (((i : Nat) : Int) : Int)) rfl (by kernel_rfl) (by kernel_rfl) (by kernel_rfl) (by kernel_rfl) ?_
      refine pl_take (.slice (some ⟨bs, os, none⟩) k1 c1) rfl (by kernel_rfl) (by kernel_rfl) (by kernel_rfl) (by kernel_rfl) ?_
      refine pl_take (.int .i64 (((k1 : Nat) : Int) : Int)) rfl (by kernel_rfl) (by kernel_rfl) (by kernel_rfl) (by kernel_rfl) ?_
      refine pl_take (.bool true) rfl (by kernel_rfl) (by kernel_rfl) (by kernel_rfl) (ev_dec (show _ = Result.ok (Next.value (Value.bool (decide ((((i : Nat) : Int) : Int) < (((k1 : Nat) : Int) : Int))))) _ from by kernel_rfl) (by omega)) ?_
      refine pl_nil ?_
      refine qw_then ?_
      refine cw_t (by kernel_rfl) ?_
      refine cw_skip ?_
      refine qw_then ?_
      refine cw_seq ?_
      refine cw_block ?_
      refine cw_plain ?_
      refine pl_take (.bool false) rfl (by kernel_rfl) (by kernel_rfl) (by kernel_rfl) (by kernel_rfl) ?_
      refine pl_take (.bool false) rfl (by kernel_rfl) (by kernel_rfl) (by kernel_rfl) (by kernel_rfl) ?_
      refine pl_take (.slice (some ⟨bs, os, none⟩) k1 c1) rfl (by kernel_rfl) (by kernel_rfl) (by kernel_rfl) (by kernel_rfl) ?_
      refine pl_take (.int .i64 (((i : Nat) : Int) : Int)) rfl (by kernel_rfl) (by kernel_rfl) (by kernel_rfl) (by kernel_rfl) ?_
      refine pl_take (.pointer (some ⟨bs, os + i * 4, none⟩)) rfl (by kernel_rfl) (by kernel_rfl) (by kernel_rfl) (ex_index (p := .slice (some ⟨bs, os, none⟩) k1 c1) (i := .int .i64 ((i : Nat) : Int)) rfl (by kernel_rfl) (by kernel_rfl) (ix27 (k := i) (by omega))) ?_
      refine pl_take (.pointer (some ⟨bs, os + i * 4 + 2, none⟩)) rfl (by kernel_rfl) (by kernel_rfl) (by kernel_rfl) (by kernel_rfl) ?_
      refine pl_take (.pointer (some ⟨bs, os + i * 4 + 2, none⟩)) rfl (by kernel_rfl) (by kernel_rfl) (by kernel_rfl) (by kernel_rfl) ?_
      refine pl_take (.int .i64 ((stN l i).fr : Int)) rfl (by kernel_rfl) (by kernel_rfl) (by kernel_rfl) (ex_load rfl (by kernel_rfl) (ld3 ((hX9.cell q23)))) ?_
      refine pl_take (.int .i64 (t12 : Int)) rfl (by kernel_rfl) (by kernel_rfl) (by kernel_rfl) (by kernel_rfl) ?_
      by_cases hc25 : ((stN l i).fr : Int) = (t12 : Int)
      ·
        refine pl_take (.bool true) rfl (by kernel_rfl) (by kernel_rfl) (by kernel_rfl) (ev_eq (show _ = Result.ok (Next.value (Value.bool (((stN l i).fr : Int) == (t12 : Int)))) _ from by kernel_rfl) (hc25)) ?_
        refine pl_take (.bool true) rfl (by kernel_rfl) (by kernel_rfl) (by kernel_rfl) (by kernel_rfl) ?_
        refine pl_take (.bool true) rfl (by kernel_rfl) (by kernel_rfl) (by kernel_rfl) (by kernel_rfl) ?_
        refine pl_nil ?_
        refine qw_block ?_
        refine qw_then ?_
        refine cw_clean [1, 7, 8, 9, 10, 11, 13, 15, 16] (ws' := [(1, .int .i64 (i1 : Int)), (7, .bool true), (8, .slice (some ⟨bs, os, none⟩) k1 c1), (9, .int .i64 (pk10 : Int)), (10, .int .i64 (b11 : Int)), (11, .int .i64 (t12 : Int)), (13, .int .i64 (ov15 : Int)), (15, .bool true), (16, .int .i64 (((i : Nat) : Int) : Int))]) (by kernel_rfl) (fun L => ?_)
        refine cw_plain ?_
        refine pl_take (.int .i64 (((i : Nat) : Int) : Int)) rfl (by kernel_rfl) (by kernel_rfl) (by kernel_rfl) (by kernel_rfl) ?_
        refine pl_take (.int .i64 (((i + 1 : Nat) : Int) : Int)) rfl (by kernel_rfl) (by kernel_rfl) (by kernel_rfl) (ev_wrap (by kernel_rfl) (by omega) (by omega)) ?_
        refine pl_take (.int .i64 (((i + 1 : Nat) : Int) : Int)) rfl (by kernel_rfl) (by kernel_rfl) (by kernel_rfl) (by kernel_rfl) ?_
        refine pl_nil ?_
        refine qw_round [1, 7, 8, 9, 10, 11, 13, 15, 16] (ws' := [(1, .int .i64 (i1 : Int)), (7, .bool true), (8, .slice (some ⟨bs, os, none⟩) k1 c1), (9, .int .i64 (pk10 : Int)), (10, .int .i64 (b11 : Int)), (11, .int .i64 (t12 : Int)), (13, .int .i64 (ov15 : Int)), (15, .bool true), (16, .int .i64 (((i + 1 : Nat) : Int) : Int))]) (by kernel_rfl) _ ?_ ⟨(i + 1), true, rfl, rfl, hs18, hE, hX9, by omega, by rw [hbn, ← hbg, decide_eq_true (by omega)]; rfl⟩
        omega
      ·
        refine pl_take (.bool false) rfl (by kernel_rfl) (by kernel_rfl) (by kernel_rfl) (ev_neq (show _ = Result.ok (Next.value (Value.bool (((stN l i).fr : Int) == (t12 : Int)))) _ from by kernel_rfl) (hc25)) ?_
        refine pl_take (.bool false) rfl (by kernel_rfl) (by kernel_rfl) (by kernel_rfl) (by kernel_rfl) ?_
        refine pl_take (.bool false) rfl (by kernel_rfl) (by kernel_rfl) (by kernel_rfl) (by kernel_rfl) ?_
        refine pl_nil ?_
        refine qw_block ?_
        refine qw_then ?_
        refine cw_clean [1, 7, 8, 9, 10, 11, 13, 15, 16] (ws' := [(1, .int .i64 (i1 : Int)), (7, .bool true), (8, .slice (some ⟨bs, os, none⟩) k1 c1), (9, .int .i64 (pk10 : Int)), (10, .int .i64 (b11 : Int)), (11, .int .i64 (t12 : Int)), (13, .int .i64 (ov15 : Int)), (15, .bool false), (16, .int .i64 (((i : Nat) : Int) : Int))]) (by kernel_rfl) (fun L => ?_)
        refine cw_plain ?_
        refine pl_take (.int .i64 (((i : Nat) : Int) : Int)) rfl (by kernel_rfl) (by kernel_rfl) (by kernel_rfl) (by kernel_rfl) ?_
        refine pl_take (.int .i64 (((i + 1 : Nat) : Int) : Int)) rfl (by kernel_rfl) (by kernel_rfl) (by kernel_rfl) (ev_wrap (by kernel_rfl) (by omega) (by omega)) ?_
        refine pl_take (.int .i64 (((i + 1 : Nat) : Int) : Int)) rfl (by kernel_rfl) (by kernel_rfl) (by kernel_rfl) (by kernel_rfl) ?_
        refine pl_nil ?_
        refine qw_round [1, 7, 8, 9, 10, 11, 13, 15, 16] (ws' := [(1, .int .i64 (i1 : Int)), (7, .bool true), (8, .slice (some ⟨bs, os, none⟩) k1 c1), (9, .int .i64 (pk10 : Int)), (10, .int .i64 (b11 : Int)), (11, .int .i64 (t12 : Int)), (13, .int .i64 (ov15 : Int)), (15, .bool false), (16, .int .i64 (((i + 1 : Nat) : Int) : Int))]) (by kernel_rfl) _ ?_ ⟨(i + 1), false, rfl, rfl, hs18, hE, hX9, by omega, by rw [hbn, ← hbg, decide_eq_false (by omega)]; rfl⟩
        omega
    ·
      refine cw_seq ?_
      refine cw_seq ?_
      refine cw_plain ?_
      refine pl_take (.int .i64 (((i : Nat) : Int) : Int)) rfl (by kernel_rfl) (by kernel_rfl) (by kernel_rfl) (by kernel_rfl) ?_
      refine pl_take (.slice (some ⟨bs, os, none⟩) k1 c1) rfl (by kernel_rfl) (by kernel_rfl) (by kernel_rfl) (by kernel_rfl) ?_
      refine pl_take (.int .i64 (((k1 : Nat) : Int) : Int)) rfl (by kernel_rfl) (by kernel_rfl) (by kernel_rfl) (by kernel_rfl) ?_
      refine pl_take (.bool true) rfl (by kernel_rfl) (by kernel_rfl) (by kernel_rfl) (ev_dec (show _ = Result.ok (Next.value (Value.bool (decide ((((i : Nat) : Int) : Int) < (((k1 : Nat) : Int) : Int))))) _ from by kernel_rfl) (by omega)) ?_
      refine pl_nil ?_
      refine qw_then ?_
      refine cw_t (by kernel_rfl) ?_
      refine cw_skip ?_
      refine qw_then ?_
      refine cw_seq ?_
      refine cw_block ?_
      refine cw_plain ?_
      refine pl_take (.bool true) rfl (by kernel_rfl) (by kernel_rfl) (by kernel_rfl) (by kernel_rfl) ?_
      refine pl_take (.bool true) rfl (by kernel_rfl) (by kernel_rfl) (by kernel_rfl) (by kernel_rfl) ?_
      refine pl_skip rfl (by kernel_rfl) (by kernel_rfl) (by kernel_rfl) ?_
      refine pl_skip rfl (by kernel_rfl) (by kernel_rfl) (by kernel_rfl) ?_
      refine pl_skip rfl (by kernel_rfl) (by kernel_rfl) (by kernel_rfl) ?_
      refine pl_skip rfl (by kernel_rfl) (by kernel_rfl) (by kernel_rfl) ?_
      refine pl_skip rfl (by kernel_rfl) (by kernel_rfl) (by kernel_rfl) ?_
      refine pl_skip rfl (by kernel_rfl) (by kernel_rfl) (by kernel_rfl) ?_
      refine pl_skip rfl (by kernel_rfl) (by kernel_rfl) (by kernel_rfl) ?_
      refine pl_skip rfl (by kernel_rfl) (by kernel_rfl) (by kernel_rfl) ?_
      refine pl_take (.bool true) rfl (by kernel_rfl) (by kernel_rfl) (by kernel_rfl) (by kernel_rfl) ?_
      refine pl_take (.bool true) rfl (by kernel_rfl) (by kernel_rfl) (by kernel_rfl) (by kernel_rfl) ?_
      refine pl_nil ?_
      refine qw_block ?_
      refine qw_then ?_
      refine cw_clean [1, 7, 8, 9, 10, 11, 13, 15, 16] (ws' := [(1, .int .i64 (i1 : Int)), (7, .bool true), (8, .slice (some ⟨bs, os, none⟩) k1 c1), (9, .int .i64 (pk10 : Int)), (10, .int .i64 (b11 : Int)), (11, .int .i64 (t12 : Int)), (13, .int .i64 (ov15 : Int)), (15, .bool true), (16, .int .i64 (((i : Nat) : Int) : Int))]) (by kernel_rfl) (fun L => ?_)
      refine cw_plain ?_
      refine pl_take (.int .i64 (((i : Nat) : Int) : Int)) rfl (by kernel_rfl) (by kernel_rfl) (by kernel_rfl) (by kernel_rfl) ?_
      refine pl_take (.int .i64 (((i + 1 : Nat) : Int) : Int)) rfl (by kernel_rfl) (by kernel_rfl) (by kernel_rfl) (ev_wrap (by kernel_rfl) (by omega) (by omega)) ?_
      refine pl_take (.int .i64 (((i + 1 : Nat) : Int) : Int)) rfl (by kernel_rfl) (by kernel_rfl) (by kernel_rfl) (by kernel_rfl) ?_
      refine pl_nil ?_
      refine qw_round [1, 7, 8, 9, 10, 11, 13, 15, 16] (ws' := [(1, .int .i64 (i1 : Int)), (7, .bool true), (8, .slice (some ⟨bs, os, none⟩) k1 c1), (9, .int .i64 (pk10 : Int)), (10, .int .i64 (b11 : Int)), (11, .int .i64 (t12 : Int)), (13, .int .i64 (ov15 : Int)), (15, .bool true), (16, .int .i64 (((i + 1 : Nat) : Int) : Int))]) (by kernel_rfl) _ ?_ ⟨(i + 1), true, rfl, rfl, hs18, hE, hX9, by omega, by rw [hbn, ← hbg]; rfl⟩
      omega
  ·
    have hin : i = k1 := by omega
    obtain rfl : bg = true := by rw [hbg, hin, ← hll]; exact Mem.begU_all (by rcases Nat.eq_zero_or_pos k1 with h | h; exact .inl (by omega); exact .inr (hz2 (by omega)).2.2)
    refine cw_seq ?_
    refine cw_seq ?_
    refine cw_plain ?_
    refine pl_take (.int .i64 (((i : Nat) : Int) : Int)) rfl (by kernel_rfl) (by kernel_rfl) (by kernel_rfl) (by kernel_rfl) ?_
    refine pl_take (.slice a1 k1 c1) rfl (by kernel_rfl) (by kernel_rfl) (by kernel_rfl) (by kernel_rfl) ?_
    refine pl_take (.int .i64 (((k1 : Nat) : Int) : Int)) rfl (by kernel_rfl) (by kernel_rfl) (by kernel_rfl) (by kernel_rfl) ?_
    refine pl_take (.bool false) rfl (by kernel_rfl) (by kernel_rfl) (by kernel_rfl) (ev_ndec (show _ = Result.ok (Next.value (Value.bool (decide ((((i : Nat) : Int) : Int) < (((k1 : Nat) : Int) : Int))))) _ from by kernel_rfl) (by omega)) ?_
    refine pl_nil ?_
    refine qw_then ?_
    refine cw_f (by kernel_rfl) ?_
    refine cw_exit ?_
    refine qw_then_exit ?_
    refine qw_then_exit ?_
    refine qw_block_out ?_
    refine qw_then ?_
    refine cw_seq ?_
    refine cw_seq ?_
    refine cw_plain ?_
    refine pl_take (.bool true) rfl (by kernel_rfl) (by kernel_rfl) (by kernel_rfl) (by kernel_rfl) ?_
    refine pl_take (.bool false) rfl (by kernel_rfl) (by kernel_rfl) (by kernel_rfl) (by kernel_rfl) ?_
    refine pl_nil ?_
    refine qw_then ?_
    refine cw_clean [1, 7, 8, 9, 10, 11, 13, 79] (ws' := [(1, .int .i64 (i1 : Int)), (7, .bool true), (8, .slice a1 k1 c1), (9, .int .i64 (pk10 : Int)), (10, .int .i64 (b11 : Int)), (11, .int .i64 (t12 : Int)), (13, .int .i64 (ov15 : Int)), (79, .bool false)]) (by kernel_rfl) (fun L => ?_)
    refine cw_f (by kernel_rfl) ?_
    refine cw_skip ?_
    refine qw_then ?_
    refine cw_seq ?_
    refine cw_seq ?_
    refine cw_plain ?_
    refine pl_take (.int .i64 0) rfl (by kernel_rfl) (by kernel_rfl) (by kernel_rfl) (by kernel_rfl) ?_
    refine pl_nil ?_
    refine qw_then ?_
    refine cw_block ?_
    refine cw_loop [1, 7, 8, 9, 10, 11, 13, 17] (fun ws' wr m => ∃ tn : Nat, ws' = [(1, .int .i64 (i1 : Int)), (7, .bool true), (8, .slice a1 k1 c1), (9, .int .i64 (pk10 : Int)), (10, .int .i64 (b11 : Int)), (11, .int .i64 (t12 : Int)), (13, .int .i64 (ov15 : Int)), (17, .int .i64 (((tn : Nat) : Int) : Int))] ∧ m = 5 - tn ∧ w19.heap.size ≤ wr.heap.size ∧ Ext w wr ∧ Ext w7 wr ∧ tn ≤ 5) (ws0 := [(1, .int .i64 (i1 : Int)), (7, .bool true), (8, .slice a1 k1 c1), (9, .int .i64 (pk10 : Int)), (10, .int .i64 (b11 : Int)), (11, .int .i64 (t12 : Int)), (13, .int .i64 (ov15 : Int)), (17, .int .i64 0)]) (by kernel_rfl) _ ⟨0, rfl, rfl, Nat.le_refl _, hE, hX9, Nat.zero_le _⟩ ?_
    clear hE hX9
    rintro m28 L ws w27 ⟨tn, rfl, rfl, hs26, hE, hX9, htn⟩
    by_cases hlt : tn < 5
    ·
      refine cw_seq ?_
      refine cw_seq ?_
      refine cw_plain ?_
      refine pl_take (.int .i64 (((tn : Nat) : Int) : Int)) rfl (by kernel_rfl) (by kernel_rfl) (by kernel_rfl) (by kernel_rfl) ?_
      refine pl_take (.bool true) rfl (by kernel_rfl) (by kernel_rfl) (by kernel_rfl) (ev_dec (show _ = Result.ok (Next.value (Value.bool (decide ((((tn : Nat) : Int) : Int) < (5 : Int))))) _ from by kernel_rfl) (by omega)) ?_
      refine pl_nil ?_
      refine qw_then ?_
      refine cw_t (by kernel_rfl) ?_
      refine cw_skip ?_
      refine qw_then ?_
      refine cw_seq ?_
      refine cw_block ?_
      refine cw_seq ?_
      refine cw_plain ?_
      refine pl_take (.int .i64 (i1 : Int)) rfl (by kernel_rfl) (by kernel_rfl) (by kernel_rfl) (by kernel_rfl) ?_
      refine pl_step rfl (by kernel_rfl) (by kernel_rfl) (by kernel_rfl) (sn_call (f := 12) (args := #[.int .i64 (i1 : Int), .int .i64 170]) (by kernel_rfl) ((pickv_c i1 170 _ hi1 (by omega) (by omega)).mono ?_))
      rintro e w' ⟨pk29, rfl, hqpk29, rfl⟩
      refine ⟨_, rfl, ?_⟩
      refine pl_take (.int .i64 (t12 : Int)) rfl (by kernel_rfl) (by kernel_rfl) (by kernel_rfl) (by kernel_rfl) ?_
      refine pl_take (.int .i64 (ov15 : Int)) rfl (by kernel_rfl) (by kernel_rfl) (by kernel_rfl) (by kernel_rfl) ?_
      refine pl_take (.int .i64 (t12 : Int)) rfl (by kernel_rfl) (by kernel_rfl) (by kernel_rfl) (by kernel_rfl) ?_
      refine pl_take (.int .i64 (t12 - 1 : Int)) rfl (by kernel_rfl) (by kernel_rfl) (by kernel_rfl) (ev_wrap (by kernel_rfl) (by omega) (by omega)) ?_
      refine pl_take (.int .i64 (ov15 : Int)) rfl (by kernel_rfl) (by kernel_rfl) (by kernel_rfl) (by kernel_rfl) ?_
      refine pl_take (.int .i64 (ov15 - 1 : Int)) rfl (by kernel_rfl) (by kernel_rfl) (by kernel_rfl) (ev_wrap (by kernel_rfl) (by omega) (by omega)) ?_
      refine pl_step rfl (by kernel_rfl) (by kernel_rfl) (by kernel_rfl) (sn_newS (us := #[.int .i64 (pk29 : Int), .int .i64 (t12 : Int), .int .i64 (ov15 : Int), .int .i64 (t12 - 1 : Int), .int .i64 (ov15 - 1 : Int)]) (t := 3) (k := 5) (c := 5) (by kernel_rfl) ?_)
      intro O30 X31 hO hOs hb hbx
      have hzO30 := hO; have hyO30 := hOs; clear hO hOs
      have bO30_0 : BoxAt X31 O30 0 (.int .i64 (pk29 : Int)) := hbx 0 _ rfl
      have bO30_1 : BoxAt X31 O30 1 (.int .i64 (t12 : Int)) := hbx 1 _ rfl
      have bO30_2 : BoxAt X31 O30 2 (.int .i64 (ov15 : Int)) := hbx 2 _ rfl
      have bO30_3 : BoxAt X31 O30 3 (.int .i64 (t12 - 1 : Int)) := hbx 3 _ rfl
      have bO30_4 : BoxAt X31 O30 4 (.int .i64 (ov15 - 1 : Int)) := hbx 4 _ rfl
      clear hbx
      replace hE := hE.trans hb
      replace hX9 := hX9.trans hb
      have hs32 := hb.size
      clear hb
      have lt33 := bO30_0.lt
      refine pl_take (.int .i64 (((tn : Nat) : Int) : Int)) rfl (by kernel_rfl) (by kernel_rfl) (by kernel_rfl) (by kernel_rfl) ?_
      refine pl_take (.pointer (some ⟨O30, tn, none⟩)) rfl (by kernel_rfl) (by kernel_rfl) (by kernel_rfl) (ex_index (p := .slice (some ⟨O30, 0, none⟩) 5 5) (i := .int .i64 ((tn : Nat) : Int)) rfl (by kernel_rfl) (by kernel_rfl) (ix56z (k := tn) (by omega))) ?_
      obtain ⟨tt34, htt34c, htt34⟩ := sel5 hlt (bO30_0.1) (bO30_1.1) (bO30_2.1) (bO30_3.1) (bO30_4.1)
      refine pl_take (.int .i64 (tt34 : Int)) rfl (by kernel_rfl) (by kernel_rfl) (by kernel_rfl) (ex_load rfl (by kernel_rfl) (ld3 htt34c)) ?_
      refine pl_take (.int .i64 (tt34 : Int)) rfl (by kernel_rfl) (by kernel_rfl) (by kernel_rfl) (by kernel_rfl) ?_
      refine pl_nil ?_
      refine qw_then ?_
      refine cw_clean [1, 7, 8, 9, 10, 11, 13, 17, 18] (ws' := [(1, .int .i64 (i1 : Int)), (7, .bool true), (8, .slice a1 k1 c1), (9, .int .i64 (pk10 : Int)), (10, .int .i64 (b11 : Int)), (11, .int .i64 (t12 : Int)), (13, .int .i64 (ov15 : Int)), (17, .int .i64 (((tn : Nat) : Int) : Int)), (18, .int .i64 (tt34 : Int))]) (by kernel_rfl) (fun L => ?_)
      refine cw_seq ?_
      refine cw_seq ?_
      refine cw_plain ?_
      refine pl_take (.int .i64 (tt34 : Int)) rfl (by kernel_rfl) (by kernel_rfl) (by kernel_rfl) (by kernel_rfl) ?_
      by_cases hc35 : (tt34 : Int) < (0 : Int)
      ·
        refine pl_take (.bool true) rfl (by kernel_rfl) (by kernel_rfl) (by kernel_rfl) (ev_dec (show _ = Result.ok (Next.value (Value.bool (decide ((tt34 : Int) < (0 : Int))))) _ from by kernel_rfl) (hc35)) ?_
        refine pl_nil ?_
        refine qw_then ?_
        refine cw_t (by kernel_rfl) ?_
        refine cw_exit ?_
        refine qw_then_exit ?_
        refine qw_block_out ?_
        refine qw_then ?_
        refine cw_plain ?_
        refine pl_take (.int .i64 (((tn : Nat) : Int) : Int)) rfl (by kernel_rfl) (by kernel_rfl) (by kernel_rfl) (by kernel_rfl) ?_
        refine pl_take (.int .i64 (((tn + 1 : Nat) : Int) : Int)) rfl (by kernel_rfl) (by kernel_rfl) (by kernel_rfl) (ev_wrap (by kernel_rfl) (by omega) (by omega)) ?_
        refine pl_take (.int .i64 (((tn + 1 : Nat) : Int) : Int)) rfl (by kernel_rfl) (by kernel_rfl) (by kernel_rfl) (by kernel_rfl) ?_
        refine pl_nil ?_
        refine qw_round [1, 7, 8, 9, 10, 11, 13, 17] (ws' := [(1, .int .i64 (i1 : Int)), (7, .bool true), (8, .slice a1 k1 c1), (9, .int .i64 (pk10 : Int)), (10, .int .i64 (b11 : Int)), (11, .int .i64 (t12 : Int)), (13, .int .i64 (ov15 : Int)), (17, .int .i64 (((tn + 1 : Nat) : Int) : Int))]) (by kernel_rfl) _ ?_ ⟨(tn + 1), rfl, rfl, (Nat.le_trans hs26 hs32), hE, hX9, by omega⟩
        omega
      ·
        refine pl_take (.bool false) rfl (by kernel_rfl) (by kernel_rfl) (by kernel_rfl) (ev_ndec (show _ = Result.ok (Next.value (Value.bool (decide ((tt34 : Int) < (0 : Int))))) _ from by kernel_rfl) (hc35)) ?_
        refine pl_nil ?_
        refine qw_then ?_
        refine cw_f (by kernel_rfl) ?_
        refine cw_skip ?_
        refine qw_then ?_
        refine cw_seq ?_
        refine cw_plain ?_
        refine pl_take (.slice a1 k1 c1) rfl (by kernel_rfl) (by kernel_rfl) (by kernel_rfl) (by kernel_rfl) ?_
        refine pl_take (.int .i64 (tt34 : Int)) rfl (by kernel_rfl) (by kernel_rfl) (by kernel_rfl) (by kernel_rfl) ?_
        refine pl_step rfl (by kernel_rfl) (by kernel_rfl) (by kernel_rfl) (sn_call (f := 20) (args := #[.slice a1 k1 c1, .int .i64 (tt34 : Int)]) (by kernel_rfl) ((Fill_y tt34 _ _ hL hX9 hok (by omega) (by omega)).mono ?_))
        rintro e w37 ⟨f36, rfl, hf36, hb⟩
        replace hE := hE.trans hb
        replace hX9 := hX9.trans hb
        replace bO30_0 := BoxAt.ext hb bO30_0
        replace bO30_1 := BoxAt.ext hb bO30_1
        replace bO30_2 := BoxAt.ext hb bO30_2
        replace bO30_3 := BoxAt.ext hb bO30_3
        replace bO30_4 := BoxAt.ext hb bO30_4
        have hs38 := hb.size
        clear hb
        refine ⟨_, rfl, ?_⟩
        refine pl_take (.tuple #[.int .i64 (f36 : Int), .int .i64 0]) rfl (by kernel_rfl) (by kernel_rfl) (by kernel_rfl) (by kernel_rfl) ?_
        refine pl_take (.int .i64 (f36 : Int)) rfl (by kernel_rfl) (by kernel_rfl) (by kernel_rfl) (by kernel_rfl) ?_
        refine pl_take (.int .i64 0) rfl (by kernel_rfl) (by kernel_rfl) (by kernel_rfl) (by kernel_rfl) ?_
        refine pl_take (.int .i64 (f36 : Int)) rfl (by kernel_rfl) (by kernel_rfl) (by kernel_rfl) (by kernel_rfl) ?_
        refine pl_take (.int .i64 0) rfl (by kernel_rfl) (by kernel_rfl) (by kernel_rfl) (by kernel_rfl) ?_
        refine pl_nil ?_
        refine qw_then ?_
        refine cw_clean [1, 7, 8, 9, 10, 11, 13, 17, 18, 19, 20] (ws' := [(1, .int .i64 (i1 : Int)), (7, .bool true), (8, .slice a1 k1 c1), (9, .int .i64 (pk10 : Int)), (10, .int .i64 (b11 : Int)), (11, .int .i64 (t12 : Int)), (13, .int .i64 (ov15 : Int)), (17, .int .i64 (((tn : Nat) : Int) : Int)), (18, .int .i64 (tt34 : Int)), (19, .int .i64 (f36 : Int)), (20, .int .i64 0)]) (by kernel_rfl) (fun L => ?_)
        refine cw_seq ?_
        refine cw_plain ?_
        refine pl_take (.int .i64 0) rfl (by kernel_rfl) (by kernel_rfl) (by kernel_rfl) (by kernel_rfl) ?_
        refine pl_nil ?_
        refine qw_then ?_
        refine cw_seq ?_
        refine cw_seq ?_
        refine cw_plain ?_
        refine pl_take (.int .i64 0) rfl (by kernel_rfl) (by kernel_rfl) (by kernel_rfl) (by kernel_rfl) ?_
        refine pl_nil ?_
        refine qw_then ?_
        refine cw_block ?_
        have hx1 := hz5 tt34; have hx2 := hz6 tt34 (by omega); have hx3 := ho2 tt34; have hx4 : tt34 = t12 → f36 = b11 := fun e => by have hk := hz2 (by rcases Nat.eq_zero_or_pos k1 with h | h; have := hw1 h; omega; omega); rw [← hf36, e]; exact hk.2.1
        have hx5 : tt34 = ov15 → f36 > pk10 := fun e => by have hk := (ho3 (by omega)).1; rw [← hf36, e]; omega
        rw [hf36] at hx1 hx2 hx3
        refine cw_loop [1, 7, 8, 9, 10, 11, 13, 17, 18, 19, 20, 21, 22] (fun ws' wr m => ∃ j : Nat, ws' = [(1, .int .i64 (i1 : Int)), (7, .bool true), (8, .slice a1 k1 c1), (9, .int .i64 (pk10 : Int)), (10, .int .i64 (b11 : Int)), (11, .int .i64 (t12 : Int)), (13, .int .i64 (ov15 : Int)), (17, .int .i64 (((tn : Nat) : Int) : Int)), (18, .int .i64 (tt34 : Int)), (19, .int .i64 (f36 : Int)), (20, .int .i64 0), (21, .int .i64 (Mem.fill (l.take j) tt34 : Int)), (22, .int .i64 (((j : Nat) : Int) : Int))] ∧ m = k1 - j ∧ w37.heap.size ≤ wr.heap.size ∧ Ext w wr ∧ Ext w7 wr ∧ BoxAt wr O30 0 (.int .i64 (pk29 : Int)) ∧ BoxAt wr O30 1 (.int .i64 (t12 : Int)) ∧ BoxAt wr O30 2 (.int .i64 (ov15 : Int)) ∧ BoxAt wr O30 3 (.int .i64 (t12 - 1 : Int)) ∧ BoxAt wr O30 4 (.int .i64 (ov15 - 1 : Int)) ∧ j ≤ k1) (ws0 := [(1, .int .i64 (i1 : Int)), (7, .bool true), (8, .slice a1 k1 c1), (9, .int .i64 (pk10 : Int)), (10, .int .i64 (b11 : Int)), (11, .int .i64 (t12 : Int)), (13, .int .i64 (ov15 : Int)), (17, .int .i64 (((tn : Nat) : Int) : Int)), (18, .int .i64 (tt34 : Int)), (19, .int .i64 (f36 : Int)), (20, .int .i64 0), (21, .int .i64 0), (22, .int .i64 0)]) (by kernel_rfl) _ ⟨0, rfl, rfl, Nat.le_refl _, hE, hX9, bO30_0, bO30_1, bO30_2, bO30_3, bO30_4, Nat.zero_le _⟩ ?_
        clear bO30_0 bO30_1 bO30_2 bO30_3 bO30_4 hE hX9
        rintro m41 L ws w40 ⟨j, rfl, rfl, hs39, hE, hX9, bO30_0, bO30_1, bO30_2, bO30_3, bO30_4, hj⟩
        by_cases hlt : j < k1
        ·
          obtain rfl := ha (by omega)
          obtain ⟨q42, q43, q44, q45⟩ := hx j hlt
          have hft := Mem.fill_take (show j < l.length by omega) tt34
          have hfb := Mem.fill_take_bd hok j tt34; have hfb1 := Mem.fill_take_bd hok (j + 1) tt34
          rw [hf36] at hfb hfb1; have hfbd := Mem.fill_bd hok tt34; rw [hf36] at hfbd
          refine cw_seq ?_
          refine cw_seq ?_
          refine cw_plain ?_
          refine pl_take (.int .i64 (((j : Nat) : Int) : Int)) rfl (by kernel_rfl) (by kernel_rfl) (by kernel_rfl) (by kernel_rfl) ?_
          refine pl_take (.slice (some ⟨bs, os, none⟩) k1 c1) rfl (by kernel_rfl) (by kernel_rfl) (by kernel_rfl) (by kernel_rfl) ?_
          refine pl_take (.int .i64 (((k1 : Nat) : Int) : Int)) rfl (by kernel_rfl) (by kernel_rfl) (by kernel_rfl) (by kernel_rfl) ?_
          refine pl_take (.bool true) rfl (by kernel_rfl) (by kernel_rfl) (by kernel_rfl) (ev_dec (show _ = Result.ok (Next.value (Value.bool (decide ((((j : Nat) : Int) : Int) < (((k1 : Nat) : Int) : Int))))) _ from by kernel_rfl) (by omega)) ?_
          refine pl_nil ?_
          refine qw_then ?_
          refine cw_clean [1, 7, 8, 9, 10, 11, 13, 17, 18, 19, 20, 21, 22, 107] (ws' := [(1, .int .i64 (i1 : Int)), (7, .bool true), (8, .slice (some ⟨bs, os, none⟩) k1 c1), (9, .int .i64 (pk10 : Int)), (10, .int .i64 (b11 : Int)), (11, .int .i64 (t12 : Int)), (13, .int .i64 (ov15 : Int)), (17, .int .i64 (((tn : Nat) : Int) : Int)), (18, .int .i64 (tt34 : Int)), (19, .int .i64 (f36 : Int)), (20, .int .i64 0), (21, .int .i64 (Mem.fill (l.take j) tt34 : Int)), (22, .int .i64 (((j : Nat) : Int) : Int)), (107, .bool true)]) (by kernel_rfl) (fun L => ?_)
          refine cw_t (by kernel_rfl) ?_
          refine cw_skip ?_
          refine qw_then ?_
          refine cw_seq ?_
          refine cw_block ?_
          refine cw_seq ?_
          refine cw_plain ?_
          refine pl_take (.slice (some ⟨bs, os, none⟩) k1 c1) rfl (by kernel_rfl) (by kernel_rfl) (by kernel_rfl) (by kernel_rfl) ?_
          refine pl_take (.int .i64 (((j : Nat) : Int) : Int)) rfl (by kernel_rfl) (by kernel_rfl) (by kernel_rfl) (by kernel_rfl) ?_
          refine pl_take (.int .i64 (((j : Nat) : Int) : Int)) rfl (by kernel_rfl) (by kernel_rfl) (by kernel_rfl) (by kernel_rfl) ?_
          refine pl_take (.int .i64 (((j + 1 : Nat) : Int) : Int)) rfl (by kernel_rfl) (by kernel_rfl) (by kernel_rfl) (ev_wrap (by kernel_rfl) (by omega) (by omega)) ?_
          refine pl_take (.slice (some ⟨bs, os + j * 4, none⟩) ((j + 1) - j) (c1 - j)) rfl (by kernel_rfl) (by kernel_rfl) (by kernel_rfl) (ex_slice (p := .slice (some ⟨bs, os, none⟩) k1 c1) rfl (by kernel_rfl) (by kernel_rfl) (by kernel_rfl) (by kernel_rfl) (sl27_110 (k := j) (m := j + 1) (by omega) (by omega) (by omega))) ?_
          refine pl_take (.int .i64 (tt34 : Int)) rfl (by kernel_rfl) (by kernel_rfl) (by kernel_rfl) (by kernel_rfl) ?_
          refine pl_step rfl (by kernel_rfl) (by kernel_rfl) (by kernel_rfl) (sn_call (f := 20) (args := #[.slice (some ⟨bs, os + j * 4, none⟩) ((j + 1) - j) (c1 - j), .int .i64 (tt34 : Int)]) (by kernel_rfl) ((Fill_y tt34 _ _ (sts_one (by omega) (hx j hlt)) hX9 (Mem.ok_one hok (stN_mem (by omega))) (by omega) (by omega)).mono ?_))
          rintro e w47 ⟨f46, rfl, hf46, hb⟩
          replace hE := hE.trans hb
          replace hX9 := hX9.trans hb
          replace bO30_0 := BoxAt.ext hb bO30_0
          replace bO30_1 := BoxAt.ext hb bO30_1
          replace bO30_2 := BoxAt.ext hb bO30_2
          replace bO30_3 := BoxAt.ext hb bO30_3
          replace bO30_4 := BoxAt.ext hb bO30_4
          have hs48 := hb.size
          clear hb
          have hpf46 := Mem.part_or (stN l j) tt34; rw [Mem.fill_one] at hf46; rw [hf46] at hpf46; rw [Mem.fill_one, hf46] at hft
          refine ⟨_, rfl, ?_⟩
          refine pl_take (.tuple #[.int .i64 (f46 : Int), .int .i64 0]) rfl (by kernel_rfl) (by kernel_rfl) (by kernel_rfl) (by kernel_rfl) ?_
          refine pl_take (.int .i64 (f46 : Int)) rfl (by kernel_rfl) (by kernel_rfl) (by kernel_rfl) (by kernel_rfl) ?_
          refine pl_take (.int .i64 0) rfl (by kernel_rfl) (by kernel_rfl) (by kernel_rfl) (by kernel_rfl) ?_
          refine pl_take (.int .i64 (f46 : Int)) rfl (by kernel_rfl) (by kernel_rfl) (by kernel_rfl) (by kernel_rfl) ?_
          refine pl_take (.int .i64 0) rfl (by kernel_rfl) (by kernel_rfl) (by kernel_rfl) (by kernel_rfl) ?_
          refine pl_nil ?_
          refine qw_then ?_
          refine cw_clean [1, 7, 8, 9, 10, 11, 13, 17, 18, 19, 20, 21, 22, 23, 24] (ws' := [(1, .int .i64 (i1 : Int)), (7, .bool true), (8, .slice (some ⟨bs, os, none⟩) k1 c1), (9, .int .i64 (pk10 : Int)), (10, .int .i64 (b11 : Int)), (11, .int .i64 (t12 : Int)), (13, .int .i64 (ov15 : Int)), (17, .int .i64 (((tn : Nat) : Int) : Int)), (18, .int .i64 (tt34 : Int)), (19, .int .i64 (f36 : Int)), (20, .int .i64 0), (21, .int .i64 (Mem.fill (l.take j) tt34 : Int)), (22, .int .i64 (((j : Nat) : Int) : Int)), (23, .int .i64 (f46 : Int)), (24, .int .i64 0)]) (by kernel_rfl) (fun L => ?_)
          refine cw_seq ?_
          refine cw_seq ?_
          refine cw_plain ?_
          refine pl_take (.int .i64 0) rfl (by kernel_rfl) (by kernel_rfl) (by kernel_rfl) (by kernel_rfl) ?_
          refine pl_take (.bool false) rfl (by kernel_rfl) (by kernel_rfl) (by kernel_rfl) (by kernel_rfl) ?_
          refine pl_take (.bool false) rfl (by kernel_rfl) (by kernel_rfl) (by kernel_rfl) (by kernel_rfl) ?_
          refine pl_take (.int .i64 (f46 : Int)) rfl (by kernel_rfl) (by kernel_rfl) (by kernel_rfl) (by kernel_rfl) ?_
          by_cases hc49 : (f46 : Int) = (0 : Int)
          ·
            refine pl_take (.bool false) rfl (by kernel_rfl) (by kernel_rfl) (by kernel_rfl) (ev_nne (show _ = Result.ok (Next.value (Value.bool ((f46 : Int) != (0 : Int)))) _ from by kernel_rfl) (hc49)) ?_
            refine pl_take (.bool false) rfl (by kernel_rfl) (by kernel_rfl) (by kernel_rfl) (by kernel_rfl) ?_
            refine pl_skip rfl (by kernel_rfl) (by kernel_rfl) (by kernel_rfl) ?_
            refine pl_skip rfl (by kernel_rfl) (by kernel_rfl) (by kernel_rfl) ?_
            refine pl_skip rfl (by kernel_rfl) (by kernel_rfl) (by kernel_rfl) ?_
            refine pl_skip rfl (by kernel_rfl) (by kernel_rfl) (by kernel_rfl) ?_
            refine pl_skip rfl (by kernel_rfl) (by kernel_rfl) (by kernel_rfl) ?_
            refine pl_skip rfl (by kernel_rfl) (by kernel_rfl) (by kernel_rfl) ?_
            refine pl_skip rfl (by kernel_rfl) (by kernel_rfl) (by kernel_rfl) ?_
            refine pl_take (.bool false) rfl (by kernel_rfl) (by kernel_rfl) (by kernel_rfl) (by kernel_rfl) ?_
            refine pl_take (.bool false) rfl (by kernel_rfl) (by kernel_rfl) (by kernel_rfl) (by kernel_rfl) ?_
            refine pl_nil ?_
            refine qw_then ?_
            refine cw_clean [1, 7, 8, 9, 10, 11, 13, 17, 18, 19, 20, 21, 22, 23, 134] (ws' := [(1, .int .i64 (i1 : Int)), (7, .bool true), (8, .slice (some ⟨bs, os, none⟩) k1 c1), (9, .int .i64 (pk10 : Int)), (10, .int .i64 (b11 : Int)), (11, .int .i64 (t12 : Int)), (13, .int .i64 (ov15 : Int)), (17, .int .i64 (((tn : Nat) : Int) : Int)), (18, .int .i64 (tt34 : Int)), (19, .int .i64 (f36 : Int)), (20, .int .i64 0), (21, .int .i64 (Mem.fill (l.take j) tt34 : Int)), (22, .int .i64 (((j : Nat) : Int) : Int)), (23, .int .i64 (f46 : Int)), (134, .bool false)]) (by kernel_rfl) (fun L => ?_)
            refine cw_f (by kernel_rfl) ?_
            refine cw_skip ?_
            refine qw_then ?_
            refine cw_clean [1, 7, 8, 9, 10, 11, 13, 17, 18, 19, 20, 21, 22, 23] (ws' := [(1, .int .i64 (i1 : Int)), (7, .bool true), (8, .slice (some ⟨bs, os, none⟩) k1 c1), (9, .int .i64 (pk10 : Int)), (10, .int .i64 (b11 : Int)), (11, .int .i64 (t12 : Int)), (13, .int .i64 (ov15 : Int)), (17, .int .i64 (((tn : Nat) : Int) : Int)), (18, .int .i64 (tt34 : Int)), (19, .int .i64 (f36 : Int)), (20, .int .i64 0), (21, .int .i64 (Mem.fill (l.take j) tt34 : Int)), (22, .int .i64 (((j : Nat) : Int) : Int)), (23, .int .i64 (f46 : Int))]) (by kernel_rfl) (fun L => ?_)
            refine cw_plain ?_
            refine pl_take (.int .i64 (Mem.fill (l.take j) tt34 : Int)) rfl (by kernel_rfl) (by kernel_rfl) (by kernel_rfl) (by kernel_rfl) ?_
            refine pl_take (.int .i64 (f46 : Int)) rfl (by kernel_rfl) (by kernel_rfl) (by kernel_rfl) (by kernel_rfl) ?_
            refine pl_take (.int .i64 (Mem.fill (l.take (j + 1)) tt34 : Int)) rfl (by kernel_rfl) (by kernel_rfl) (by kernel_rfl) (ev_int (ev_wrap (a := Mem.fill (l.take j) tt34 + f46) (by kernel_rfl) (by omega) (by omega)) hft.symm) ?_
            refine pl_take (.int .i64 (Mem.fill (l.take (j + 1)) tt34 : Int)) rfl (by kernel_rfl) (by kernel_rfl) (by kernel_rfl) (by kernel_rfl) ?_
            refine pl_nil ?_
            refine qw_block ?_
            refine qw_then ?_
            refine cw_clean [1, 7, 8, 9, 10, 11, 13, 17, 18, 19, 20, 21, 22] (ws' := [(1, .int .i64 (i1 : Int)), (7, .bool true), (8, .slice (some ⟨bs, os, none⟩) k1 c1), (9, .int .i64 (pk10 : Int)), (10, .int .i64 (b11 : Int)), (11, .int .i64 (t12 : Int)), (13, .int .i64 (ov15 : Int)), (17, .int .i64 (((tn : Nat) : Int) : Int)), (18, .int .i64 (tt34 : Int)), (19, .int .i64 (f36 : Int)), (20, .int .i64 0), (21, .int .i64 (Mem.fill (l.take (j + 1)) tt34 : Int)), (22, .int .i64 (((j : Nat) : Int) : Int))]) (by kernel_rfl) (fun L => ?_)
            refine cw_plain ?_
            refine pl_take (.int .i64 (((j : Nat) : Int) : Int)) rfl (by kernel_rfl) (by kernel_rfl) (by kernel_rfl) (by kernel_rfl) ?_
            refine pl_take (.int .i64 (((j + 1 : Nat) : Int) : Int)) rfl (by kernel_rfl) (by kernel_rfl) (by kernel_rfl) (ev_wrap (by kernel_rfl) (by omega) (by omega)) ?_
            refine pl_take (.int .i64 (((j + 1 : Nat) : Int) : Int)) rfl (by kernel_rfl) (by kernel_rfl) (by kernel_rfl) (by kernel_rfl) ?_
            refine pl_nil ?_
            refine qw_round [1, 7, 8, 9, 10, 11, 13, 17, 18, 19, 20, 21, 22] (ws' := [(1, .int .i64 (i1 : Int)), (7, .bool true), (8, .slice (some ⟨bs, os, none⟩) k1 c1), (9, .int .i64 (pk10 : Int)), (10, .int .i64 (b11 : Int)), (11, .int .i64 (t12 : Int)), (13, .int .i64 (ov15 : Int)), (17, .int .i64 (((tn : Nat) : Int) : Int)), (18, .int .i64 (tt34 : Int)), (19, .int .i64 (f36 : Int)), (20, .int .i64 0), (21, .int .i64 (Mem.fill (l.take (j + 1)) tt34 : Int)), (22, .int .i64 (((j + 1 : Nat) : Int) : Int))]) (by kernel_rfl) _ ?_ ⟨(j + 1), rfl, rfl, (Nat.le_trans hs39 hs48), hE, hX9, bO30_0, bO30_1, bO30_2, bO30_3, bO30_4, by omega⟩
            omega
          ·
            refine pl_take (.bool true) rfl (by kernel_rfl) (by kernel_rfl) (by kernel_rfl) (ev_ne (show _ = Result.ok (Next.value (Value.bool ((f46 : Int) != (0 : Int)))) _ from by kernel_rfl) (hc49)) ?_
            refine pl_take (.bool true) rfl (by kernel_rfl) (by kernel_rfl) (by kernel_rfl) (by kernel_rfl) ?_
            refine pl_take (.int .i64 (f46 : Int)) rfl (by kernel_rfl) (by kernel_rfl) (by kernel_rfl) (by kernel_rfl) ?_
            refine pl_take (.slice (some ⟨bs, os, none⟩) k1 c1) rfl (by kernel_rfl) (by kernel_rfl) (by kernel_rfl) (by kernel_rfl) ?_
            refine pl_take (.int .i64 (((j : Nat) : Int) : Int)) rfl (by kernel_rfl) (by kernel_rfl) (by kernel_rfl) (by kernel_rfl) ?_
            refine pl_take (.pointer (some ⟨bs, os + j * 4, none⟩)) rfl (by kernel_rfl) (by kernel_rfl) (by kernel_rfl) (ex_index (p := .slice (some ⟨bs, os, none⟩) k1 c1) (i := .int .i64 ((j : Nat) : Int)) rfl (by kernel_rfl) (by kernel_rfl) (ix27 (k := j) (by omega))) ?_
            refine pl_take (.pointer (some ⟨bs, os + j * 4 + 1, none⟩)) rfl (by kernel_rfl) (by kernel_rfl) (by kernel_rfl) (by kernel_rfl) ?_
            refine pl_take (.int .i64 ((stN l j).un : Int)) rfl (by kernel_rfl) (by kernel_rfl) (by kernel_rfl) (ex_load rfl (by kernel_rfl) (ld3 ((hX9.cell q43)))) ?_
            refine pl_take (.bool false) rfl (by kernel_rfl) (by kernel_rfl) (by kernel_rfl) (ev_nne (show _ = Result.ok (Next.value (Value.bool ((f46 : Int) != ((stN l j).un : Int)))) _ from by kernel_rfl) (by omega)) ?_
            refine pl_take (.bool false) rfl (by kernel_rfl) (by kernel_rfl) (by kernel_rfl) (by kernel_rfl) ?_
            refine pl_take (.bool false) rfl (by kernel_rfl) (by kernel_rfl) (by kernel_rfl) (by kernel_rfl) ?_
            refine pl_nil ?_
            refine qw_then ?_
            refine cw_clean [1, 7, 8, 9, 10, 11, 13, 17, 18, 19, 20, 21, 22, 23, 134] (ws' := [(1, .int .i64 (i1 : Int)), (7, .bool true), (8, .slice (some ⟨bs, os, none⟩) k1 c1), (9, .int .i64 (pk10 : Int)), (10, .int .i64 (b11 : Int)), (11, .int .i64 (t12 : Int)), (13, .int .i64 (ov15 : Int)), (17, .int .i64 (((tn : Nat) : Int) : Int)), (18, .int .i64 (tt34 : Int)), (19, .int .i64 (f36 : Int)), (20, .int .i64 0), (21, .int .i64 (Mem.fill (l.take j) tt34 : Int)), (22, .int .i64 (((j : Nat) : Int) : Int)), (23, .int .i64 (f46 : Int)), (134, .bool false)]) (by kernel_rfl) (fun L => ?_)
            refine cw_f (by kernel_rfl) ?_
            refine cw_skip ?_
            refine qw_then ?_
            refine cw_clean [1, 7, 8, 9, 10, 11, 13, 17, 18, 19, 20, 21, 22, 23] (ws' := [(1, .int .i64 (i1 : Int)), (7, .bool true), (8, .slice (some ⟨bs, os, none⟩) k1 c1), (9, .int .i64 (pk10 : Int)), (10, .int .i64 (b11 : Int)), (11, .int .i64 (t12 : Int)), (13, .int .i64 (ov15 : Int)), (17, .int .i64 (((tn : Nat) : Int) : Int)), (18, .int .i64 (tt34 : Int)), (19, .int .i64 (f36 : Int)), (20, .int .i64 0), (21, .int .i64 (Mem.fill (l.take j) tt34 : Int)), (22, .int .i64 (((j : Nat) : Int) : Int)), (23, .int .i64 (f46 : Int))]) (by kernel_rfl) (fun L => ?_)
            refine cw_plain ?_
            refine pl_take (.int .i64 (Mem.fill (l.take j) tt34 : Int)) rfl (by kernel_rfl) (by kernel_rfl) (by kernel_rfl) (by kernel_rfl) ?_
            refine pl_take (.int .i64 (f46 : Int)) rfl (by kernel_rfl) (by kernel_rfl) (by kernel_rfl) (by kernel_rfl) ?_
            refine pl_take (.int .i64 (Mem.fill (l.take (j + 1)) tt34 : Int)) rfl (by kernel_rfl) (by kernel_rfl) (by kernel_rfl) (ev_int (ev_wrap (a := Mem.fill (l.take j) tt34 + f46) (by kernel_rfl) (by omega) (by omega)) hft.symm) ?_
            refine pl_take (.int .i64 (Mem.fill (l.take (j + 1)) tt34 : Int)) rfl (by kernel_rfl) (by kernel_rfl) (by kernel_rfl) (by kernel_rfl) ?_
            refine pl_nil ?_
            refine qw_block ?_
            refine qw_then ?_
            refine cw_clean [1, 7, 8, 9, 10, 11, 13, 17, 18, 19, 20, 21, 22] (ws' := [(1, .int .i64 (i1 : Int)), (7, .bool true), (8, .slice (some ⟨bs, os, none⟩) k1 c1), (9, .int .i64 (pk10 : Int)), (10, .int .i64 (b11 : Int)), (11, .int .i64 (t12 : Int)), (13, .int .i64 (ov15 : Int)), (17, .int .i64 (((tn : Nat) : Int) : Int)), (18, .int .i64 (tt34 : Int)), (19, .int .i64 (f36 : Int)), (20, .int .i64 0), (21, .int .i64 (Mem.fill (l.take (j + 1)) tt34 : Int)), (22, .int .i64 (((j : Nat) : Int) : Int))]) (by kernel_rfl) (fun L => ?_)
            refine cw_plain ?_
            refine pl_take (.int .i64 (((j : Nat) : Int) : Int)) rfl (by kernel_rfl) (by kernel_rfl) (by kernel_rfl) (by kernel_rfl) ?_
            refine pl_take (.int .i64 (((j + 1 : Nat) : Int) : Int)) rfl (by kernel_rfl) (by kernel_rfl) (by kernel_rfl) (ev_wrap (by kernel_rfl) (by omega) (by omega)) ?_
            refine pl_take (.int .i64 (((j + 1 : Nat) : Int) : Int)) rfl (by kernel_rfl) (by kernel_rfl) (by kernel_rfl) (by kernel_rfl) ?_
            refine pl_nil ?_
            refine qw_round [1, 7, 8, 9, 10, 11, 13, 17, 18, 19, 20, 21, 22] (ws' := [(1, .int .i64 (i1 : Int)), (7, .bool true), (8, .slice (some ⟨bs, os, none⟩) k1 c1), (9, .int .i64 (pk10 : Int)), (10, .int .i64 (b11 : Int)), (11, .int .i64 (t12 : Int)), (13, .int .i64 (ov15 : Int)), (17, .int .i64 (((tn : Nat) : Int) : Int)), (18, .int .i64 (tt34 : Int)), (19, .int .i64 (f36 : Int)), (20, .int .i64 0), (21, .int .i64 (Mem.fill (l.take (j + 1)) tt34 : Int)), (22, .int .i64 (((j + 1 : Nat) : Int) : Int))]) (by kernel_rfl) _ ?_ ⟨(j + 1), rfl, rfl, (Nat.le_trans hs39 hs48), hE, hX9, bO30_0, bO30_1, bO30_2, bO30_3, bO30_4, by omega⟩
            omega
        ·
          have hjn : j = k1 := by omega
          have hsm : Mem.fill (l.take j) tt34 = f36 := by rw [hjn, ← hll, List.take_length]; exact hf36
          refine cw_seq ?_
          refine cw_seq ?_
          refine cw_plain ?_
          refine pl_take (.int .i64 (((j : Nat) : Int) : Int)) rfl (by kernel_rfl) (by kernel_rfl) (by kernel_rfl) (by kernel_rfl) ?_
          refine pl_take (.slice a1 k1 c1) rfl (by kernel_rfl) (by kernel_rfl) (by kernel_rfl) (by kernel_rfl) ?_
          refine pl_take (.int .i64 (((k1 : Nat) : Int) : Int)) rfl (by kernel_rfl) (by kernel_rfl) (by kernel_rfl) (by kernel_rfl) ?_
          refine pl_take (.bool false) rfl (by kernel_rfl) (by kernel_rfl) (by kernel_rfl) (ev_ndec (show _ = Result.ok (Next.value (Value.bool (decide ((((j : Nat) : Int) : Int) < (((k1 : Nat) : Int) : Int))))) _ from by kernel_rfl) (by omega)) ?_
          refine pl_nil ?_
          refine qw_then ?_
          refine cw_clean [1, 7, 8, 9, 10, 11, 13, 17, 18, 19, 20, 21, 22, 107] (ws' := [(1, .int .i64 (i1 : Int)), (7, .bool true), (8, .slice a1 k1 c1), (9, .int .i64 (pk10 : Int)), (10, .int .i64 (b11 : Int)), (11, .int .i64 (t12 : Int)), (13, .int .i64 (ov15 : Int)), (17, .int .i64 (((tn : Nat) : Int) : Int)), (18, .int .i64 (tt34 : Int)), (19, .int .i64 (f36 : Int)), (20, .int .i64 0), (21, .int .i64 (Mem.fill (l.take j) tt34 : Int)), (22, .int .i64 (((j : Nat) : Int) : Int)), (107, .bool false)]) (by kernel_rfl) (fun L => ?_)
          refine cw_f (by kernel_rfl) ?_
          refine cw_exit ?_
          refine qw_then_exit ?_
          refine qw_then_exit ?_
          refine qw_block_out ?_
          refine qw_then ?_
          refine cw_seq ?_
          refine cw_seq ?_
          refine cw_plain ?_
          refine pl_take (.int .i64 0) rfl (by kernel_rfl) (by kernel_rfl) (by kernel_rfl) (by kernel_rfl) ?_
          refine pl_take (.bool false) rfl (by kernel_rfl) (by kernel_rfl) (by kernel_rfl) (by kernel_rfl) ?_
          refine pl_take (.bool false) rfl (by kernel_rfl) (by kernel_rfl) (by kernel_rfl) (by kernel_rfl) ?_
          refine pl_take (.int .i64 (f36 : Int)) rfl (by kernel_rfl) (by kernel_rfl) (by kernel_rfl) (by kernel_rfl) ?_
          refine pl_take (.int .i64 (Mem.fill (l.take j) tt34 : Int)) rfl (by kernel_rfl) (by kernel_rfl) (by kernel_rfl) (by kernel_rfl) ?_
          refine pl_take (.bool false) rfl (by kernel_rfl) (by kernel_rfl) (by kernel_rfl) (ev_nne (show _ = Result.ok (Next.value (Value.bool ((f36 : Int) != (Mem.fill (l.take j) tt34 : Int)))) _ from by kernel_rfl) (by omega)) ?_
          refine pl_take (.bool false) rfl (by kernel_rfl) (by kernel_rfl) (by kernel_rfl) (by kernel_rfl) ?_
          refine pl_take (.bool false) rfl (by kernel_rfl) (by kernel_rfl) (by kernel_rfl) (by kernel_rfl) ?_
          refine pl_take (.int .i64 (f36 : Int)) rfl (by kernel_rfl) (by kernel_rfl) (by kernel_rfl) (by kernel_rfl) ?_
          refine pl_take (.int .i64 (b11 : Int)) rfl (by kernel_rfl) (by kernel_rfl) (by kernel_rfl) (by kernel_rfl) ?_
          refine pl_take (.bool false) rfl (by kernel_rfl) (by kernel_rfl) (by kernel_rfl) (ev_ndec (show _ = Result.ok (Next.value (Value.bool (decide ((f36 : Int) > (b11 : Int))))) _ from by kernel_rfl) (by omega)) ?_
          refine pl_take (.bool false) rfl (by kernel_rfl) (by kernel_rfl) (by kernel_rfl) (by kernel_rfl) ?_
          refine pl_take (.bool false) rfl (by kernel_rfl) (by kernel_rfl) (by kernel_rfl) (by kernel_rfl) ?_
          refine pl_take (.int .i64 (f36 : Int)) rfl (by kernel_rfl) (by kernel_rfl) (by kernel_rfl) (by kernel_rfl) ?_
          refine pl_take (.int .i64 (b11 : Int)) rfl (by kernel_rfl) (by kernel_rfl) (by kernel_rfl) (by kernel_rfl) ?_
          by_cases hc50 : (f36 : Int) = (b11 : Int)
          ·
            refine pl_take (.bool true) rfl (by kernel_rfl) (by kernel_rfl) (by kernel_rfl) (ev_eq (show _ = Result.ok (Next.value (Value.bool ((f36 : Int) == (b11 : Int)))) _ from by kernel_rfl) (hc50)) ?_
            refine pl_take (.bool true) rfl (by kernel_rfl) (by kernel_rfl) (by kernel_rfl) (by kernel_rfl) ?_
            refine pl_take (.int .i64 (b11 : Int)) rfl (by kernel_rfl) (by kernel_rfl) (by kernel_rfl) (by kernel_rfl) ?_
            by_cases hc51 : (b11 : Int) > (0 : Int)
            ·
              refine pl_take (.bool true) rfl (by kernel_rfl) (by kernel_rfl) (by kernel_rfl) (ev_dec (show _ = Result.ok (Next.value (Value.bool (decide ((b11 : Int) > (0 : Int))))) _ from by kernel_rfl) (hc51)) ?_
              refine pl_take (.bool true) rfl (by kernel_rfl) (by kernel_rfl) (by kernel_rfl) (by kernel_rfl) ?_
              refine pl_take (.bool true) rfl (by kernel_rfl) (by kernel_rfl) (by kernel_rfl) (by kernel_rfl) ?_
              refine pl_take (.int .i64 (tt34 : Int)) rfl (by kernel_rfl) (by kernel_rfl) (by kernel_rfl) (by kernel_rfl) ?_
              refine pl_take (.int .i64 (t12 : Int)) rfl (by kernel_rfl) (by kernel_rfl) (by kernel_rfl) (by kernel_rfl) ?_
              refine pl_take (.bool false) rfl (by kernel_rfl) (by kernel_rfl) (by kernel_rfl) (ev_ndec (show _ = Result.ok (Next.value (Value.bool (decide ((tt34 : Int) < (t12 : Int))))) _ from by kernel_rfl) (by omega)) ?_
              refine pl_take (.bool false) rfl (by kernel_rfl) (by kernel_rfl) (by kernel_rfl) (by kernel_rfl) ?_
              refine pl_take (.bool false) rfl (by kernel_rfl) (by kernel_rfl) (by kernel_rfl) (by kernel_rfl) ?_
              refine pl_take (.bool false) rfl (by kernel_rfl) (by kernel_rfl) (by kernel_rfl) (by kernel_rfl) ?_
              refine pl_take (.int .i64 (f36 : Int)) rfl (by kernel_rfl) (by kernel_rfl) (by kernel_rfl) (by kernel_rfl) ?_
              refine pl_take (.int .i64 (pk10 : Int)) rfl (by kernel_rfl) (by kernel_rfl) (by kernel_rfl) (by kernel_rfl) ?_
              by_cases hc52 : (f36 : Int) > (pk10 : Int)
              ·
                refine pl_take (.bool true) rfl (by kernel_rfl) (by kernel_rfl) (by kernel_rfl) (ev_dec (show _ = Result.ok (Next.value (Value.bool (decide ((f36 : Int) > (pk10 : Int))))) _ from by kernel_rfl) (hc52)) ?_
                refine pl_take (.bool true) rfl (by kernel_rfl) (by kernel_rfl) (by kernel_rfl) (by kernel_rfl) ?_
                refine pl_take (.int .i64 (ov15 : Int)) rfl (by kernel_rfl) (by kernel_rfl) (by kernel_rfl) (by kernel_rfl) ?_
                refine pl_take (.bool false) rfl (by kernel_rfl) (by kernel_rfl) (by kernel_rfl) (ev_ndec (show _ = Result.ok (Next.value (Value.bool (decide ((ov15 : Int) < (0 : Int))))) _ from by kernel_rfl) (by omega)) ?_
                refine pl_take (.bool false) rfl (by kernel_rfl) (by kernel_rfl) (by kernel_rfl) (by kernel_rfl) ?_
                refine pl_take (.int .i64 (tt34 : Int)) rfl (by kernel_rfl) (by kernel_rfl) (by kernel_rfl) (by kernel_rfl) ?_
                refine pl_take (.int .i64 (ov15 : Int)) rfl (by kernel_rfl) (by kernel_rfl) (by kernel_rfl) (by kernel_rfl) ?_
                refine pl_take (.bool false) rfl (by kernel_rfl) (by kernel_rfl) (by kernel_rfl) (ev_ndec (show _ = Result.ok (Next.value (Value.bool (decide ((tt34 : Int) < (ov15 : Int))))) _ from by kernel_rfl) (by omega)) ?_
                refine pl_take (.bool false) rfl (by kernel_rfl) (by kernel_rfl) (by kernel_rfl) (by kernel_rfl) ?_
                refine pl_take (.bool false) rfl (by kernel_rfl) (by kernel_rfl) (by kernel_rfl) (by kernel_rfl) ?_
                refine pl_take (.bool false) rfl (by kernel_rfl) (by kernel_rfl) (by kernel_rfl) (by kernel_rfl) ?_
                refine pl_nil ?_
                refine qw_then ?_
                refine cw_clean [1, 7, 8, 9, 10, 11, 13, 17, 18, 19, 177] (ws' := [(1, .int .i64 (i1 : Int)), (7, .bool true), (8, .slice a1 k1 c1), (9, .int .i64 (pk10 : Int)), (10, .int .i64 (b11 : Int)), (11, .int .i64 (t12 : Int)), (13, .int .i64 (ov15 : Int)), (17, .int .i64 (((tn : Nat) : Int) : Int)), (18, .int .i64 (tt34 : Int)), (19, .int .i64 (f36 : Int)), (177, .bool false)]) (by kernel_rfl) (fun L => ?_)
                refine cw_f (by kernel_rfl) ?_
                refine cw_skip ?_
                refine qw_then ?_
                refine cw_seq ?_
                refine cw_plain ?_
                refine pl_take (.int .i64 (tt34 : Int)) rfl (by kernel_rfl) (by kernel_rfl) (by kernel_rfl) (by kernel_rfl) ?_
                refine pl_take (.int .i64 (t12 : Int)) rfl (by kernel_rfl) (by kernel_rfl) (by kernel_rfl) (by kernel_rfl) ?_
                by_cases hc53 : (tt34 : Int) = (t12 : Int)
                ·
                  refine pl_take (.bool true) rfl (by kernel_rfl) (by kernel_rfl) (by kernel_rfl) (ev_eq (show _ = Result.ok (Next.value (Value.bool ((tt34 : Int) == (t12 : Int)))) _ from by kernel_rfl) (hc53)) ?_
                  refine pl_take (.bool true) rfl (by kernel_rfl) (by kernel_rfl) (by kernel_rfl) (by kernel_rfl) ?_
                  refine pl_take (.int .i64 (f36 : Int)) rfl (by kernel_rfl) (by kernel_rfl) (by kernel_rfl) (by kernel_rfl) ?_
                  refine pl_take (.int .i64 (b11 : Int)) rfl (by kernel_rfl) (by kernel_rfl) (by kernel_rfl) (by kernel_rfl) ?_
                  refine pl_take (.bool false) rfl (by kernel_rfl) (by kernel_rfl) (by kernel_rfl) (ev_nne (show _ = Result.ok (Next.value (Value.bool ((f36 : Int) != (b11 : Int)))) _ from by kernel_rfl) (by omega)) ?_
                  refine pl_take (.bool false) rfl (by kernel_rfl) (by kernel_rfl) (by kernel_rfl) (by kernel_rfl) ?_
                  refine pl_take (.bool false) rfl (by kernel_rfl) (by kernel_rfl) (by kernel_rfl) (by kernel_rfl) ?_
                  refine pl_take (.int .i64 (tt34 : Int)) rfl (by kernel_rfl) (by kernel_rfl) (by kernel_rfl) (by kernel_rfl) ?_
                  refine pl_take (.int .i64 (ov15 : Int)) rfl (by kernel_rfl) (by kernel_rfl) (by kernel_rfl) (by kernel_rfl) ?_
                  by_cases hc54 : (tt34 : Int) = (ov15 : Int)
                  ·
                    refine pl_take (.bool true) rfl (by kernel_rfl) (by kernel_rfl) (by kernel_rfl) (ev_eq (show _ = Result.ok (Next.value (Value.bool ((tt34 : Int) == (ov15 : Int)))) _ from by kernel_rfl) (hc54)) ?_
                    refine pl_take (.bool true) rfl (by kernel_rfl) (by kernel_rfl) (by kernel_rfl) (by kernel_rfl) ?_
                    refine pl_take (.int .i64 (f36 : Int)) rfl (by kernel_rfl) (by kernel_rfl) (by kernel_rfl) (by kernel_rfl) ?_
                    refine pl_take (.int .i64 (pk10 : Int)) rfl (by kernel_rfl) (by kernel_rfl) (by kernel_rfl) (by kernel_rfl) ?_
                    refine pl_take (.bool false) rfl (by kernel_rfl) (by kernel_rfl) (by kernel_rfl) (ev_ndec (show _ = Result.ok (Next.value (Value.bool (decide ((f36 : Int) ≤ (pk10 : Int))))) _ from by kernel_rfl) (by omega)) ?_
                    refine pl_take (.bool false) rfl (by kernel_rfl) (by kernel_rfl) (by kernel_rfl) (by kernel_rfl) ?_
                    refine pl_take (.bool false) rfl (by kernel_rfl) (by kernel_rfl) (by kernel_rfl) (by kernel_rfl) ?_
                    refine pl_nil ?_
                    refine qw_then ?_
                    refine cw_clean [1, 7, 8, 9, 10, 11, 13, 17, 195] (ws' := [(1, .int .i64 (i1 : Int)), (7, .bool true), (8, .slice a1 k1 c1), (9, .int .i64 (pk10 : Int)), (10, .int .i64 (b11 : Int)), (11, .int .i64 (t12 : Int)), (13, .int .i64 (ov15 : Int)), (17, .int .i64 (((tn : Nat) : Int) : Int)), (195, .bool false)]) (by kernel_rfl) (fun L => ?_)
                    refine cw_f (by kernel_rfl) ?_
                    refine cw_skip ?_
                    refine qw_block ?_
                    refine qw_then ?_
                    refine cw_plain ?_
                    refine pl_take (.int .i64 (((tn : Nat) : Int) : Int)) rfl (by kernel_rfl) (by kernel_rfl) (by kernel_rfl) (by kernel_rfl) ?_
                    refine pl_take (.int .i64 (((tn + 1 : Nat) : Int) : Int)) rfl (by kernel_rfl) (by kernel_rfl) (by kernel_rfl) (ev_wrap (by kernel_rfl) (by omega) (by omega)) ?_
                    refine pl_take (.int .i64 (((tn + 1 : Nat) : Int) : Int)) rfl (by kernel_rfl) (by kernel_rfl) (by kernel_rfl) (by kernel_rfl) ?_
                    refine pl_nil ?_
                    refine qw_round [1, 7, 8, 9, 10, 11, 13, 17] (ws' := [(1, .int .i64 (i1 : Int)), (7, .bool true), (8, .slice a1 k1 c1), (9, .int .i64 (pk10 : Int)), (10, .int .i64 (b11 : Int)), (11, .int .i64 (t12 : Int)), (13, .int .i64 (ov15 : Int)), (17, .int .i64 (((tn + 1 : Nat) : Int) : Int))]) (by kernel_rfl) _ ?_ ⟨(tn + 1), rfl, rfl, (Nat.le_trans hs26 (Nat.le_trans hs32 (Nat.le_trans hs38 hs39))), hE, hX9, by omega⟩
                    omega
                  ·
                    refine pl_take (.bool false) rfl (by kernel_rfl) (by kernel_rfl) (by kernel_rfl) (ev_neq (show _ = Result.ok (Next.value (Value.bool ((tt34 : Int) == (ov15 : Int)))) _ from by kernel_rfl) (hc54)) ?_
                    refine pl_take (.bool false) rfl (by kernel_rfl) (by kernel_rfl) (by kernel_rfl) (by kernel_rfl) ?_
                    refine pl_skip rfl (by kernel_rfl) (by kernel_rfl) (by kernel_rfl) ?_
                    refine pl_skip rfl (by kernel_rfl) (by kernel_rfl) (by kernel_rfl) ?_
                    refine pl_skip rfl (by kernel_rfl) (by kernel_rfl) (by kernel_rfl) ?_
                    refine pl_take (.bool false) rfl (by kernel_rfl) (by kernel_rfl) (by kernel_rfl) (by kernel_rfl) ?_
                    refine pl_take (.bool false) rfl (by kernel_rfl) (by kernel_rfl) (by kernel_rfl) (by kernel_rfl) ?_
                    refine pl_nil ?_
                    refine qw_then ?_
                    refine cw_clean [1, 7, 8, 9, 10, 11, 13, 17, 195] (ws' := [(1, .int .i64 (i1 : Int)), (7, .bool true), (8, .slice a1 k1 c1), (9, .int .i64 (pk10 : Int)), (10, .int .i64 (b11 : Int)), (11, .int .i64 (t12 : Int)), (13, .int .i64 (ov15 : Int)), (17, .int .i64 (((tn : Nat) : Int) : Int)), (195, .bool false)]) (by kernel_rfl) (fun L => ?_)
                    refine cw_f (by kernel_rfl) ?_
                    refine cw_skip ?_
                    refine qw_block ?_
                    refine qw_then ?_
                    refine cw_plain ?_
                    refine pl_take (.int .i64 (((tn : Nat) : Int) : Int)) rfl (by kernel_rfl) (by kernel_rfl) (by kernel_rfl) (by kernel_rfl) ?_
                    refine pl_take (.int .i64 (((tn + 1 : Nat) : Int) : Int)) rfl (by kernel_rfl) (by kernel_rfl) (by kernel_rfl) (ev_wrap (by kernel_rfl) (by omega) (by omega)) ?_
                    refine pl_take (.int .i64 (((tn + 1 : Nat) : Int) : Int)) rfl (by kernel_rfl) (by kernel_rfl) (by kernel_rfl) (by kernel_rfl) ?_
                    refine pl_nil ?_
                    refine qw_round [1, 7, 8, 9, 10, 11, 13, 17] (ws' := [(1, .int .i64 (i1 : Int)), (7, .bool true), (8, .slice a1 k1 c1), (9, .int .i64 (pk10 : Int)), (10, .int .i64 (b11 : Int)), (11, .int .i64 (t12 : Int)), (13, .int .i64 (ov15 : Int)), (17, .int .i64 (((tn + 1 : Nat) : Int) : Int))]) (by kernel_rfl) _ ?_ ⟨(tn + 1), rfl, rfl, (Nat.le_trans hs26 (Nat.le_trans hs32 (Nat.le_trans hs38 hs39))), hE, hX9, by omega⟩
                    omega
                ·
                  refine pl_take (.bool false) rfl (by kernel_rfl) (by kernel_rfl) (by kernel_rfl) (ev_neq (show _ = Result.ok (Next.value (Value.bool ((tt34 : Int) == (t12 : Int)))) _ from by kernel_rfl) (hc53)) ?_
                  refine pl_take (.bool false) rfl (by kernel_rfl) (by kernel_rfl) (by kernel_rfl) (by kernel_rfl) ?_
                  refine pl_skip rfl (by kernel_rfl) (by kernel_rfl) (by kernel_rfl) ?_
                  refine pl_skip rfl (by kernel_rfl) (by kernel_rfl) (by kernel_rfl) ?_
                  refine pl_skip rfl (by kernel_rfl) (by kernel_rfl) (by kernel_rfl) ?_
                  refine pl_take (.bool false) rfl (by kernel_rfl) (by kernel_rfl) (by kernel_rfl) (by kernel_rfl) ?_
                  refine pl_take (.bool false) rfl (by kernel_rfl) (by kernel_rfl) (by kernel_rfl) (by kernel_rfl) ?_
                  refine pl_take (.int .i64 (tt34 : Int)) rfl (by kernel_rfl) (by kernel_rfl) (by kernel_rfl) (by kernel_rfl) ?_
                  refine pl_take (.int .i64 (ov15 : Int)) rfl (by kernel_rfl) (by kernel_rfl) (by kernel_rfl) (by kernel_rfl) ?_
                  by_cases hc55 : (tt34 : Int) = (ov15 : Int)
                  ·
                    refine pl_take (.bool true) rfl (by kernel_rfl) (by kernel_rfl) (by kernel_rfl) (ev_eq (show _ = Result.ok (Next.value (Value.bool ((tt34 : Int) == (ov15 : Int)))) _ from by kernel_rfl) (hc55)) ?_
                    refine pl_take (.bool true) rfl (by kernel_rfl) (by kernel_rfl) (by kernel_rfl) (by kernel_rfl) ?_
                    refine pl_take (.int .i64 (f36 : Int)) rfl (by kernel_rfl) (by kernel_rfl) (by kernel_rfl) (by kernel_rfl) ?_
                    refine pl_take (.int .i64 (pk10 : Int)) rfl (by kernel_rfl) (by kernel_rfl) (by kernel_rfl) (by kernel_rfl) ?_
                    refine pl_take (.bool false) rfl (by kernel_rfl) (by kernel_rfl) (by kernel_rfl) (ev_ndec (show _ = Result.ok (Next.value (Value.bool (decide ((f36 : Int) ≤ (pk10 : Int))))) _ from by kernel_rfl) (by omega)) ?_
                    refine pl_take (.bool false) rfl (by kernel_rfl) (by kernel_rfl) (by kernel_rfl) (by kernel_rfl) ?_
                    refine pl_take (.bool false) rfl (by kernel_rfl) (by kernel_rfl) (by kernel_rfl) (by kernel_rfl) ?_
                    refine pl_nil ?_
                    refine qw_then ?_
                    refine cw_clean [1, 7, 8, 9, 10, 11, 13, 17, 195] (ws' := [(1, .int .i64 (i1 : Int)), (7, .bool true), (8, .slice a1 k1 c1), (9, .int .i64 (pk10 : Int)), (10, .int .i64 (b11 : Int)), (11, .int .i64 (t12 : Int)), (13, .int .i64 (ov15 : Int)), (17, .int .i64 (((tn : Nat) : Int) : Int)), (195, .bool false)]) (by kernel_rfl) (fun L => ?_)
                    refine cw_f (by kernel_rfl) ?_
                    refine cw_skip ?_
                    refine qw_block ?_
                    refine qw_then ?_
                    refine cw_plain ?_
                    refine pl_take (.int .i64 (((tn : Nat) : Int) : Int)) rfl (by kernel_rfl) (by kernel_rfl) (by kernel_rfl) (by kernel_rfl) ?_
                    refine pl_take (.int .i64 (((tn + 1 : Nat) : Int) : Int)) rfl (by kernel_rfl) (by kernel_rfl) (by kernel_rfl) (ev_wrap (by kernel_rfl) (by omega) (by omega)) ?_
                    refine pl_take (.int .i64 (((tn + 1 : Nat) : Int) : Int)) rfl (by kernel_rfl) (by kernel_rfl) (by kernel_rfl) (by kernel_rfl) ?_
                    refine pl_nil ?_
                    refine qw_round [1, 7, 8, 9, 10, 11, 13, 17] (ws' := [(1, .int .i64 (i1 : Int)), (7, .bool true), (8, .slice a1 k1 c1), (9, .int .i64 (pk10 : Int)), (10, .int .i64 (b11 : Int)), (11, .int .i64 (t12 : Int)), (13, .int .i64 (ov15 : Int)), (17, .int .i64 (((tn + 1 : Nat) : Int) : Int))]) (by kernel_rfl) _ ?_ ⟨(tn + 1), rfl, rfl, (Nat.le_trans hs26 (Nat.le_trans hs32 (Nat.le_trans hs38 hs39))), hE, hX9, by omega⟩
                    omega
                  ·
                    refine pl_take (.bool false) rfl (by kernel_rfl) (by kernel_rfl) (by kernel_rfl) (ev_neq (show _ = Result.ok (Next.value (Value.bool ((tt34 : Int) == (ov15 : Int)))) _ from by kernel_rfl) (hc55)) ?_
                    refine pl_take (.bool false) rfl (by kernel_rfl) (by kernel_rfl) (by kernel_rfl) (by kernel_rfl) ?_
                    refine pl_skip rfl (by kernel_rfl) (by kernel_rfl) (by kernel_rfl) ?_
                    refine pl_skip rfl (by kernel_rfl) (by kernel_rfl) (by kernel_rfl) ?_
                    refine pl_skip rfl (by kernel_rfl) (by kernel_rfl) (by kernel_rfl) ?_
                    refine pl_take (.bool false) rfl (by kernel_rfl) (by kernel_rfl) (by kernel_rfl) (by kernel_rfl) ?_
                    refine pl_take (.bool false) rfl (by kernel_rfl) (by kernel_rfl) (by kernel_rfl) (by kernel_rfl) ?_
                    refine pl_nil ?_
                    refine qw_then ?_
                    refine cw_clean [1, 7, 8, 9, 10, 11, 13, 17, 195] (ws' := [(1, .int .i64 (i1 : Int)), (7, .bool true), (8, .slice a1 k1 c1), (9, .int .i64 (pk10 : Int)), (10, .int .i64 (b11 : Int)), (11, .int .i64 (t12 : Int)), (13, .int .i64 (ov15 : Int)), (17, .int .i64 (((tn : Nat) : Int) : Int)), (195, .bool false)]) (by kernel_rfl) (fun L => ?_)
                    refine cw_f (by kernel_rfl) ?_
                    refine cw_skip ?_
                    refine qw_block ?_
                    refine qw_then ?_
                    refine cw_plain ?_
                    refine pl_take (.int .i64 (((tn : Nat) : Int) : Int)) rfl (by kernel_rfl) (by kernel_rfl) (by kernel_rfl) (by kernel_rfl) ?_
                    refine pl_take (.int .i64 (((tn + 1 : Nat) : Int) : Int)) rfl (by kernel_rfl) (by kernel_rfl) (by kernel_rfl) (ev_wrap (by kernel_rfl) (by omega) (by omega)) ?_
                    refine pl_take (.int .i64 (((tn + 1 : Nat) : Int) : Int)) rfl (by kernel_rfl) (by kernel_rfl) (by kernel_rfl) (by kernel_rfl) ?_
                    refine pl_nil ?_
                    refine qw_round [1, 7, 8, 9, 10, 11, 13, 17] (ws' := [(1, .int .i64 (i1 : Int)), (7, .bool true), (8, .slice a1 k1 c1), (9, .int .i64 (pk10 : Int)), (10, .int .i64 (b11 : Int)), (11, .int .i64 (t12 : Int)), (13, .int .i64 (ov15 : Int)), (17, .int .i64 (((tn + 1 : Nat) : Int) : Int))]) (by kernel_rfl) _ ?_ ⟨(tn + 1), rfl, rfl, (Nat.le_trans hs26 (Nat.le_trans hs32 (Nat.le_trans hs38 hs39))), hE, hX9, by omega⟩
                    omega
              ·
                refine pl_take (.bool false) rfl (by kernel_rfl) (by kernel_rfl) (by kernel_rfl) (ev_ndec (show _ = Result.ok (Next.value (Value.bool (decide ((f36 : Int) > (pk10 : Int))))) _ from by kernel_rfl) (hc52)) ?_
                refine pl_take (.bool false) rfl (by kernel_rfl) (by kernel_rfl) (by kernel_rfl) (by kernel_rfl) ?_
                refine pl_skip rfl (by kernel_rfl) (by kernel_rfl) (by kernel_rfl) ?_
                refine pl_skip rfl (by kernel_rfl) (by kernel_rfl) (by kernel_rfl) ?_
                refine pl_skip rfl (by kernel_rfl) (by kernel_rfl) (by kernel_rfl) ?_
                refine pl_skip rfl (by kernel_rfl) (by kernel_rfl) (by kernel_rfl) ?_
                refine pl_skip rfl (by kernel_rfl) (by kernel_rfl) (by kernel_rfl) ?_
                refine pl_skip rfl (by kernel_rfl) (by kernel_rfl) (by kernel_rfl) ?_
                refine pl_skip rfl (by kernel_rfl) (by kernel_rfl) (by kernel_rfl) ?_
                refine pl_take (.bool false) rfl (by kernel_rfl) (by kernel_rfl) (by kernel_rfl) (by kernel_rfl) ?_
                refine pl_take (.bool false) rfl (by kernel_rfl) (by kernel_rfl) (by kernel_rfl) (by kernel_rfl) ?_
                refine pl_nil ?_
                refine qw_then ?_
                refine cw_clean [1, 7, 8, 9, 10, 11, 13, 17, 18, 19, 177] (ws' := [(1, .int .i64 (i1 : Int)), (7, .bool true), (8, .slice a1 k1 c1), (9, .int .i64 (pk10 : Int)), (10, .int .i64 (b11 : Int)), (11, .int .i64 (t12 : Int)), (13, .int .i64 (ov15 : Int)), (17, .int .i64 (((tn : Nat) : Int) : Int)), (18, .int .i64 (tt34 : Int)), (19, .int .i64 (f36 : Int)), (177, .bool false)]) (by kernel_rfl) (fun L => ?_)
                refine cw_f (by kernel_rfl) ?_
                refine cw_skip ?_
                refine qw_then ?_
                refine cw_seq ?_
                refine cw_plain ?_
                refine pl_take (.int .i64 (tt34 : Int)) rfl (by kernel_rfl) (by kernel_rfl) (by kernel_rfl) (by kernel_rfl) ?_
                refine pl_take (.int .i64 (t12 : Int)) rfl (by kernel_rfl) (by kernel_rfl) (by kernel_rfl) (by kernel_rfl) ?_
                by_cases hc56 : (tt34 : Int) = (t12 : Int)
                ·
                  refine pl_take (.bool true) rfl (by kernel_rfl) (by kernel_rfl) (by kernel_rfl) (ev_eq (show _ = Result.ok (Next.value (Value.bool ((tt34 : Int) == (t12 : Int)))) _ from by kernel_rfl) (hc56)) ?_
                  refine pl_take (.bool true) rfl (by kernel_rfl) (by kernel_rfl) (by kernel_rfl) (by kernel_rfl) ?_
                  refine pl_take (.int .i64 (f36 : Int)) rfl (by kernel_rfl) (by kernel_rfl) (by kernel_rfl) (by kernel_rfl) ?_
                  refine pl_take (.int .i64 (b11 : Int)) rfl (by kernel_rfl) (by kernel_rfl) (by kernel_rfl) (by kernel_rfl) ?_
                  refine pl_take (.bool false) rfl (by kernel_rfl) (by kernel_rfl) (by kernel_rfl) (ev_nne (show _ = Result.ok (Next.value (Value.bool ((f36 : Int) != (b11 : Int)))) _ from by kernel_rfl) (by omega)) ?_
                  refine pl_take (.bool false) rfl (by kernel_rfl) (by kernel_rfl) (by kernel_rfl) (by kernel_rfl) ?_
                  refine pl_take (.bool false) rfl (by kernel_rfl) (by kernel_rfl) (by kernel_rfl) (by kernel_rfl) ?_
                  refine pl_take (.int .i64 (tt34 : Int)) rfl (by kernel_rfl) (by kernel_rfl) (by kernel_rfl) (by kernel_rfl) ?_
                  refine pl_take (.int .i64 (ov15 : Int)) rfl (by kernel_rfl) (by kernel_rfl) (by kernel_rfl) (by kernel_rfl) ?_
                  by_cases hc57 : (tt34 : Int) = (ov15 : Int)
                  ·
                    refine pl_take (.bool true) rfl (by kernel_rfl) (by kernel_rfl) (by kernel_rfl) (ev_eq (show _ = Result.ok (Next.value (Value.bool ((tt34 : Int) == (ov15 : Int)))) _ from by kernel_rfl) (hc57)) ?_
                    refine pl_take (.bool true) rfl (by kernel_rfl) (by kernel_rfl) (by kernel_rfl) (by kernel_rfl) ?_
                    refine pl_take (.int .i64 (f36 : Int)) rfl (by kernel_rfl) (by kernel_rfl) (by kernel_rfl) (by kernel_rfl) ?_
                    refine pl_take (.int .i64 (pk10 : Int)) rfl (by kernel_rfl) (by kernel_rfl) (by kernel_rfl) (by kernel_rfl) ?_
                    refine pl_take (.bool false) rfl (by kernel_rfl) (by kernel_rfl) (by kernel_rfl) (ev_ndec (show _ = Result.ok (Next.value (Value.bool (decide ((f36 : Int) ≤ (pk10 : Int))))) _ from by kernel_rfl) (by omega)) ?_
                    refine pl_take (.bool false) rfl (by kernel_rfl) (by kernel_rfl) (by kernel_rfl) (by kernel_rfl) ?_
                    refine pl_take (.bool false) rfl (by kernel_rfl) (by kernel_rfl) (by kernel_rfl) (by kernel_rfl) ?_
                    refine pl_nil ?_
                    refine qw_then ?_
                    refine cw_clean [1, 7, 8, 9, 10, 11, 13, 17, 195] (ws' := [(1, .int .i64 (i1 : Int)), (7, .bool true), (8, .slice a1 k1 c1), (9, .int .i64 (pk10 : Int)), (10, .int .i64 (b11 : Int)), (11, .int .i64 (t12 : Int)), (13, .int .i64 (ov15 : Int)), (17, .int .i64 (((tn : Nat) : Int) : Int)), (195, .bool false)]) (by kernel_rfl) (fun L => ?_)
                    refine cw_f (by kernel_rfl) ?_
                    refine cw_skip ?_
                    refine qw_block ?_
                    refine qw_then ?_
                    refine cw_plain ?_
                    refine pl_take (.int .i64 (((tn : Nat) : Int) : Int)) rfl (by kernel_rfl) (by kernel_rfl) (by kernel_rfl) (by kernel_rfl) ?_
                    refine pl_take (.int .i64 (((tn + 1 : Nat) : Int) : Int)) rfl (by kernel_rfl) (by kernel_rfl) (by kernel_rfl) (ev_wrap (by kernel_rfl) (by omega) (by omega)) ?_
                    refine pl_take (.int .i64 (((tn + 1 : Nat) : Int) : Int)) rfl (by kernel_rfl) (by kernel_rfl) (by kernel_rfl) (by kernel_rfl) ?_
                    refine pl_nil ?_
                    refine qw_round [1, 7, 8, 9, 10, 11, 13, 17] (ws' := [(1, .int .i64 (i1 : Int)), (7, .bool true), (8, .slice a1 k1 c1), (9, .int .i64 (pk10 : Int)), (10, .int .i64 (b11 : Int)), (11, .int .i64 (t12 : Int)), (13, .int .i64 (ov15 : Int)), (17, .int .i64 (((tn + 1 : Nat) : Int) : Int))]) (by kernel_rfl) _ ?_ ⟨(tn + 1), rfl, rfl, (Nat.le_trans hs26 (Nat.le_trans hs32 (Nat.le_trans hs38 hs39))), hE, hX9, by omega⟩
                    omega
                  ·
                    refine pl_take (.bool false) rfl (by kernel_rfl) (by kernel_rfl) (by kernel_rfl) (ev_neq (show _ = Result.ok (Next.value (Value.bool ((tt34 : Int) == (ov15 : Int)))) _ from by kernel_rfl) (hc57)) ?_
                    refine pl_take (.bool false) rfl (by kernel_rfl) (by kernel_rfl) (by kernel_rfl) (by kernel_rfl) ?_
                    refine pl_skip rfl (by kernel_rfl) (by kernel_rfl) (by kernel_rfl) ?_
                    refine pl_skip rfl (by kernel_rfl) (by kernel_rfl) (by kernel_rfl) ?_
                    refine pl_skip rfl (by kernel_rfl) (by kernel_rfl) (by kernel_rfl) ?_
                    refine pl_take (.bool false) rfl (by kernel_rfl) (by kernel_rfl) (by kernel_rfl) (by kernel_rfl) ?_
                    refine pl_take (.bool false) rfl (by kernel_rfl) (by kernel_rfl) (by kernel_rfl) (by kernel_rfl) ?_
                    refine pl_nil ?_
                    refine qw_then ?_
                    refine cw_clean [1, 7, 8, 9, 10, 11, 13, 17, 195] (ws' := [(1, .int .i64 (i1 : Int)), (7, .bool true), (8, .slice a1 k1 c1), (9, .int .i64 (pk10 : Int)), (10, .int .i64 (b11 : Int)), (11, .int .i64 (t12 : Int)), (13, .int .i64 (ov15 : Int)), (17, .int .i64 (((tn : Nat) : Int) : Int)), (195, .bool false)]) (by kernel_rfl) (fun L => ?_)
                    refine cw_f (by kernel_rfl) ?_
                    refine cw_skip ?_
                    refine qw_block ?_
                    refine qw_then ?_
                    refine cw_plain ?_
                    refine pl_take (.int .i64 (((tn : Nat) : Int) : Int)) rfl (by kernel_rfl) (by kernel_rfl) (by kernel_rfl) (by kernel_rfl) ?_
                    refine pl_take (.int .i64 (((tn + 1 : Nat) : Int) : Int)) rfl (by kernel_rfl) (by kernel_rfl) (by kernel_rfl) (ev_wrap (by kernel_rfl) (by omega) (by omega)) ?_
                    refine pl_take (.int .i64 (((tn + 1 : Nat) : Int) : Int)) rfl (by kernel_rfl) (by kernel_rfl) (by kernel_rfl) (by kernel_rfl) ?_
                    refine pl_nil ?_
                    refine qw_round [1, 7, 8, 9, 10, 11, 13, 17] (ws' := [(1, .int .i64 (i1 : Int)), (7, .bool true), (8, .slice a1 k1 c1), (9, .int .i64 (pk10 : Int)), (10, .int .i64 (b11 : Int)), (11, .int .i64 (t12 : Int)), (13, .int .i64 (ov15 : Int)), (17, .int .i64 (((tn + 1 : Nat) : Int) : Int))]) (by kernel_rfl) _ ?_ ⟨(tn + 1), rfl, rfl, (Nat.le_trans hs26 (Nat.le_trans hs32 (Nat.le_trans hs38 hs39))), hE, hX9, by omega⟩
                    omega
                ·
                  refine pl_take (.bool false) rfl (by kernel_rfl) (by kernel_rfl) (by kernel_rfl) (ev_neq (show _ = Result.ok (Next.value (Value.bool ((tt34 : Int) == (t12 : Int)))) _ from by kernel_rfl) (hc56)) ?_
                  refine pl_take (.bool false) rfl (by kernel_rfl) (by kernel_rfl) (by kernel_rfl) (by kernel_rfl) ?_
                  refine pl_skip rfl (by kernel_rfl) (by kernel_rfl) (by kernel_rfl) ?_
                  refine pl_skip rfl (by kernel_rfl) (by kernel_rfl) (by kernel_rfl) ?_
                  refine pl_skip rfl (by kernel_rfl) (by kernel_rfl) (by kernel_rfl) ?_
                  refine pl_take (.bool false) rfl (by kernel_rfl) (by kernel_rfl) (by kernel_rfl) (by kernel_rfl) ?_
                  refine pl_take (.bool false) rfl (by kernel_rfl) (by kernel_rfl) (by kernel_rfl) (by kernel_rfl) ?_
                  refine pl_take (.int .i64 (tt34 : Int)) rfl (by kernel_rfl) (by kernel_rfl) (by kernel_rfl) (by kernel_rfl) ?_
                  refine pl_take (.int .i64 (ov15 : Int)) rfl (by kernel_rfl) (by kernel_rfl) (by kernel_rfl) (by kernel_rfl) ?_
                  by_cases hc58 : (tt34 : Int) = (ov15 : Int)
                  ·
                    refine pl_take (.bool true) rfl (by kernel_rfl) (by kernel_rfl) (by kernel_rfl) (ev_eq (show _ = Result.ok (Next.value (Value.bool ((tt34 : Int) == (ov15 : Int)))) _ from by kernel_rfl) (hc58)) ?_
                    refine pl_take (.bool true) rfl (by kernel_rfl) (by kernel_rfl) (by kernel_rfl) (by kernel_rfl) ?_
                    refine pl_take (.int .i64 (f36 : Int)) rfl (by kernel_rfl) (by kernel_rfl) (by kernel_rfl) (by kernel_rfl) ?_
                    refine pl_take (.int .i64 (pk10 : Int)) rfl (by kernel_rfl) (by kernel_rfl) (by kernel_rfl) (by kernel_rfl) ?_
                    refine pl_take (.bool false) rfl (by kernel_rfl) (by kernel_rfl) (by kernel_rfl) (ev_ndec (show _ = Result.ok (Next.value (Value.bool (decide ((f36 : Int) ≤ (pk10 : Int))))) _ from by kernel_rfl) (by omega)) ?_
                    refine pl_take (.bool false) rfl (by kernel_rfl) (by kernel_rfl) (by kernel_rfl) (by kernel_rfl) ?_
                    refine pl_take (.bool false) rfl (by kernel_rfl) (by kernel_rfl) (by kernel_rfl) (by kernel_rfl) ?_
                    refine pl_nil ?_
                    refine qw_then ?_
                    refine cw_clean [1, 7, 8, 9, 10, 11, 13, 17, 195] (ws' := [(1, .int .i64 (i1 : Int)), (7, .bool true), (8, .slice a1 k1 c1), (9, .int .i64 (pk10 : Int)), (10, .int .i64 (b11 : Int)), (11, .int .i64 (t12 : Int)), (13, .int .i64 (ov15 : Int)), (17, .int .i64 (((tn : Nat) : Int) : Int)), (195, .bool false)]) (by kernel_rfl) (fun L => ?_)
                    refine cw_f (by kernel_rfl) ?_
                    refine cw_skip ?_
                    refine qw_block ?_
                    refine qw_then ?_
                    refine cw_plain ?_
                    refine pl_take (.int .i64 (((tn : Nat) : Int) : Int)) rfl (by kernel_rfl) (by kernel_rfl) (by kernel_rfl) (by kernel_rfl) ?_
                    refine pl_take (.int .i64 (((tn + 1 : Nat) : Int) : Int)) rfl (by kernel_rfl) (by kernel_rfl) (by kernel_rfl) (ev_wrap (by kernel_rfl) (by omega) (by omega)) ?_
                    refine pl_take (.int .i64 (((tn + 1 : Nat) : Int) : Int)) rfl (by kernel_rfl) (by kernel_rfl) (by kernel_rfl) (by kernel_rfl) ?_
                    refine pl_nil ?_
                    refine qw_round [1, 7, 8, 9, 10, 11, 13, 17] (ws' := [(1, .int .i64 (i1 : Int)), (7, .bool true), (8, .slice a1 k1 c1), (9, .int .i64 (pk10 : Int)), (10, .int .i64 (b11 : Int)), (11, .int .i64 (t12 : Int)), (13, .int .i64 (ov15 : Int)), (17, .int .i64 (((tn + 1 : Nat) : Int) : Int))]) (by kernel_rfl) _ ?_ ⟨(tn + 1), rfl, rfl, (Nat.le_trans hs26 (Nat.le_trans hs32 (Nat.le_trans hs38 hs39))), hE, hX9, by omega⟩
                    omega
                  ·
                    refine pl_take (.bool false) rfl (by kernel_rfl) (by kernel_rfl) (by kernel_rfl) (ev_neq (show _ = Result.ok (Next.value (Value.bool ((tt34 : Int) == (ov15 : Int)))) _ from by kernel_rfl) (hc58)) ?_
                    refine pl_take (.bool false) rfl (by kernel_rfl) (by kernel_rfl) (by kernel_rfl) (by kernel_rfl) ?_
                    refine pl_skip rfl (by kernel_rfl) (by kernel_rfl) (by kernel_rfl) ?_
                    refine pl_skip rfl (by kernel_rfl) (by kernel_rfl) (by kernel_rfl) ?_
                    refine pl_skip rfl (by kernel_rfl) (by kernel_rfl) (by kernel_rfl) ?_
                    refine pl_take (.bool false) rfl (by kernel_rfl) (by kernel_rfl) (by kernel_rfl) (by kernel_rfl) ?_
                    refine pl_take (.bool false) rfl (by kernel_rfl) (by kernel_rfl) (by kernel_rfl) (by kernel_rfl) ?_
                    refine pl_nil ?_
                    refine qw_then ?_
                    refine cw_clean [1, 7, 8, 9, 10, 11, 13, 17, 195] (ws' := [(1, .int .i64 (i1 : Int)), (7, .bool true), (8, .slice a1 k1 c1), (9, .int .i64 (pk10 : Int)), (10, .int .i64 (b11 : Int)), (11, .int .i64 (t12 : Int)), (13, .int .i64 (ov15 : Int)), (17, .int .i64 (((tn : Nat) : Int) : Int)), (195, .bool false)]) (by kernel_rfl) (fun L => ?_)
                    refine cw_f (by kernel_rfl) ?_
                    refine cw_skip ?_
                    refine qw_block ?_
                    refine qw_then ?_
                    refine cw_plain ?_
                    refine pl_take (.int .i64 (((tn : Nat) : Int) : Int)) rfl (by kernel_rfl) (by kernel_rfl) (by kernel_rfl) (by kernel_rfl) ?_
                    refine pl_take (.int .i64 (((tn + 1 : Nat) : Int) : Int)) rfl (by kernel_rfl) (by kernel_rfl) (by kernel_rfl) (ev_wrap (by kernel_rfl) (by omega) (by omega)) ?_
                    refine pl_take (.int .i64 (((tn + 1 : Nat) : Int) : Int)) rfl (by kernel_rfl) (by kernel_rfl) (by kernel_rfl) (by kernel_rfl) ?_
                    refine pl_nil ?_
                    refine qw_round [1, 7, 8, 9, 10, 11, 13, 17] (ws' := [(1, .int .i64 (i1 : Int)), (7, .bool true), (8, .slice a1 k1 c1), (9, .int .i64 (pk10 : Int)), (10, .int .i64 (b11 : Int)), (11, .int .i64 (t12 : Int)), (13, .int .i64 (ov15 : Int)), (17, .int .i64 (((tn + 1 : Nat) : Int) : Int))]) (by kernel_rfl) _ ?_ ⟨(tn + 1), rfl, rfl, (Nat.le_trans hs26 (Nat.le_trans hs32 (Nat.le_trans hs38 hs39))), hE, hX9, by omega⟩
                    omega
            ·
              refine pl_take (.bool false) rfl (by kernel_rfl) (by kernel_rfl) (by kernel_rfl) (ev_ndec (show _ = Result.ok (Next.value (Value.bool (decide ((b11 : Int) > (0 : Int))))) _ from by kernel_rfl) (hc51)) ?_
              refine pl_take (.bool false) rfl (by kernel_rfl) (by kernel_rfl) (by kernel_rfl) (by kernel_rfl) ?_
              refine pl_take (.bool false) rfl (by kernel_rfl) (by kernel_rfl) (by kernel_rfl) (by kernel_rfl) ?_
              refine pl_skip rfl (by kernel_rfl) (by kernel_rfl) (by kernel_rfl) ?_
              refine pl_skip rfl (by kernel_rfl) (by kernel_rfl) (by kernel_rfl) ?_
              refine pl_skip rfl (by kernel_rfl) (by kernel_rfl) (by kernel_rfl) ?_
              refine pl_take (.bool false) rfl (by kernel_rfl) (by kernel_rfl) (by kernel_rfl) (by kernel_rfl) ?_
              refine pl_take (.bool false) rfl (by kernel_rfl) (by kernel_rfl) (by kernel_rfl) (by kernel_rfl) ?_
              refine pl_take (.bool false) rfl (by kernel_rfl) (by kernel_rfl) (by kernel_rfl) (by kernel_rfl) ?_
              refine pl_take (.int .i64 (f36 : Int)) rfl (by kernel_rfl) (by kernel_rfl) (by kernel_rfl) (by kernel_rfl) ?_
              refine pl_take (.int .i64 (pk10 : Int)) rfl (by kernel_rfl) (by kernel_rfl) (by kernel_rfl) (by kernel_rfl) ?_
              by_cases hc59 : (f36 : Int) > (pk10 : Int)
              ·
                refine pl_take (.bool true) rfl (by kernel_rfl) (by kernel_rfl) (by kernel_rfl) (ev_dec (show _ = Result.ok (Next.value (Value.bool (decide ((f36 : Int) > (pk10 : Int))))) _ from by kernel_rfl) (hc59)) ?_
                refine pl_take (.bool true) rfl (by kernel_rfl) (by kernel_rfl) (by kernel_rfl) (by kernel_rfl) ?_
                refine pl_take (.int .i64 (ov15 : Int)) rfl (by kernel_rfl) (by kernel_rfl) (by kernel_rfl) (by kernel_rfl) ?_
                refine pl_take (.bool false) rfl (by kernel_rfl) (by kernel_rfl) (by kernel_rfl) (ev_ndec (show _ = Result.ok (Next.value (Value.bool (decide ((ov15 : Int) < (0 : Int))))) _ from by kernel_rfl) (by omega)) ?_
                refine pl_take (.bool false) rfl (by kernel_rfl) (by kernel_rfl) (by kernel_rfl) (by kernel_rfl) ?_
                refine pl_take (.int .i64 (tt34 : Int)) rfl (by kernel_rfl) (by kernel_rfl) (by kernel_rfl) (by kernel_rfl) ?_
                refine pl_take (.int .i64 (ov15 : Int)) rfl (by kernel_rfl) (by kernel_rfl) (by kernel_rfl) (by kernel_rfl) ?_
                refine pl_take (.bool false) rfl (by kernel_rfl) (by kernel_rfl) (by kernel_rfl) (ev_ndec (show _ = Result.ok (Next.value (Value.bool (decide ((tt34 : Int) < (ov15 : Int))))) _ from by kernel_rfl) (by omega)) ?_
                refine pl_take (.bool false) rfl (by kernel_rfl) (by kernel_rfl) (by kernel_rfl) (by kernel_rfl) ?_
                refine pl_take (.bool false) rfl (by kernel_rfl) (by kernel_rfl) (by kernel_rfl) (by kernel_rfl) ?_
                refine pl_take (.bool false) rfl (by kernel_rfl) (by kernel_rfl) (by kernel_rfl) (by kernel_rfl) ?_
                refine pl_nil ?_
                refine qw_then ?_
                refine cw_clean [1, 7, 8, 9, 10, 11, 13, 17, 18, 19, 177] (ws' := [(1, .int .i64 (i1 : Int)), (7, .bool true), (8, .slice a1 k1 c1), (9, .int .i64 (pk10 : Int)), (10, .int .i64 (b11 : Int)), (11, .int .i64 (t12 : Int)), (13, .int .i64 (ov15 : Int)), (17, .int .i64 (((tn : Nat) : Int) : Int)), (18, .int .i64 (tt34 : Int)), (19, .int .i64 (f36 : Int)), (177, .bool false)]) (by kernel_rfl) (fun L => ?_)
                refine cw_f (by kernel_rfl) ?_
                refine cw_skip ?_
                refine qw_then ?_
                refine cw_seq ?_
                refine cw_plain ?_
                refine pl_take (.int .i64 (tt34 : Int)) rfl (by kernel_rfl) (by kernel_rfl) (by kernel_rfl) (by kernel_rfl) ?_
                refine pl_take (.int .i64 (t12 : Int)) rfl (by kernel_rfl) (by kernel_rfl) (by kernel_rfl) (by kernel_rfl) ?_
                by_cases hc60 : (tt34 : Int) = (t12 : Int)
                ·
                  refine pl_take (.bool true) rfl (by kernel_rfl) (by kernel_rfl) (by kernel_rfl) (ev_eq (show _ = Result.ok (Next.value (Value.bool ((tt34 : Int) == (t12 : Int)))) _ from by kernel_rfl) (hc60)) ?_
                  refine pl_take (.bool true) rfl (by kernel_rfl) (by kernel_rfl) (by kernel_rfl) (by kernel_rfl) ?_
                  refine pl_take (.int .i64 (f36 : Int)) rfl (by kernel_rfl) (by kernel_rfl) (by kernel_rfl) (by kernel_rfl) ?_
                  refine pl_take (.int .i64 (b11 : Int)) rfl (by kernel_rfl) (by kernel_rfl) (by kernel_rfl) (by kernel_rfl) ?_
                  refine pl_take (.bool false) rfl (by kernel_rfl) (by kernel_rfl) (by kernel_rfl) (ev_nne (show _ = Result.ok (Next.value (Value.bool ((f36 : Int) != (b11 : Int)))) _ from by kernel_rfl) (by omega)) ?_
                  refine pl_take (.bool false) rfl (by kernel_rfl) (by kernel_rfl) (by kernel_rfl) (by kernel_rfl) ?_
                  refine pl_take (.bool false) rfl (by kernel_rfl) (by kernel_rfl) (by kernel_rfl) (by kernel_rfl) ?_
                  refine pl_take (.int .i64 (tt34 : Int)) rfl (by kernel_rfl) (by kernel_rfl) (by kernel_rfl) (by kernel_rfl) ?_
                  refine pl_take (.int .i64 (ov15 : Int)) rfl (by kernel_rfl) (by kernel_rfl) (by kernel_rfl) (by kernel_rfl) ?_
                  by_cases hc61 : (tt34 : Int) = (ov15 : Int)
                  ·
                    refine pl_take (.bool true) rfl (by kernel_rfl) (by kernel_rfl) (by kernel_rfl) (ev_eq (show _ = Result.ok (Next.value (Value.bool ((tt34 : Int) == (ov15 : Int)))) _ from by kernel_rfl) (hc61)) ?_
                    refine pl_take (.bool true) rfl (by kernel_rfl) (by kernel_rfl) (by kernel_rfl) (by kernel_rfl) ?_
                    refine pl_take (.int .i64 (f36 : Int)) rfl (by kernel_rfl) (by kernel_rfl) (by kernel_rfl) (by kernel_rfl) ?_
                    refine pl_take (.int .i64 (pk10 : Int)) rfl (by kernel_rfl) (by kernel_rfl) (by kernel_rfl) (by kernel_rfl) ?_
                    refine pl_take (.bool false) rfl (by kernel_rfl) (by kernel_rfl) (by kernel_rfl) (ev_ndec (show _ = Result.ok (Next.value (Value.bool (decide ((f36 : Int) ≤ (pk10 : Int))))) _ from by kernel_rfl) (by omega)) ?_
                    refine pl_take (.bool false) rfl (by kernel_rfl) (by kernel_rfl) (by kernel_rfl) (by kernel_rfl) ?_
                    refine pl_take (.bool false) rfl (by kernel_rfl) (by kernel_rfl) (by kernel_rfl) (by kernel_rfl) ?_
                    refine pl_nil ?_
                    refine qw_then ?_
                    refine cw_clean [1, 7, 8, 9, 10, 11, 13, 17, 195] (ws' := [(1, .int .i64 (i1 : Int)), (7, .bool true), (8, .slice a1 k1 c1), (9, .int .i64 (pk10 : Int)), (10, .int .i64 (b11 : Int)), (11, .int .i64 (t12 : Int)), (13, .int .i64 (ov15 : Int)), (17, .int .i64 (((tn : Nat) : Int) : Int)), (195, .bool false)]) (by kernel_rfl) (fun L => ?_)
                    refine cw_f (by kernel_rfl) ?_
                    refine cw_skip ?_
                    refine qw_block ?_
                    refine qw_then ?_
                    refine cw_plain ?_
                    refine pl_take (.int .i64 (((tn : Nat) : Int) : Int)) rfl (by kernel_rfl) (by kernel_rfl) (by kernel_rfl) (by kernel_rfl) ?_
                    refine pl_take (.int .i64 (((tn + 1 : Nat) : Int) : Int)) rfl (by kernel_rfl) (by kernel_rfl) (by kernel_rfl) (ev_wrap (by kernel_rfl) (by omega) (by omega)) ?_
                    refine pl_take (.int .i64 (((tn + 1 : Nat) : Int) : Int)) rfl (by kernel_rfl) (by kernel_rfl) (by kernel_rfl) (by kernel_rfl) ?_
                    refine pl_nil ?_
                    refine qw_round [1, 7, 8, 9, 10, 11, 13, 17] (ws' := [(1, .int .i64 (i1 : Int)), (7, .bool true), (8, .slice a1 k1 c1), (9, .int .i64 (pk10 : Int)), (10, .int .i64 (b11 : Int)), (11, .int .i64 (t12 : Int)), (13, .int .i64 (ov15 : Int)), (17, .int .i64 (((tn + 1 : Nat) : Int) : Int))]) (by kernel_rfl) _ ?_ ⟨(tn + 1), rfl, rfl, (Nat.le_trans hs26 (Nat.le_trans hs32 (Nat.le_trans hs38 hs39))), hE, hX9, by omega⟩
                    omega
                  ·
                    refine pl_take (.bool false) rfl (by kernel_rfl) (by kernel_rfl) (by kernel_rfl) (ev_neq (show _ = Result.ok (Next.value (Value.bool ((tt34 : Int) == (ov15 : Int)))) _ from by kernel_rfl) (hc61)) ?_
                    refine pl_take (.bool false) rfl (by kernel_rfl) (by kernel_rfl) (by kernel_rfl) (by kernel_rfl) ?_
                    refine pl_skip rfl (by kernel_rfl) (by kernel_rfl) (by kernel_rfl) ?_
                    refine pl_skip rfl (by kernel_rfl) (by kernel_rfl) (by kernel_rfl) ?_
                    refine pl_skip rfl (by kernel_rfl) (by kernel_rfl) (by kernel_rfl) ?_
                    refine pl_take (.bool false) rfl (by kernel_rfl) (by kernel_rfl) (by kernel_rfl) (by kernel_rfl) ?_
                    refine pl_take (.bool false) rfl (by kernel_rfl) (by kernel_rfl) (by kernel_rfl) (by kernel_rfl) ?_
                    refine pl_nil ?_
                    refine qw_then ?_
                    refine cw_clean [1, 7, 8, 9, 10, 11, 13, 17, 195] (ws' := [(1, .int .i64 (i1 : Int)), (7, .bool true), (8, .slice a1 k1 c1), (9, .int .i64 (pk10 : Int)), (10, .int .i64 (b11 : Int)), (11, .int .i64 (t12 : Int)), (13, .int .i64 (ov15 : Int)), (17, .int .i64 (((tn : Nat) : Int) : Int)), (195, .bool false)]) (by kernel_rfl) (fun L => ?_)
                    refine cw_f (by kernel_rfl) ?_
                    refine cw_skip ?_
                    refine qw_block ?_
                    refine qw_then ?_
                    refine cw_plain ?_
                    refine pl_take (.int .i64 (((tn : Nat) : Int) : Int)) rfl (by kernel_rfl) (by kernel_rfl) (by kernel_rfl) (by kernel_rfl) ?_
                    refine pl_take (.int .i64 (((tn + 1 : Nat) : Int) : Int)) rfl (by kernel_rfl) (by kernel_rfl) (by kernel_rfl) (ev_wrap (by kernel_rfl) (by omega) (by omega)) ?_
                    refine pl_take (.int .i64 (((tn + 1 : Nat) : Int) : Int)) rfl (by kernel_rfl) (by kernel_rfl) (by kernel_rfl) (by kernel_rfl) ?_
                    refine pl_nil ?_
                    refine qw_round [1, 7, 8, 9, 10, 11, 13, 17] (ws' := [(1, .int .i64 (i1 : Int)), (7, .bool true), (8, .slice a1 k1 c1), (9, .int .i64 (pk10 : Int)), (10, .int .i64 (b11 : Int)), (11, .int .i64 (t12 : Int)), (13, .int .i64 (ov15 : Int)), (17, .int .i64 (((tn + 1 : Nat) : Int) : Int))]) (by kernel_rfl) _ ?_ ⟨(tn + 1), rfl, rfl, (Nat.le_trans hs26 (Nat.le_trans hs32 (Nat.le_trans hs38 hs39))), hE, hX9, by omega⟩
                    omega
                ·
                  refine pl_take (.bool false) rfl (by kernel_rfl) (by kernel_rfl) (by kernel_rfl) (ev_neq (show _ = Result.ok (Next.value (Value.bool ((tt34 : Int) == (t12 : Int)))) _ from by kernel_rfl) (hc60)) ?_
                  refine pl_take (.bool false) rfl (by kernel_rfl) (by kernel_rfl) (by kernel_rfl) (by kernel_rfl) ?_
                  refine pl_skip rfl (by kernel_rfl) (by kernel_rfl) (by kernel_rfl) ?_
                  refine pl_skip rfl (by kernel_rfl) (by kernel_rfl) (by kernel_rfl) ?_
                  refine pl_skip rfl (by kernel_rfl) (by kernel_rfl) (by kernel_rfl) ?_
                  refine pl_take (.bool false) rfl (by kernel_rfl) (by kernel_rfl) (by kernel_rfl) (by kernel_rfl) ?_
                  refine pl_take (.bool false) rfl (by kernel_rfl) (by kernel_rfl) (by kernel_rfl) (by kernel_rfl) ?_
                  refine pl_take (.int .i64 (tt34 : Int)) rfl (by kernel_rfl) (by kernel_rfl) (by kernel_rfl) (by kernel_rfl) ?_
                  refine pl_take (.int .i64 (ov15 : Int)) rfl (by kernel_rfl) (by kernel_rfl) (by kernel_rfl) (by kernel_rfl) ?_
                  by_cases hc62 : (tt34 : Int) = (ov15 : Int)
                  ·
                    refine pl_take (.bool true) rfl (by kernel_rfl) (by kernel_rfl) (by kernel_rfl) (ev_eq (show _ = Result.ok (Next.value (Value.bool ((tt34 : Int) == (ov15 : Int)))) _ from by kernel_rfl) (hc62)) ?_
                    refine pl_take (.bool true) rfl (by kernel_rfl) (by kernel_rfl) (by kernel_rfl) (by kernel_rfl) ?_
                    refine pl_take (.int .i64 (f36 : Int)) rfl (by kernel_rfl) (by kernel_rfl) (by kernel_rfl) (by kernel_rfl) ?_
                    refine pl_take (.int .i64 (pk10 : Int)) rfl (by kernel_rfl) (by kernel_rfl) (by kernel_rfl) (by kernel_rfl) ?_
                    refine pl_take (.bool false) rfl (by kernel_rfl) (by kernel_rfl) (by kernel_rfl) (ev_ndec (show _ = Result.ok (Next.value (Value.bool (decide ((f36 : Int) ≤ (pk10 : Int))))) _ from by kernel_rfl) (by omega)) ?_
                    refine pl_take (.bool false) rfl (by kernel_rfl) (by kernel_rfl) (by kernel_rfl) (by kernel_rfl) ?_
                    refine pl_take (.bool false) rfl (by kernel_rfl) (by kernel_rfl) (by kernel_rfl) (by kernel_rfl) ?_
                    refine pl_nil ?_
                    refine qw_then ?_
                    refine cw_clean [1, 7, 8, 9, 10, 11, 13, 17, 195] (ws' := [(1, .int .i64 (i1 : Int)), (7, .bool true), (8, .slice a1 k1 c1), (9, .int .i64 (pk10 : Int)), (10, .int .i64 (b11 : Int)), (11, .int .i64 (t12 : Int)), (13, .int .i64 (ov15 : Int)), (17, .int .i64 (((tn : Nat) : Int) : Int)), (195, .bool false)]) (by kernel_rfl) (fun L => ?_)
                    refine cw_f (by kernel_rfl) ?_
                    refine cw_skip ?_
                    refine qw_block ?_
                    refine qw_then ?_
                    refine cw_plain ?_
                    refine pl_take (.int .i64 (((tn : Nat) : Int) : Int)) rfl (by kernel_rfl) (by kernel_rfl) (by kernel_rfl) (by kernel_rfl) ?_
                    refine pl_take (.int .i64 (((tn + 1 : Nat) : Int) : Int)) rfl (by kernel_rfl) (by kernel_rfl) (by kernel_rfl) (ev_wrap (by kernel_rfl) (by omega) (by omega)) ?_
                    refine pl_take (.int .i64 (((tn + 1 : Nat) : Int) : Int)) rfl (by kernel_rfl) (by kernel_rfl) (by kernel_rfl) (by kernel_rfl) ?_
                    refine pl_nil ?_
                    refine qw_round [1, 7, 8, 9, 10, 11, 13, 17] (ws' := [(1, .int .i64 (i1 : Int)), (7, .bool true), (8, .slice a1 k1 c1), (9, .int .i64 (pk10 : Int)), (10, .int .i64 (b11 : Int)), (11, .int .i64 (t12 : Int)), (13, .int .i64 (ov15 : Int)), (17, .int .i64 (((tn + 1 : Nat) : Int) : Int))]) (by kernel_rfl) _ ?_ ⟨(tn + 1), rfl, rfl, (Nat.le_trans hs26 (Nat.le_trans hs32 (Nat.le_trans hs38 hs39))), hE, hX9, by omega⟩
                    omega
                  ·
                    refine pl_take (.bool false) rfl (by kernel_rfl) (by kernel_rfl) (by kernel_rfl) (ev_neq (show _ = Result.ok (Next.value (Value.bool ((tt34 : Int) == (ov15 : Int)))) _ from by kernel_rfl) (hc62)) ?_
                    refine pl_take (.bool false) rfl (by kernel_rfl) (by kernel_rfl) (by kernel_rfl) (by kernel_rfl) ?_
                    refine pl_skip rfl (by kernel_rfl) (by kernel_rfl) (by kernel_rfl) ?_
                    refine pl_skip rfl (by kernel_rfl) (by kernel_rfl) (by kernel_rfl) ?_
                    refine pl_skip rfl (by kernel_rfl) (by kernel_rfl) (by kernel_rfl) ?_
                    refine pl_take (.bool false) rfl (by kernel_rfl) (by kernel_rfl) (by kernel_rfl) (by kernel_rfl) ?_
                    refine pl_take (.bool false) rfl (by kernel_rfl) (by kernel_rfl) (by kernel_rfl) (by kernel_rfl) ?_
                    refine pl_nil ?_
                    refine qw_then ?_
                    refine cw_clean [1, 7, 8, 9, 10, 11, 13, 17, 195] (ws' := [(1, .int .i64 (i1 : Int)), (7, .bool true), (8, .slice a1 k1 c1), (9, .int .i64 (pk10 : Int)), (10, .int .i64 (b11 : Int)), (11, .int .i64 (t12 : Int)), (13, .int .i64 (ov15 : Int)), (17, .int .i64 (((tn : Nat) : Int) : Int)), (195, .bool false)]) (by kernel_rfl) (fun L => ?_)
                    refine cw_f (by kernel_rfl) ?_
                    refine cw_skip ?_
                    refine qw_block ?_
                    refine qw_then ?_
                    refine cw_plain ?_
                    refine pl_take (.int .i64 (((tn : Nat) : Int) : Int)) rfl (by kernel_rfl) (by kernel_rfl) (by kernel_rfl) (by kernel_rfl) ?_
                    refine pl_take (.int .i64 (((tn + 1 : Nat) : Int) : Int)) rfl (by kernel_rfl) (by kernel_rfl) (by kernel_rfl) (ev_wrap (by kernel_rfl) (by omega) (by omega)) ?_
                    refine pl_take (.int .i64 (((tn + 1 : Nat) : Int) : Int)) rfl (by kernel_rfl) (by kernel_rfl) (by kernel_rfl) (by kernel_rfl) ?_
                    refine pl_nil ?_
                    refine qw_round [1, 7, 8, 9, 10, 11, 13, 17] (ws' := [(1, .int .i64 (i1 : Int)), (7, .bool true), (8, .slice a1 k1 c1), (9, .int .i64 (pk10 : Int)), (10, .int .i64 (b11 : Int)), (11, .int .i64 (t12 : Int)), (13, .int .i64 (ov15 : Int)), (17, .int .i64 (((tn + 1 : Nat) : Int) : Int))]) (by kernel_rfl) _ ?_ ⟨(tn + 1), rfl, rfl, (Nat.le_trans hs26 (Nat.le_trans hs32 (Nat.le_trans hs38 hs39))), hE, hX9, by omega⟩
                    omega
              ·
                refine pl_take (.bool false) rfl (by kernel_rfl) (by kernel_rfl) (by kernel_rfl) (ev_ndec (show _ = Result.ok (Next.value (Value.bool (decide ((f36 : Int) > (pk10 : Int))))) _ from by kernel_rfl) (hc59)) ?_
                refine pl_take (.bool false) rfl (by kernel_rfl) (by kernel_rfl) (by kernel_rfl) (by kernel_rfl) ?_
                refine pl_skip rfl (by kernel_rfl) (by kernel_rfl) (by kernel_rfl) ?_
                refine pl_skip rfl (by kernel_rfl) (by kernel_rfl) (by kernel_rfl) ?_
                refine pl_skip rfl (by kernel_rfl) (by kernel_rfl) (by kernel_rfl) ?_
                refine pl_skip rfl (by kernel_rfl) (by kernel_rfl) (by kernel_rfl) ?_
                refine pl_skip rfl (by kernel_rfl) (by kernel_rfl) (by kernel_rfl) ?_
                refine pl_skip rfl (by kernel_rfl) (by kernel_rfl) (by kernel_rfl) ?_
                refine pl_skip rfl (by kernel_rfl) (by kernel_rfl) (by kernel_rfl) ?_
                refine pl_take (.bool false) rfl (by kernel_rfl) (by kernel_rfl) (by kernel_rfl) (by kernel_rfl) ?_
                refine pl_take (.bool false) rfl (by kernel_rfl) (by kernel_rfl) (by kernel_rfl) (by kernel_rfl) ?_
                refine pl_nil ?_
                refine qw_then ?_
                refine cw_clean [1, 7, 8, 9, 10, 11, 13, 17, 18, 19, 177] (ws' := [(1, .int .i64 (i1 : Int)), (7, .bool true), (8, .slice a1 k1 c1), (9, .int .i64 (pk10 : Int)), (10, .int .i64 (b11 : Int)), (11, .int .i64 (t12 : Int)), (13, .int .i64 (ov15 : Int)), (17, .int .i64 (((tn : Nat) : Int) : Int)), (18, .int .i64 (tt34 : Int)), (19, .int .i64 (f36 : Int)), (177, .bool false)]) (by kernel_rfl) (fun L => ?_)
                refine cw_f (by kernel_rfl) ?_
                refine cw_skip ?_
                refine qw_then ?_
                refine cw_seq ?_
                refine cw_plain ?_
                refine pl_take (.int .i64 (tt34 : Int)) rfl (by kernel_rfl) (by kernel_rfl) (by kernel_rfl) (by kernel_rfl) ?_
                refine pl_take (.int .i64 (t12 : Int)) rfl (by kernel_rfl) (by kernel_rfl) (by kernel_rfl) (by kernel_rfl) ?_
                by_cases hc63 : (tt34 : Int) = (t12 : Int)
                ·
                  refine pl_take (.bool true) rfl (by kernel_rfl) (by kernel_rfl) (by kernel_rfl) (ev_eq (show _ = Result.ok (Next.value (Value.bool ((tt34 : Int) == (t12 : Int)))) _ from by kernel_rfl) (hc63)) ?_
                  refine pl_take (.bool true) rfl (by kernel_rfl) (by kernel_rfl) (by kernel_rfl) (by kernel_rfl) ?_
                  refine pl_take (.int .i64 (f36 : Int)) rfl (by kernel_rfl) (by kernel_rfl) (by kernel_rfl) (by kernel_rfl) ?_
                  refine pl_take (.int .i64 (b11 : Int)) rfl (by kernel_rfl) (by kernel_rfl) (by kernel_rfl) (by kernel_rfl) ?_
                  refine pl_take (.bool false) rfl (by kernel_rfl) (by kernel_rfl) (by kernel_rfl) (ev_nne (show _ = Result.ok (Next.value (Value.bool ((f36 : Int) != (b11 : Int)))) _ from by kernel_rfl) (by omega)) ?_
                  refine pl_take (.bool false) rfl (by kernel_rfl) (by kernel_rfl) (by kernel_rfl) (by kernel_rfl) ?_
                  refine pl_take (.bool false) rfl (by kernel_rfl) (by kernel_rfl) (by kernel_rfl) (by kernel_rfl) ?_
                  refine pl_take (.int .i64 (tt34 : Int)) rfl (by kernel_rfl) (by kernel_rfl) (by kernel_rfl) (by kernel_rfl) ?_
                  refine pl_take (.int .i64 (ov15 : Int)) rfl (by kernel_rfl) (by kernel_rfl) (by kernel_rfl) (by kernel_rfl) ?_
                  by_cases hc64 : (tt34 : Int) = (ov15 : Int)
                  ·
                    refine pl_take (.bool true) rfl (by kernel_rfl) (by kernel_rfl) (by kernel_rfl) (ev_eq (show _ = Result.ok (Next.value (Value.bool ((tt34 : Int) == (ov15 : Int)))) _ from by kernel_rfl) (hc64)) ?_
                    refine pl_take (.bool true) rfl (by kernel_rfl) (by kernel_rfl) (by kernel_rfl) (by kernel_rfl) ?_
                    refine pl_take (.int .i64 (f36 : Int)) rfl (by kernel_rfl) (by kernel_rfl) (by kernel_rfl) (by kernel_rfl) ?_
                    refine pl_take (.int .i64 (pk10 : Int)) rfl (by kernel_rfl) (by kernel_rfl) (by kernel_rfl) (by kernel_rfl) ?_
                    refine pl_take (.bool false) rfl (by kernel_rfl) (by kernel_rfl) (by kernel_rfl) (ev_ndec (show _ = Result.ok (Next.value (Value.bool (decide ((f36 : Int) ≤ (pk10 : Int))))) _ from by kernel_rfl) (by omega)) ?_
                    refine pl_take (.bool false) rfl (by kernel_rfl) (by kernel_rfl) (by kernel_rfl) (by kernel_rfl) ?_
                    refine pl_take (.bool false) rfl (by kernel_rfl) (by kernel_rfl) (by kernel_rfl) (by kernel_rfl) ?_
                    refine pl_nil ?_
                    refine qw_then ?_
                    refine cw_clean [1, 7, 8, 9, 10, 11, 13, 17, 195] (ws' := [(1, .int .i64 (i1 : Int)), (7, .bool true), (8, .slice a1 k1 c1), (9, .int .i64 (pk10 : Int)), (10, .int .i64 (b11 : Int)), (11, .int .i64 (t12 : Int)), (13, .int .i64 (ov15 : Int)), (17, .int .i64 (((tn : Nat) : Int) : Int)), (195, .bool false)]) (by kernel_rfl) (fun L => ?_)
                    refine cw_f (by kernel_rfl) ?_
                    refine cw_skip ?_
                    refine qw_block ?_
                    refine qw_then ?_
                    refine cw_plain ?_
                    refine pl_take (.int .i64 (((tn : Nat) : Int) : Int)) rfl (by kernel_rfl) (by kernel_rfl) (by kernel_rfl) (by kernel_rfl) ?_
                    refine pl_take (.int .i64 (((tn + 1 : Nat) : Int) : Int)) rfl (by kernel_rfl) (by kernel_rfl) (by kernel_rfl) (ev_wrap (by kernel_rfl) (by omega) (by omega)) ?_
                    refine pl_take (.int .i64 (((tn + 1 : Nat) : Int) : Int)) rfl (by kernel_rfl) (by kernel_rfl) (by kernel_rfl) (by kernel_rfl) ?_
                    refine pl_nil ?_
                    refine qw_round [1, 7, 8, 9, 10, 11, 13, 17] (ws' := [(1, .int .i64 (i1 : Int)), (7, .bool true), (8, .slice a1 k1 c1), (9, .int .i64 (pk10 : Int)), (10, .int .i64 (b11 : Int)), (11, .int .i64 (t12 : Int)), (13, .int .i64 (ov15 : Int)), (17, .int .i64 (((tn + 1 : Nat) : Int) : Int))]) (by kernel_rfl) _ ?_ ⟨(tn + 1), rfl, rfl, (Nat.le_trans hs26 (Nat.le_trans hs32 (Nat.le_trans hs38 hs39))), hE, hX9, by omega⟩
                    omega
                  ·
                    refine pl_take (.bool false) rfl (by kernel_rfl) (by kernel_rfl) (by kernel_rfl) (ev_neq (show _ = Result.ok (Next.value (Value.bool ((tt34 : Int) == (ov15 : Int)))) _ from by kernel_rfl) (hc64)) ?_
                    refine pl_take (.bool false) rfl (by kernel_rfl) (by kernel_rfl) (by kernel_rfl) (by kernel_rfl) ?_
                    refine pl_skip rfl (by kernel_rfl) (by kernel_rfl) (by kernel_rfl) ?_
                    refine pl_skip rfl (by kernel_rfl) (by kernel_rfl) (by kernel_rfl) ?_
                    refine pl_skip rfl (by kernel_rfl) (by kernel_rfl) (by kernel_rfl) ?_
                    refine pl_take (.bool false) rfl (by kernel_rfl) (by kernel_rfl) (by kernel_rfl) (by kernel_rfl) ?_
                    refine pl_take (.bool false) rfl (by kernel_rfl) (by kernel_rfl) (by kernel_rfl) (by kernel_rfl) ?_
                    refine pl_nil ?_
                    refine qw_then ?_
                    refine cw_clean [1, 7, 8, 9, 10, 11, 13, 17, 195] (ws' := [(1, .int .i64 (i1 : Int)), (7, .bool true), (8, .slice a1 k1 c1), (9, .int .i64 (pk10 : Int)), (10, .int .i64 (b11 : Int)), (11, .int .i64 (t12 : Int)), (13, .int .i64 (ov15 : Int)), (17, .int .i64 (((tn : Nat) : Int) : Int)), (195, .bool false)]) (by kernel_rfl) (fun L => ?_)
                    refine cw_f (by kernel_rfl) ?_
                    refine cw_skip ?_
                    refine qw_block ?_
                    refine qw_then ?_
                    refine cw_plain ?_
                    refine pl_take (.int .i64 (((tn : Nat) : Int) : Int)) rfl (by kernel_rfl) (by kernel_rfl) (by kernel_rfl) (by kernel_rfl) ?_
                    refine pl_take (.int .i64 (((tn + 1 : Nat) : Int) : Int)) rfl (by kernel_rfl) (by kernel_rfl) (by kernel_rfl) (ev_wrap (by kernel_rfl) (by omega) (by omega)) ?_
                    refine pl_take (.int .i64 (((tn + 1 : Nat) : Int) : Int)) rfl (by kernel_rfl) (by kernel_rfl) (by kernel_rfl) (by kernel_rfl) ?_
                    refine pl_nil ?_
                    refine qw_round [1, 7, 8, 9, 10, 11, 13, 17] (ws' := [(1, .int .i64 (i1 : Int)), (7, .bool true), (8, .slice a1 k1 c1), (9, .int .i64 (pk10 : Int)), (10, .int .i64 (b11 : Int)), (11, .int .i64 (t12 : Int)), (13, .int .i64 (ov15 : Int)), (17, .int .i64 (((tn + 1 : Nat) : Int) : Int))]) (by kernel_rfl) _ ?_ ⟨(tn + 1), rfl, rfl, (Nat.le_trans hs26 (Nat.le_trans hs32 (Nat.le_trans hs38 hs39))), hE, hX9, by omega⟩
                    omega
                ·
                  refine pl_take (.bool false) rfl (by kernel_rfl) (by kernel_rfl) (by kernel_rfl) (ev_neq (show _ = Result.ok (Next.value (Value.bool ((tt34 : Int) == (t12 : Int)))) _ from by kernel_rfl) (hc63)) ?_
                  refine pl_take (.bool false) rfl (by kernel_rfl) (by kernel_rfl) (by kernel_rfl) (by kernel_rfl) ?_
                  refine pl_skip rfl (by kernel_rfl) (by kernel_rfl) (by kernel_rfl) ?_
                  refine pl_skip rfl (by kernel_rfl) (by kernel_rfl) (by kernel_rfl) ?_
                  refine pl_skip rfl (by kernel_rfl) (by kernel_rfl) (by kernel_rfl) ?_
                  refine pl_take (.bool false) rfl (by kernel_rfl) (by kernel_rfl) (by kernel_rfl) (by kernel_rfl) ?_
                  refine pl_take (.bool false) rfl (by kernel_rfl) (by kernel_rfl) (by kernel_rfl) (by kernel_rfl) ?_
                  refine pl_take (.int .i64 (tt34 : Int)) rfl (by kernel_rfl) (by kernel_rfl) (by kernel_rfl) (by kernel_rfl) ?_
                  refine pl_take (.int .i64 (ov15 : Int)) rfl (by kernel_rfl) (by kernel_rfl) (by kernel_rfl) (by kernel_rfl) ?_
                  by_cases hc65 : (tt34 : Int) = (ov15 : Int)
                  ·
                    refine pl_take (.bool true) rfl (by kernel_rfl) (by kernel_rfl) (by kernel_rfl) (ev_eq (show _ = Result.ok (Next.value (Value.bool ((tt34 : Int) == (ov15 : Int)))) _ from by kernel_rfl) (hc65)) ?_
                    refine pl_take (.bool true) rfl (by kernel_rfl) (by kernel_rfl) (by kernel_rfl) (by kernel_rfl) ?_
                    refine pl_take (.int .i64 (f36 : Int)) rfl (by kernel_rfl) (by kernel_rfl) (by kernel_rfl) (by kernel_rfl) ?_
                    refine pl_take (.int .i64 (pk10 : Int)) rfl (by kernel_rfl) (by kernel_rfl) (by kernel_rfl) (by kernel_rfl) ?_
                    refine pl_take (.bool false) rfl (by kernel_rfl) (by kernel_rfl) (by kernel_rfl) (ev_ndec (show _ = Result.ok (Next.value (Value.bool (decide ((f36 : Int) ≤ (pk10 : Int))))) _ from by kernel_rfl) (by omega)) ?_
                    refine pl_take (.bool false) rfl (by kernel_rfl) (by kernel_rfl) (by kernel_rfl) (by kernel_rfl) ?_
                    refine pl_take (.bool false) rfl (by kernel_rfl) (by kernel_rfl) (by kernel_rfl) (by kernel_rfl) ?_
                    refine pl_nil ?_
                    refine qw_then ?_
                    refine cw_clean [1, 7, 8, 9, 10, 11, 13, 17, 195] (ws' := [(1, .int .i64 (i1 : Int)), (7, .bool true), (8, .slice a1 k1 c1), (9, .int .i64 (pk10 : Int)), (10, .int .i64 (b11 : Int)), (11, .int .i64 (t12 : Int)), (13, .int .i64 (ov15 : Int)), (17, .int .i64 (((tn : Nat) : Int) : Int)), (195, .bool false)]) (by kernel_rfl) (fun L => ?_)
                    refine cw_f (by kernel_rfl) ?_
                    refine cw_skip ?_
                    refine qw_block ?_
                    refine qw_then ?_
                    refine cw_plain ?_
                    refine pl_take (.int .i64 (((tn : Nat) : Int) : Int)) rfl (by kernel_rfl) (by kernel_rfl) (by kernel_rfl) (by kernel_rfl) ?_
                    refine pl_take (.int .i64 (((tn + 1 : Nat) : Int) : Int)) rfl (by kernel_rfl) (by kernel_rfl) (by kernel_rfl) (ev_wrap (by kernel_rfl) (by omega) (by omega)) ?_
                    refine pl_take (.int .i64 (((tn + 1 : Nat) : Int) : Int)) rfl (by kernel_rfl) (by kernel_rfl) (by kernel_rfl) (by kernel_rfl) ?_
                    refine pl_nil ?_
                    refine qw_round [1, 7, 8, 9, 10, 11, 13, 17] (ws' := [(1, .int .i64 (i1 : Int)), (7, .bool true), (8, .slice a1 k1 c1), (9, .int .i64 (pk10 : Int)), (10, .int .i64 (b11 : Int)), (11, .int .i64 (t12 : Int)), (13, .int .i64 (ov15 : Int)), (17, .int .i64 (((tn + 1 : Nat) : Int) : Int))]) (by kernel_rfl) _ ?_ ⟨(tn + 1), rfl, rfl, (Nat.le_trans hs26 (Nat.le_trans hs32 (Nat.le_trans hs38 hs39))), hE, hX9, by omega⟩
                    omega
                  ·
                    refine pl_take (.bool false) rfl (by kernel_rfl) (by kernel_rfl) (by kernel_rfl) (ev_neq (show _ = Result.ok (Next.value (Value.bool ((tt34 : Int) == (ov15 : Int)))) _ from by kernel_rfl) (hc65)) ?_
                    refine pl_take (.bool false) rfl (by kernel_rfl) (by kernel_rfl) (by kernel_rfl) (by kernel_rfl) ?_
                    refine pl_skip rfl (by kernel_rfl) (by kernel_rfl) (by kernel_rfl) ?_
                    refine pl_skip rfl (by kernel_rfl) (by kernel_rfl) (by kernel_rfl) ?_
                    refine pl_skip rfl (by kernel_rfl) (by kernel_rfl) (by kernel_rfl) ?_
                    refine pl_take (.bool false) rfl (by kernel_rfl) (by kernel_rfl) (by kernel_rfl) (by kernel_rfl) ?_
                    refine pl_take (.bool false) rfl (by kernel_rfl) (by kernel_rfl) (by kernel_rfl) (by kernel_rfl) ?_
                    refine pl_nil ?_
                    refine qw_then ?_
                    refine cw_clean [1, 7, 8, 9, 10, 11, 13, 17, 195] (ws' := [(1, .int .i64 (i1 : Int)), (7, .bool true), (8, .slice a1 k1 c1), (9, .int .i64 (pk10 : Int)), (10, .int .i64 (b11 : Int)), (11, .int .i64 (t12 : Int)), (13, .int .i64 (ov15 : Int)), (17, .int .i64 (((tn : Nat) : Int) : Int)), (195, .bool false)]) (by kernel_rfl) (fun L => ?_)
                    refine cw_f (by kernel_rfl) ?_
                    refine cw_skip ?_
                    refine qw_block ?_
                    refine qw_then ?_
                    refine cw_plain ?_
                    refine pl_take (.int .i64 (((tn : Nat) : Int) : Int)) rfl (by kernel_rfl) (by kernel_rfl) (by kernel_rfl) (by kernel_rfl) ?_
                    refine pl_take (.int .i64 (((tn + 1 : Nat) : Int) : Int)) rfl (by kernel_rfl) (by kernel_rfl) (by kernel_rfl) (ev_wrap (by kernel_rfl) (by omega) (by omega)) ?_
                    refine pl_take (.int .i64 (((tn + 1 : Nat) : Int) : Int)) rfl (by kernel_rfl) (by kernel_rfl) (by kernel_rfl) (by kernel_rfl) ?_
                    refine pl_nil ?_
                    refine qw_round [1, 7, 8, 9, 10, 11, 13, 17] (ws' := [(1, .int .i64 (i1 : Int)), (7, .bool true), (8, .slice a1 k1 c1), (9, .int .i64 (pk10 : Int)), (10, .int .i64 (b11 : Int)), (11, .int .i64 (t12 : Int)), (13, .int .i64 (ov15 : Int)), (17, .int .i64 (((tn + 1 : Nat) : Int) : Int))]) (by kernel_rfl) _ ?_ ⟨(tn + 1), rfl, rfl, (Nat.le_trans hs26 (Nat.le_trans hs32 (Nat.le_trans hs38 hs39))), hE, hX9, by omega⟩
                    omega
          ·
            refine pl_take (.bool false) rfl (by kernel_rfl) (by kernel_rfl) (by kernel_rfl) (ev_neq (show _ = Result.ok (Next.value (Value.bool ((f36 : Int) == (b11 : Int)))) _ from by kernel_rfl) (hc50)) ?_
            refine pl_take (.bool false) rfl (by kernel_rfl) (by kernel_rfl) (by kernel_rfl) (by kernel_rfl) ?_
            refine pl_skip rfl (by kernel_rfl) (by kernel_rfl) (by kernel_rfl) ?_
            refine pl_skip rfl (by kernel_rfl) (by kernel_rfl) (by kernel_rfl) ?_
            refine pl_take (.bool false) rfl (by kernel_rfl) (by kernel_rfl) (by kernel_rfl) (by kernel_rfl) ?_
            refine pl_take (.bool false) rfl (by kernel_rfl) (by kernel_rfl) (by kernel_rfl) (by kernel_rfl) ?_
            refine pl_skip rfl (by kernel_rfl) (by kernel_rfl) (by kernel_rfl) ?_
            refine pl_skip rfl (by kernel_rfl) (by kernel_rfl) (by kernel_rfl) ?_
            refine pl_skip rfl (by kernel_rfl) (by kernel_rfl) (by kernel_rfl) ?_
            refine pl_take (.bool false) rfl (by kernel_rfl) (by kernel_rfl) (by kernel_rfl) (by kernel_rfl) ?_
            refine pl_take (.bool false) rfl (by kernel_rfl) (by kernel_rfl) (by kernel_rfl) (by kernel_rfl) ?_
            refine pl_take (.bool false) rfl (by kernel_rfl) (by kernel_rfl) (by kernel_rfl) (by kernel_rfl) ?_
            refine pl_take (.int .i64 (f36 : Int)) rfl (by kernel_rfl) (by kernel_rfl) (by kernel_rfl) (by kernel_rfl) ?_
            refine pl_take (.int .i64 (pk10 : Int)) rfl (by kernel_rfl) (by kernel_rfl) (by kernel_rfl) (by kernel_rfl) ?_
            by_cases hc66 : (f36 : Int) > (pk10 : Int)
            ·
              refine pl_take (.bool true) rfl (by kernel_rfl) (by kernel_rfl) (by kernel_rfl) (ev_dec (show _ = Result.ok (Next.value (Value.bool (decide ((f36 : Int) > (pk10 : Int))))) _ from by kernel_rfl) (hc66)) ?_
              refine pl_take (.bool true) rfl (by kernel_rfl) (by kernel_rfl) (by kernel_rfl) (by kernel_rfl) ?_
              refine pl_take (.int .i64 (ov15 : Int)) rfl (by kernel_rfl) (by kernel_rfl) (by kernel_rfl) (by kernel_rfl) ?_
              refine pl_take (.bool false) rfl (by kernel_rfl) (by kernel_rfl) (by kernel_rfl) (ev_ndec (show _ = Result.ok (Next.value (Value.bool (decide ((ov15 : Int) < (0 : Int))))) _ from by kernel_rfl) (by omega)) ?_
              refine pl_take (.bool false) rfl (by kernel_rfl) (by kernel_rfl) (by kernel_rfl) (by kernel_rfl) ?_
              refine pl_take (.int .i64 (tt34 : Int)) rfl (by kernel_rfl) (by kernel_rfl) (by kernel_rfl) (by kernel_rfl) ?_
              refine pl_take (.int .i64 (ov15 : Int)) rfl (by kernel_rfl) (by kernel_rfl) (by kernel_rfl) (by kernel_rfl) ?_
              refine pl_take (.bool false) rfl (by kernel_rfl) (by kernel_rfl) (by kernel_rfl) (ev_ndec (show _ = Result.ok (Next.value (Value.bool (decide ((tt34 : Int) < (ov15 : Int))))) _ from by kernel_rfl) (by omega)) ?_
              refine pl_take (.bool false) rfl (by kernel_rfl) (by kernel_rfl) (by kernel_rfl) (by kernel_rfl) ?_
              refine pl_take (.bool false) rfl (by kernel_rfl) (by kernel_rfl) (by kernel_rfl) (by kernel_rfl) ?_
              refine pl_take (.bool false) rfl (by kernel_rfl) (by kernel_rfl) (by kernel_rfl) (by kernel_rfl) ?_
              refine pl_nil ?_
              refine qw_then ?_
              refine cw_clean [1, 7, 8, 9, 10, 11, 13, 17, 18, 19, 177] (ws' := [(1, .int .i64 (i1 : Int)), (7, .bool true), (8, .slice a1 k1 c1), (9, .int .i64 (pk10 : Int)), (10, .int .i64 (b11 : Int)), (11, .int .i64 (t12 : Int)), (13, .int .i64 (ov15 : Int)), (17, .int .i64 (((tn : Nat) : Int) : Int)), (18, .int .i64 (tt34 : Int)), (19, .int .i64 (f36 : Int)), (177, .bool false)]) (by kernel_rfl) (fun L => ?_)
              refine cw_f (by kernel_rfl) ?_
              refine cw_skip ?_
              refine qw_then ?_
              refine cw_seq ?_
              refine cw_plain ?_
              refine pl_take (.int .i64 (tt34 : Int)) rfl (by kernel_rfl) (by kernel_rfl) (by kernel_rfl) (by kernel_rfl) ?_
              refine pl_take (.int .i64 (t12 : Int)) rfl (by kernel_rfl) (by kernel_rfl) (by kernel_rfl) (by kernel_rfl) ?_
              by_cases hc67 : (tt34 : Int) = (t12 : Int)
              ·
                refine pl_take (.bool true) rfl (by kernel_rfl) (by kernel_rfl) (by kernel_rfl) (ev_eq (show _ = Result.ok (Next.value (Value.bool ((tt34 : Int) == (t12 : Int)))) _ from by kernel_rfl) (hc67)) ?_
                refine pl_take (.bool true) rfl (by kernel_rfl) (by kernel_rfl) (by kernel_rfl) (by kernel_rfl) ?_
                refine pl_take (.int .i64 (f36 : Int)) rfl (by kernel_rfl) (by kernel_rfl) (by kernel_rfl) (by kernel_rfl) ?_
                refine pl_take (.int .i64 (b11 : Int)) rfl (by kernel_rfl) (by kernel_rfl) (by kernel_rfl) (by kernel_rfl) ?_
                refine pl_take (.bool false) rfl (by kernel_rfl) (by kernel_rfl) (by kernel_rfl) (ev_nne (show _ = Result.ok (Next.value (Value.bool ((f36 : Int) != (b11 : Int)))) _ from by kernel_rfl) (by omega)) ?_
                refine pl_take (.bool false) rfl (by kernel_rfl) (by kernel_rfl) (by kernel_rfl) (by kernel_rfl) ?_
                refine pl_take (.bool false) rfl (by kernel_rfl) (by kernel_rfl) (by kernel_rfl) (by kernel_rfl) ?_
                refine pl_take (.int .i64 (tt34 : Int)) rfl (by kernel_rfl) (by kernel_rfl) (by kernel_rfl) (by kernel_rfl) ?_
                refine pl_take (.int .i64 (ov15 : Int)) rfl (by kernel_rfl) (by kernel_rfl) (by kernel_rfl) (by kernel_rfl) ?_
                by_cases hc68 : (tt34 : Int) = (ov15 : Int)
                ·
                  refine pl_take (.bool true) rfl (by kernel_rfl) (by kernel_rfl) (by kernel_rfl) (ev_eq (show _ = Result.ok (Next.value (Value.bool ((tt34 : Int) == (ov15 : Int)))) _ from by kernel_rfl) (hc68)) ?_
                  refine pl_take (.bool true) rfl (by kernel_rfl) (by kernel_rfl) (by kernel_rfl) (by kernel_rfl) ?_
                  refine pl_take (.int .i64 (f36 : Int)) rfl (by kernel_rfl) (by kernel_rfl) (by kernel_rfl) (by kernel_rfl) ?_
                  refine pl_take (.int .i64 (pk10 : Int)) rfl (by kernel_rfl) (by kernel_rfl) (by kernel_rfl) (by kernel_rfl) ?_
                  refine pl_take (.bool false) rfl (by kernel_rfl) (by kernel_rfl) (by kernel_rfl) (ev_ndec (show _ = Result.ok (Next.value (Value.bool (decide ((f36 : Int) ≤ (pk10 : Int))))) _ from by kernel_rfl) (by omega)) ?_
                  refine pl_take (.bool false) rfl (by kernel_rfl) (by kernel_rfl) (by kernel_rfl) (by kernel_rfl) ?_
                  refine pl_take (.bool false) rfl (by kernel_rfl) (by kernel_rfl) (by kernel_rfl) (by kernel_rfl) ?_
                  refine pl_nil ?_
                  refine qw_then ?_
                  refine cw_clean [1, 7, 8, 9, 10, 11, 13, 17, 195] (ws' := [(1, .int .i64 (i1 : Int)), (7, .bool true), (8, .slice a1 k1 c1), (9, .int .i64 (pk10 : Int)), (10, .int .i64 (b11 : Int)), (11, .int .i64 (t12 : Int)), (13, .int .i64 (ov15 : Int)), (17, .int .i64 (((tn : Nat) : Int) : Int)), (195, .bool false)]) (by kernel_rfl) (fun L => ?_)
                  refine cw_f (by kernel_rfl) ?_
                  refine cw_skip ?_
                  refine qw_block ?_
                  refine qw_then ?_
                  refine cw_plain ?_
                  refine pl_take (.int .i64 (((tn : Nat) : Int) : Int)) rfl (by kernel_rfl) (by kernel_rfl) (by kernel_rfl) (by kernel_rfl) ?_
                  refine pl_take (.int .i64 (((tn + 1 : Nat) : Int) : Int)) rfl (by kernel_rfl) (by kernel_rfl) (by kernel_rfl) (ev_wrap (by kernel_rfl) (by omega) (by omega)) ?_
                  refine pl_take (.int .i64 (((tn + 1 : Nat) : Int) : Int)) rfl (by kernel_rfl) (by kernel_rfl) (by kernel_rfl) (by kernel_rfl) ?_
                  refine pl_nil ?_
                  refine qw_round [1, 7, 8, 9, 10, 11, 13, 17] (ws' := [(1, .int .i64 (i1 : Int)), (7, .bool true), (8, .slice a1 k1 c1), (9, .int .i64 (pk10 : Int)), (10, .int .i64 (b11 : Int)), (11, .int .i64 (t12 : Int)), (13, .int .i64 (ov15 : Int)), (17, .int .i64 (((tn + 1 : Nat) : Int) : Int))]) (by kernel_rfl) _ ?_ ⟨(tn + 1), rfl, rfl, (Nat.le_trans hs26 (Nat.le_trans hs32 (Nat.le_trans hs38 hs39))), hE, hX9, by omega⟩
                  omega
                ·
                  refine pl_take (.bool false) rfl (by kernel_rfl) (by kernel_rfl) (by kernel_rfl) (ev_neq (show _ = Result.ok (Next.value (Value.bool ((tt34 : Int) == (ov15 : Int)))) _ from by kernel_rfl) (hc68)) ?_
                  refine pl_take (.bool false) rfl (by kernel_rfl) (by kernel_rfl) (by kernel_rfl) (by kernel_rfl) ?_
                  refine pl_skip rfl (by kernel_rfl) (by kernel_rfl) (by kernel_rfl) ?_
                  refine pl_skip rfl (by kernel_rfl) (by kernel_rfl) (by kernel_rfl) ?_
                  refine pl_skip rfl (by kernel_rfl) (by kernel_rfl) (by kernel_rfl) ?_
                  refine pl_take (.bool false) rfl (by kernel_rfl) (by kernel_rfl) (by kernel_rfl) (by kernel_rfl) ?_
                  refine pl_take (.bool false) rfl (by kernel_rfl) (by kernel_rfl) (by kernel_rfl) (by kernel_rfl) ?_
                  refine pl_nil ?_
                  refine qw_then ?_
                  refine cw_clean [1, 7, 8, 9, 10, 11, 13, 17, 195] (ws' := [(1, .int .i64 (i1 : Int)), (7, .bool true), (8, .slice a1 k1 c1), (9, .int .i64 (pk10 : Int)), (10, .int .i64 (b11 : Int)), (11, .int .i64 (t12 : Int)), (13, .int .i64 (ov15 : Int)), (17, .int .i64 (((tn : Nat) : Int) : Int)), (195, .bool false)]) (by kernel_rfl) (fun L => ?_)
                  refine cw_f (by kernel_rfl) ?_
                  refine cw_skip ?_
                  refine qw_block ?_
                  refine qw_then ?_
                  refine cw_plain ?_
                  refine pl_take (.int .i64 (((tn : Nat) : Int) : Int)) rfl (by kernel_rfl) (by kernel_rfl) (by kernel_rfl) (by kernel_rfl) ?_
                  refine pl_take (.int .i64 (((tn + 1 : Nat) : Int) : Int)) rfl (by kernel_rfl) (by kernel_rfl) (by kernel_rfl) (ev_wrap (by kernel_rfl) (by omega) (by omega)) ?_
                  refine pl_take (.int .i64 (((tn + 1 : Nat) : Int) : Int)) rfl (by kernel_rfl) (by kernel_rfl) (by kernel_rfl) (by kernel_rfl) ?_
                  refine pl_nil ?_
                  refine qw_round [1, 7, 8, 9, 10, 11, 13, 17] (ws' := [(1, .int .i64 (i1 : Int)), (7, .bool true), (8, .slice a1 k1 c1), (9, .int .i64 (pk10 : Int)), (10, .int .i64 (b11 : Int)), (11, .int .i64 (t12 : Int)), (13, .int .i64 (ov15 : Int)), (17, .int .i64 (((tn + 1 : Nat) : Int) : Int))]) (by kernel_rfl) _ ?_ ⟨(tn + 1), rfl, rfl, (Nat.le_trans hs26 (Nat.le_trans hs32 (Nat.le_trans hs38 hs39))), hE, hX9, by omega⟩
                  omega
              ·
                refine pl_take (.bool false) rfl (by kernel_rfl) (by kernel_rfl) (by kernel_rfl) (ev_neq (show _ = Result.ok (Next.value (Value.bool ((tt34 : Int) == (t12 : Int)))) _ from by kernel_rfl) (hc67)) ?_
                refine pl_take (.bool false) rfl (by kernel_rfl) (by kernel_rfl) (by kernel_rfl) (by kernel_rfl) ?_
                refine pl_skip rfl (by kernel_rfl) (by kernel_rfl) (by kernel_rfl) ?_
                refine pl_skip rfl (by kernel_rfl) (by kernel_rfl) (by kernel_rfl) ?_
                refine pl_skip rfl (by kernel_rfl) (by kernel_rfl) (by kernel_rfl) ?_
                refine pl_take (.bool false) rfl (by kernel_rfl) (by kernel_rfl) (by kernel_rfl) (by kernel_rfl) ?_
                refine pl_take (.bool false) rfl (by kernel_rfl) (by kernel_rfl) (by kernel_rfl) (by kernel_rfl) ?_
                refine pl_take (.int .i64 (tt34 : Int)) rfl (by kernel_rfl) (by kernel_rfl) (by kernel_rfl) (by kernel_rfl) ?_
                refine pl_take (.int .i64 (ov15 : Int)) rfl (by kernel_rfl) (by kernel_rfl) (by kernel_rfl) (by kernel_rfl) ?_
                by_cases hc69 : (tt34 : Int) = (ov15 : Int)
                ·
                  refine pl_take (.bool true) rfl (by kernel_rfl) (by kernel_rfl) (by kernel_rfl) (ev_eq (show _ = Result.ok (Next.value (Value.bool ((tt34 : Int) == (ov15 : Int)))) _ from by kernel_rfl) (hc69)) ?_
                  refine pl_take (.bool true) rfl (by kernel_rfl) (by kernel_rfl) (by kernel_rfl) (by kernel_rfl) ?_
                  refine pl_take (.int .i64 (f36 : Int)) rfl (by kernel_rfl) (by kernel_rfl) (by kernel_rfl) (by kernel_rfl) ?_
                  refine pl_take (.int .i64 (pk10 : Int)) rfl (by kernel_rfl) (by kernel_rfl) (by kernel_rfl) (by kernel_rfl) ?_
                  refine pl_take (.bool false) rfl (by kernel_rfl) (by kernel_rfl) (by kernel_rfl) (ev_ndec (show _ = Result.ok (Next.value (Value.bool (decide ((f36 : Int) ≤ (pk10 : Int))))) _ from by kernel_rfl) (by omega)) ?_
                  refine pl_take (.bool false) rfl (by kernel_rfl) (by kernel_rfl) (by kernel_rfl) (by kernel_rfl) ?_
                  refine pl_take (.bool false) rfl (by kernel_rfl) (by kernel_rfl) (by kernel_rfl) (by kernel_rfl) ?_
                  refine pl_nil ?_
                  refine qw_then ?_
                  refine cw_clean [1, 7, 8, 9, 10, 11, 13, 17, 195] (ws' := [(1, .int .i64 (i1 : Int)), (7, .bool true), (8, .slice a1 k1 c1), (9, .int .i64 (pk10 : Int)), (10, .int .i64 (b11 : Int)), (11, .int .i64 (t12 : Int)), (13, .int .i64 (ov15 : Int)), (17, .int .i64 (((tn : Nat) : Int) : Int)), (195, .bool false)]) (by kernel_rfl) (fun L => ?_)
                  refine cw_f (by kernel_rfl) ?_
                  refine cw_skip ?_
                  refine qw_block ?_
                  refine qw_then ?_
                  refine cw_plain ?_
                  refine pl_take (.int .i64 (((tn : Nat) : Int) : Int)) rfl (by kernel_rfl) (by kernel_rfl) (by kernel_rfl) (by kernel_rfl) ?_
                  refine pl_take (.int .i64 (((tn + 1 : Nat) : Int) : Int)) rfl (by kernel_rfl) (by kernel_rfl) (by kernel_rfl) (ev_wrap (by kernel_rfl) (by omega) (by omega)) ?_
                  refine pl_take (.int .i64 (((tn + 1 : Nat) : Int) : Int)) rfl (by kernel_rfl) (by kernel_rfl) (by kernel_rfl) (by kernel_rfl) ?_
                  refine pl_nil ?_
                  refine qw_round [1, 7, 8, 9, 10, 11, 13, 17] (ws' := [(1, .int .i64 (i1 : Int)), (7, .bool true), (8, .slice a1 k1 c1), (9, .int .i64 (pk10 : Int)), (10, .int .i64 (b11 : Int)), (11, .int .i64 (t12 : Int)), (13, .int .i64 (ov15 : Int)), (17, .int .i64 (((tn + 1 : Nat) : Int) : Int))]) (by kernel_rfl) _ ?_ ⟨(tn + 1), rfl, rfl, (Nat.le_trans hs26 (Nat.le_trans hs32 (Nat.le_trans hs38 hs39))), hE, hX9, by omega⟩
                  omega
                ·
                  refine pl_take (.bool false) rfl (by kernel_rfl) (by kernel_rfl) (by kernel_rfl) (ev_neq (show _ = Result.ok (Next.value (Value.bool ((tt34 : Int) == (ov15 : Int)))) _ from by kernel_rfl) (hc69)) ?_
                  refine pl_take (.bool false) rfl (by kernel_rfl) (by kernel_rfl) (by kernel_rfl) (by kernel_rfl) ?_
                  refine pl_skip rfl (by kernel_rfl) (by kernel_rfl) (by kernel_rfl) ?_
                  refine pl_skip rfl (by kernel_rfl) (by kernel_rfl) (by kernel_rfl) ?_
                  refine pl_skip rfl (by kernel_rfl) (by kernel_rfl) (by kernel_rfl) ?_
                  refine pl_take (.bool false) rfl (by kernel_rfl) (by kernel_rfl) (by kernel_rfl) (by kernel_rfl) ?_
                  refine pl_take (.bool false) rfl (by kernel_rfl) (by kernel_rfl) (by kernel_rfl) (by kernel_rfl) ?_
                  refine pl_nil ?_
                  refine qw_then ?_
                  refine cw_clean [1, 7, 8, 9, 10, 11, 13, 17, 195] (ws' := [(1, .int .i64 (i1 : Int)), (7, .bool true), (8, .slice a1 k1 c1), (9, .int .i64 (pk10 : Int)), (10, .int .i64 (b11 : Int)), (11, .int .i64 (t12 : Int)), (13, .int .i64 (ov15 : Int)), (17, .int .i64 (((tn : Nat) : Int) : Int)), (195, .bool false)]) (by kernel_rfl) (fun L => ?_)
                  refine cw_f (by kernel_rfl) ?_
                  refine cw_skip ?_
                  refine qw_block ?_
                  refine qw_then ?_
                  refine cw_plain ?_
                  refine pl_take (.int .i64 (((tn : Nat) : Int) : Int)) rfl (by kernel_rfl) (by kernel_rfl) (by kernel_rfl) (by kernel_rfl) ?_
                  refine pl_take (.int .i64 (((tn + 1 : Nat) : Int) : Int)) rfl (by kernel_rfl) (by kernel_rfl) (by kernel_rfl) (ev_wrap (by kernel_rfl) (by omega) (by omega)) ?_
                  refine pl_take (.int .i64 (((tn + 1 : Nat) : Int) : Int)) rfl (by kernel_rfl) (by kernel_rfl) (by kernel_rfl) (by kernel_rfl) ?_
                  refine pl_nil ?_
                  refine qw_round [1, 7, 8, 9, 10, 11, 13, 17] (ws' := [(1, .int .i64 (i1 : Int)), (7, .bool true), (8, .slice a1 k1 c1), (9, .int .i64 (pk10 : Int)), (10, .int .i64 (b11 : Int)), (11, .int .i64 (t12 : Int)), (13, .int .i64 (ov15 : Int)), (17, .int .i64 (((tn + 1 : Nat) : Int) : Int))]) (by kernel_rfl) _ ?_ ⟨(tn + 1), rfl, rfl, (Nat.le_trans hs26 (Nat.le_trans hs32 (Nat.le_trans hs38 hs39))), hE, hX9, by omega⟩
                  omega
            ·
              refine pl_take (.bool false) rfl (by kernel_rfl) (by kernel_rfl) (by kernel_rfl) (ev_ndec (show _ = Result.ok (Next.value (Value.bool (decide ((f36 : Int) > (pk10 : Int))))) _ from by kernel_rfl) (hc66)) ?_
              refine pl_take (.bool false) rfl (by kernel_rfl) (by kernel_rfl) (by kernel_rfl) (by kernel_rfl) ?_
              refine pl_skip rfl (by kernel_rfl) (by kernel_rfl) (by kernel_rfl) ?_
              refine pl_skip rfl (by kernel_rfl) (by kernel_rfl) (by kernel_rfl) ?_
              refine pl_skip rfl (by kernel_rfl) (by kernel_rfl) (by kernel_rfl) ?_
              refine pl_skip rfl (by kernel_rfl) (by kernel_rfl) (by kernel_rfl) ?_
              refine pl_skip rfl (by kernel_rfl) (by kernel_rfl) (by kernel_rfl) ?_
              refine pl_skip rfl (by kernel_rfl) (by kernel_rfl) (by kernel_rfl) ?_
              refine pl_skip rfl (by kernel_rfl) (by kernel_rfl) (by kernel_rfl) ?_
              refine pl_take (.bool false) rfl (by kernel_rfl) (by kernel_rfl) (by kernel_rfl) (by kernel_rfl) ?_
              refine pl_take (.bool false) rfl (by kernel_rfl) (by kernel_rfl) (by kernel_rfl) (by kernel_rfl) ?_
              refine pl_nil ?_
              refine qw_then ?_
              refine cw_clean [1, 7, 8, 9, 10, 11, 13, 17, 18, 19, 177] (ws' := [(1, .int .i64 (i1 : Int)), (7, .bool true), (8, .slice a1 k1 c1), (9, .int .i64 (pk10 : Int)), (10, .int .i64 (b11 : Int)), (11, .int .i64 (t12 : Int)), (13, .int .i64 (ov15 : Int)), (17, .int .i64 (((tn : Nat) : Int) : Int)), (18, .int .i64 (tt34 : Int)), (19, .int .i64 (f36 : Int)), (177, .bool false)]) (by kernel_rfl) (fun L => ?_)
              refine cw_f (by kernel_rfl) ?_
              refine cw_skip ?_
              refine qw_then ?_
              refine cw_seq ?_
              refine cw_plain ?_
              refine pl_take (.int .i64 (tt34 : Int)) rfl (by kernel_rfl) (by kernel_rfl) (by kernel_rfl) (by kernel_rfl) ?_
              refine pl_take (.int .i64 (t12 : Int)) rfl (by kernel_rfl) (by kernel_rfl) (by kernel_rfl) (by kernel_rfl) ?_
              by_cases hc70 : (tt34 : Int) = (t12 : Int)
              ·
                refine pl_take (.bool true) rfl (by kernel_rfl) (by kernel_rfl) (by kernel_rfl) (ev_eq (show _ = Result.ok (Next.value (Value.bool ((tt34 : Int) == (t12 : Int)))) _ from by kernel_rfl) (hc70)) ?_
                refine pl_take (.bool true) rfl (by kernel_rfl) (by kernel_rfl) (by kernel_rfl) (by kernel_rfl) ?_
                refine pl_take (.int .i64 (f36 : Int)) rfl (by kernel_rfl) (by kernel_rfl) (by kernel_rfl) (by kernel_rfl) ?_
                refine pl_take (.int .i64 (b11 : Int)) rfl (by kernel_rfl) (by kernel_rfl) (by kernel_rfl) (by kernel_rfl) ?_
                refine pl_take (.bool false) rfl (by kernel_rfl) (by kernel_rfl) (by kernel_rfl) (ev_nne (show _ = Result.ok (Next.value (Value.bool ((f36 : Int) != (b11 : Int)))) _ from by kernel_rfl) (by omega)) ?_
                refine pl_take (.bool false) rfl (by kernel_rfl) (by kernel_rfl) (by kernel_rfl) (by kernel_rfl) ?_
                refine pl_take (.bool false) rfl (by kernel_rfl) (by kernel_rfl) (by kernel_rfl) (by kernel_rfl) ?_
                refine pl_take (.int .i64 (tt34 : Int)) rfl (by kernel_rfl) (by kernel_rfl) (by kernel_rfl) (by kernel_rfl) ?_
                refine pl_take (.int .i64 (ov15 : Int)) rfl (by kernel_rfl) (by kernel_rfl) (by kernel_rfl) (by kernel_rfl) ?_
                by_cases hc71 : (tt34 : Int) = (ov15 : Int)
                ·
                  refine pl_take (.bool true) rfl (by kernel_rfl) (by kernel_rfl) (by kernel_rfl) (ev_eq (show _ = Result.ok (Next.value (Value.bool ((tt34 : Int) == (ov15 : Int)))) _ from by kernel_rfl) (hc71)) ?_
                  refine pl_take (.bool true) rfl (by kernel_rfl) (by kernel_rfl) (by kernel_rfl) (by kernel_rfl) ?_
                  refine pl_take (.int .i64 (f36 : Int)) rfl (by kernel_rfl) (by kernel_rfl) (by kernel_rfl) (by kernel_rfl) ?_
                  refine pl_take (.int .i64 (pk10 : Int)) rfl (by kernel_rfl) (by kernel_rfl) (by kernel_rfl) (by kernel_rfl) ?_
                  refine pl_take (.bool false) rfl (by kernel_rfl) (by kernel_rfl) (by kernel_rfl) (ev_ndec (show _ = Result.ok (Next.value (Value.bool (decide ((f36 : Int) ≤ (pk10 : Int))))) _ from by kernel_rfl) (by omega)) ?_
                  refine pl_take (.bool false) rfl (by kernel_rfl) (by kernel_rfl) (by kernel_rfl) (by kernel_rfl) ?_
                  refine pl_take (.bool false) rfl (by kernel_rfl) (by kernel_rfl) (by kernel_rfl) (by kernel_rfl) ?_
                  refine pl_nil ?_
                  refine qw_then ?_
                  refine cw_clean [1, 7, 8, 9, 10, 11, 13, 17, 195] (ws' := [(1, .int .i64 (i1 : Int)), (7, .bool true), (8, .slice a1 k1 c1), (9, .int .i64 (pk10 : Int)), (10, .int .i64 (b11 : Int)), (11, .int .i64 (t12 : Int)), (13, .int .i64 (ov15 : Int)), (17, .int .i64 (((tn : Nat) : Int) : Int)), (195, .bool false)]) (by kernel_rfl) (fun L => ?_)
                  refine cw_f (by kernel_rfl) ?_
                  refine cw_skip ?_
                  refine qw_block ?_
                  refine qw_then ?_
                  refine cw_plain ?_
                  refine pl_take (.int .i64 (((tn : Nat) : Int) : Int)) rfl (by kernel_rfl) (by kernel_rfl) (by kernel_rfl) (by kernel_rfl) ?_
                  refine pl_take (.int .i64 (((tn + 1 : Nat) : Int) : Int)) rfl (by kernel_rfl) (by kernel_rfl) (by kernel_rfl) (ev_wrap (by kernel_rfl) (by omega) (by omega)) ?_
                  refine pl_take (.int .i64 (((tn + 1 : Nat) : Int) : Int)) rfl (by kernel_rfl) (by kernel_rfl) (by kernel_rfl) (by kernel_rfl) ?_
                  refine pl_nil ?_
                  refine qw_round [1, 7, 8, 9, 10, 11, 13, 17] (ws' := [(1, .int .i64 (i1 : Int)), (7, .bool true), (8, .slice a1 k1 c1), (9, .int .i64 (pk10 : Int)), (10, .int .i64 (b11 : Int)), (11, .int .i64 (t12 : Int)), (13, .int .i64 (ov15 : Int)), (17, .int .i64 (((tn + 1 : Nat) : Int) : Int))]) (by kernel_rfl) _ ?_ ⟨(tn + 1), rfl, rfl, (Nat.le_trans hs26 (Nat.le_trans hs32 (Nat.le_trans hs38 hs39))), hE, hX9, by omega⟩
                  omega
                ·
                  refine pl_take (.bool false) rfl (by kernel_rfl) (by kernel_rfl) (by kernel_rfl) (ev_neq (show _ = Result.ok (Next.value (Value.bool ((tt34 : Int) == (ov15 : Int)))) _ from by kernel_rfl) (hc71)) ?_
                  refine pl_take (.bool false) rfl (by kernel_rfl) (by kernel_rfl) (by kernel_rfl) (by kernel_rfl) ?_
                  refine pl_skip rfl (by kernel_rfl) (by kernel_rfl) (by kernel_rfl) ?_
                  refine pl_skip rfl (by kernel_rfl) (by kernel_rfl) (by kernel_rfl) ?_
                  refine pl_skip rfl (by kernel_rfl) (by kernel_rfl) (by kernel_rfl) ?_
                  refine pl_take (.bool false) rfl (by kernel_rfl) (by kernel_rfl) (by kernel_rfl) (by kernel_rfl) ?_
                  refine pl_take (.bool false) rfl (by kernel_rfl) (by kernel_rfl) (by kernel_rfl) (by kernel_rfl) ?_
                  refine pl_nil ?_
                  refine qw_then ?_
                  refine cw_clean [1, 7, 8, 9, 10, 11, 13, 17, 195] (ws' := [(1, .int .i64 (i1 : Int)), (7, .bool true), (8, .slice a1 k1 c1), (9, .int .i64 (pk10 : Int)), (10, .int .i64 (b11 : Int)), (11, .int .i64 (t12 : Int)), (13, .int .i64 (ov15 : Int)), (17, .int .i64 (((tn : Nat) : Int) : Int)), (195, .bool false)]) (by kernel_rfl) (fun L => ?_)
                  refine cw_f (by kernel_rfl) ?_
                  refine cw_skip ?_
                  refine qw_block ?_
                  refine qw_then ?_
                  refine cw_plain ?_
                  refine pl_take (.int .i64 (((tn : Nat) : Int) : Int)) rfl (by kernel_rfl) (by kernel_rfl) (by kernel_rfl) (by kernel_rfl) ?_
                  refine pl_take (.int .i64 (((tn + 1 : Nat) : Int) : Int)) rfl (by kernel_rfl) (by kernel_rfl) (by kernel_rfl) (ev_wrap (by kernel_rfl) (by omega) (by omega)) ?_
                  refine pl_take (.int .i64 (((tn + 1 : Nat) : Int) : Int)) rfl (by kernel_rfl) (by kernel_rfl) (by kernel_rfl) (by kernel_rfl) ?_
                  refine pl_nil ?_
                  refine qw_round [1, 7, 8, 9, 10, 11, 13, 17] (ws' := [(1, .int .i64 (i1 : Int)), (7, .bool true), (8, .slice a1 k1 c1), (9, .int .i64 (pk10 : Int)), (10, .int .i64 (b11 : Int)), (11, .int .i64 (t12 : Int)), (13, .int .i64 (ov15 : Int)), (17, .int .i64 (((tn + 1 : Nat) : Int) : Int))]) (by kernel_rfl) _ ?_ ⟨(tn + 1), rfl, rfl, (Nat.le_trans hs26 (Nat.le_trans hs32 (Nat.le_trans hs38 hs39))), hE, hX9, by omega⟩
                  omega
              ·
                refine pl_take (.bool false) rfl (by kernel_rfl) (by kernel_rfl) (by kernel_rfl) (ev_neq (show _ = Result.ok (Next.value (Value.bool ((tt34 : Int) == (t12 : Int)))) _ from by kernel_rfl) (hc70)) ?_
                refine pl_take (.bool false) rfl (by kernel_rfl) (by kernel_rfl) (by kernel_rfl) (by kernel_rfl) ?_
                refine pl_skip rfl (by kernel_rfl) (by kernel_rfl) (by kernel_rfl) ?_
                refine pl_skip rfl (by kernel_rfl) (by kernel_rfl) (by kernel_rfl) ?_
                refine pl_skip rfl (by kernel_rfl) (by kernel_rfl) (by kernel_rfl) ?_
                refine pl_take (.bool false) rfl (by kernel_rfl) (by kernel_rfl) (by kernel_rfl) (by kernel_rfl) ?_
                refine pl_take (.bool false) rfl (by kernel_rfl) (by kernel_rfl) (by kernel_rfl) (by kernel_rfl) ?_
                refine pl_take (.int .i64 (tt34 : Int)) rfl (by kernel_rfl) (by kernel_rfl) (by kernel_rfl) (by kernel_rfl) ?_
                refine pl_take (.int .i64 (ov15 : Int)) rfl (by kernel_rfl) (by kernel_rfl) (by kernel_rfl) (by kernel_rfl) ?_
                by_cases hc72 : (tt34 : Int) = (ov15 : Int)
                ·
                  refine pl_take (.bool true) rfl (by kernel_rfl) (by kernel_rfl) (by kernel_rfl) (ev_eq (show _ = Result.ok (Next.value (Value.bool ((tt34 : Int) == (ov15 : Int)))) _ from by kernel_rfl) (hc72)) ?_
                  refine pl_take (.bool true) rfl (by kernel_rfl) (by kernel_rfl) (by kernel_rfl) (by kernel_rfl) ?_
                  refine pl_take (.int .i64 (f36 : Int)) rfl (by kernel_rfl) (by kernel_rfl) (by kernel_rfl) (by kernel_rfl) ?_
                  refine pl_take (.int .i64 (pk10 : Int)) rfl (by kernel_rfl) (by kernel_rfl) (by kernel_rfl) (by kernel_rfl) ?_
                  refine pl_take (.bool false) rfl (by kernel_rfl) (by kernel_rfl) (by kernel_rfl) (ev_ndec (show _ = Result.ok (Next.value (Value.bool (decide ((f36 : Int) ≤ (pk10 : Int))))) _ from by kernel_rfl) (by omega)) ?_
                  refine pl_take (.bool false) rfl (by kernel_rfl) (by kernel_rfl) (by kernel_rfl) (by kernel_rfl) ?_
                  refine pl_take (.bool false) rfl (by kernel_rfl) (by kernel_rfl) (by kernel_rfl) (by kernel_rfl) ?_
                  refine pl_nil ?_
                  refine qw_then ?_
                  refine cw_clean [1, 7, 8, 9, 10, 11, 13, 17, 195] (ws' := [(1, .int .i64 (i1 : Int)), (7, .bool true), (8, .slice a1 k1 c1), (9, .int .i64 (pk10 : Int)), (10, .int .i64 (b11 : Int)), (11, .int .i64 (t12 : Int)), (13, .int .i64 (ov15 : Int)), (17, .int .i64 (((tn : Nat) : Int) : Int)), (195, .bool false)]) (by kernel_rfl) (fun L => ?_)
                  refine cw_f (by kernel_rfl) ?_
                  refine cw_skip ?_
                  refine qw_block ?_
                  refine qw_then ?_
                  refine cw_plain ?_
                  refine pl_take (.int .i64 (((tn : Nat) : Int) : Int)) rfl (by kernel_rfl) (by kernel_rfl) (by kernel_rfl) (by kernel_rfl) ?_
                  refine pl_take (.int .i64 (((tn + 1 : Nat) : Int) : Int)) rfl (by kernel_rfl) (by kernel_rfl) (by kernel_rfl) (ev_wrap (by kernel_rfl) (by omega) (by omega)) ?_
                  refine pl_take (.int .i64 (((tn + 1 : Nat) : Int) : Int)) rfl (by kernel_rfl) (by kernel_rfl) (by kernel_rfl) (by kernel_rfl) ?_
                  refine pl_nil ?_
                  refine qw_round [1, 7, 8, 9, 10, 11, 13, 17] (ws' := [(1, .int .i64 (i1 : Int)), (7, .bool true), (8, .slice a1 k1 c1), (9, .int .i64 (pk10 : Int)), (10, .int .i64 (b11 : Int)), (11, .int .i64 (t12 : Int)), (13, .int .i64 (ov15 : Int)), (17, .int .i64 (((tn + 1 : Nat) : Int) : Int))]) (by kernel_rfl) _ ?_ ⟨(tn + 1), rfl, rfl, (Nat.le_trans hs26 (Nat.le_trans hs32 (Nat.le_trans hs38 hs39))), hE, hX9, by omega⟩
                  omega
                ·
                  refine pl_take (.bool false) rfl (by kernel_rfl) (by kernel_rfl) (by kernel_rfl) (ev_neq (show _ = Result.ok (Next.value (Value.bool ((tt34 : Int) == (ov15 : Int)))) _ from by kernel_rfl) (hc72)) ?_
                  refine pl_take (.bool false) rfl (by kernel_rfl) (by kernel_rfl) (by kernel_rfl) (by kernel_rfl) ?_
                  refine pl_skip rfl (by kernel_rfl) (by kernel_rfl) (by kernel_rfl) ?_
                  refine pl_skip rfl (by kernel_rfl) (by kernel_rfl) (by kernel_rfl) ?_
                  refine pl_skip rfl (by kernel_rfl) (by kernel_rfl) (by kernel_rfl) ?_
                  refine pl_take (.bool false) rfl (by kernel_rfl) (by kernel_rfl) (by kernel_rfl) (by kernel_rfl) ?_
                  refine pl_take (.bool false) rfl (by kernel_rfl) (by kernel_rfl) (by kernel_rfl) (by kernel_rfl) ?_
                  refine pl_nil ?_
                  refine qw_then ?_
                  refine cw_clean [1, 7, 8, 9, 10, 11, 13, 17, 195] (ws' := [(1, .int .i64 (i1 : Int)), (7, .bool true), (8, .slice a1 k1 c1), (9, .int .i64 (pk10 : Int)), (10, .int .i64 (b11 : Int)), (11, .int .i64 (t12 : Int)), (13, .int .i64 (ov15 : Int)), (17, .int .i64 (((tn : Nat) : Int) : Int)), (195, .bool false)]) (by kernel_rfl) (fun L => ?_)
                  refine cw_f (by kernel_rfl) ?_
                  refine cw_skip ?_
                  refine qw_block ?_
                  refine qw_then ?_
                  refine cw_plain ?_
                  refine pl_take (.int .i64 (((tn : Nat) : Int) : Int)) rfl (by kernel_rfl) (by kernel_rfl) (by kernel_rfl) (by kernel_rfl) ?_
                  refine pl_take (.int .i64 (((tn + 1 : Nat) : Int) : Int)) rfl (by kernel_rfl) (by kernel_rfl) (by kernel_rfl) (ev_wrap (by kernel_rfl) (by omega) (by omega)) ?_
                  refine pl_take (.int .i64 (((tn + 1 : Nat) : Int) : Int)) rfl (by kernel_rfl) (by kernel_rfl) (by kernel_rfl) (by kernel_rfl) ?_
                  refine pl_nil ?_
                  refine qw_round [1, 7, 8, 9, 10, 11, 13, 17] (ws' := [(1, .int .i64 (i1 : Int)), (7, .bool true), (8, .slice a1 k1 c1), (9, .int .i64 (pk10 : Int)), (10, .int .i64 (b11 : Int)), (11, .int .i64 (t12 : Int)), (13, .int .i64 (ov15 : Int)), (17, .int .i64 (((tn + 1 : Nat) : Int) : Int))]) (by kernel_rfl) _ ?_ ⟨(tn + 1), rfl, rfl, (Nat.le_trans hs26 (Nat.le_trans hs32 (Nat.le_trans hs38 hs39))), hE, hX9, by omega⟩
                  omega
    ·
      refine cw_seq ?_
      refine cw_seq ?_
      refine cw_plain ?_
      refine pl_take (.int .i64 (((tn : Nat) : Int) : Int)) rfl (by kernel_rfl) (by kernel_rfl) (by kernel_rfl) (by kernel_rfl) ?_
      refine pl_take (.bool false) rfl (by kernel_rfl) (by kernel_rfl) (by kernel_rfl) (ev_ndec (show _ = Result.ok (Next.value (Value.bool (decide ((((tn : Nat) : Int) : Int) < (5 : Int))))) _ from by kernel_rfl) (by omega)) ?_
      refine pl_nil ?_
      refine qw_then ?_
      refine cw_f (by kernel_rfl) ?_
      refine cw_exit ?_
      refine qw_then_exit ?_
      refine qw_then_exit ?_
      refine qw_block_out ?_
      refine qw_then ?_
      refine cw_seq ?_
      refine cw_plain ?_
      refine pl_take (.bool true) rfl (by kernel_rfl) (by kernel_rfl) (by kernel_rfl) (by kernel_rfl) ?_
      refine pl_take (.bool true) rfl (by kernel_rfl) (by kernel_rfl) (by kernel_rfl) (by kernel_rfl) ?_
      refine pl_nil ?_
      refine qw_then ?_
      refine cw_ret ?_
      refine qw_ret [.bool true] rfl ⟨(by kernel_rfl), trivial⟩ ?_
      exact ⟨rfl, hE⟩

end Go.Proofs.Ytnbjjddfcondlaa

/- The statement MemorySums: for every input the law returns true, and every argument reads as it read before; the two tables of package math/bits that the row lists are tied to the program's text. -/
namespace Go.Proofs.Ytnbjjddfcondlaa
open Go.ChangeShapes Go.WideShapes Go.ChangeAt Go.RowKit

set_option maxRecDepth 100000 in
theorem MemorySums_lifted (os : Os) (started : os.Started) (H : Type) (enc : TypeId × Value → H) :
    ReturnsInHanded {} Try.checked os 6 .any (Rows.memorySumsSpec.pre6 enc Try.prog Try.f6 Rows.memorySumsRow.domain false)
      (Rows.memorySumsSpec.post enc Try.prog Try.f6 false true false false) := by
  refine returnsInHanded_of_change_sized (C := Try.checked) own started (by kernel_rfl) Try.func6
    (ChangeSpec.witness6 (enc := enc) (C := Try.checked) false ⟨#[], #[.slice none 0 0, .int .i64 0, .int .i64 0], []⟩ 8 (by kernel_rfl) (by kernel_rfl) (by kernel_rfl) (by kernel_rfl)) ?_
  intro W base args ds gs before hval0 hW _ hsz _
  have hval : ∀ (j : Nat) t v, Try.f6.params[j]? = some t → args[j]? = some v → Value.okWide Try.prog W .any base t v := hval0
  have hW' := hW
  obtain ⟨p, q, hA0, hV, rfl, hfz, hnd⟩ := hW
  have hA : DataW.TrodAll enc Try.prog W 0 (fun _ => true) true Try.f6.params.toList args.toList ds p := hA0
  rw [Try.params6] at hA hval
  obtain ⟨v0, vs0, d0, ds0, p0, q0, hargs, rfl, rfl, h0, r0⟩ := trodAll_cons hA
  obtain ⟨v1, vs1, d1, ds1, p1, q1, rfl, rfl, rfl, h1, r1⟩ := trodAll_cons r0
  obtain ⟨v2, vs2, d2, ds2, p2, q2, rfl, rfl, rfl, h2, r2⟩ := trodAll_cons r1
  obtain ⟨rfl, rfl, rfl⟩ := trodAll_nil r2
  obtain rfl : args = #[v0, v1, v2] := by cases args; simp_all
  obtain ⟨rfl, rfl⟩ := trodVars_none hV
  have k0 := h0
  have lt0 : ∀ x ∈ p0, x.block < W.heap.size := by obtain ⟨m, hm⟩ := k0; exact DataW.trod_lt m _ _ _ hm
  have op0 := open_tris (hval 0 _ v0 rfl rfl) h0
  obtain ⟨a1, rfl, rfl, rfl, w1⟩ := open_int Try.underlying3 (hval 1 3 v1 rfl rfl) h1
  obtain ⟨a2, rfl, rfl, rfl, w2⟩ := open_int Try.underlying3 (hval 2 3 v2 rfl rfl) h2
  clear hA0 hval0
  refine (MemorySums_walk W v0 op0 a1 (isI_of_wf w1) a2 (isI_of_wf w2)).mono fun e W' ⟨he, hE⟩ => ?_
  subst he
  have bel : Below W.heap.size W W' := hE
  exact ⟨_, rfl, _, _, _, [], _, [], hW', trodAll_mk1 (shut_bool Try.underlying4 _), (trodAll_cons_mk (Below.trod laidOut (by kernel_rfl) (of_decide_eq_true (by kernel_rfl)) k0 bel lt0) (trodAll_cons_mk (shut_int Try.underlying3 w1) (trodAll_cons_mk (shut_int Try.underlying3 w2) trodAll_mk0))), rfl, bel.frame _, fun h => by cases h⟩

theorem MemorySums_over : Rows.MemorySumsSaid :=
  OpenClaim.holds_of_wide 6 Try.f6 rfl rfl rfl rfl rfl rfl rfl ⟨rfl, rfl, rfl, rfl, rfl⟩ rfl rfl rfl rfl rfl (by kernel_rfl) Try.func6 (by kernel_rfl)
    (of_decide_eq_true (by kernel_rfl)) (by unfold Func.isWrapper; first | (rw [if_pos (by decide +kernel)]; kernel_rfl) | (rw [if_neg (by decide +kernel)]; exact ⟨rfl, rfl⟩))
    (fun os started H enc _ => MemorySums_lifted os started H enc)

theorem MemorySums_holds : Rows.MemorySumsSaid := MemorySums_over
#print axioms MemorySums_holds
end Go.Proofs.Ytnbjjddfcondlaa
