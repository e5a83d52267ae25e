/- The statement MemoryRows: for every input that the row lists, the law returns true, and every argument reads as it read before. -/
import Derived.Test.YtnbjjddfcondlaaV5MemoryRows
/- The walk of MemoryRows. -/
namespace Go.Proofs.Ytnbjjddfcondlaa
open Go.RowKit

set_option maxRecDepth 1000000 in
set_option maxHeartbeats 4000000 in
theorem MemoryRows_walk (w : World) (v0 : Value) (op0 : Tris w v0) (i1 : Int) (hi1 : IsI i1) : Calls Try.prog 4 #[v0, .int .i64 i1] w fun e w' => e = .returned (.bool true) ∧ Ext w w' := by
  obtain ⟨a0, n0, c0, q, rfl, hnc, hcm, hT⟩ := op0
  refine calls_cw 170 [(1, .int .i64 (i1 : Int)), (0, .slice a0 n0 c0)] Try.func4 rfl Try.ntmps4 (by kernel_rfl) (by kernel_rfl) (fun L => ?_)
  have hE : Ext w w := Ext.refl w
  refine cw_seq ?_
  refine cw_plain ?_
  refine pl_take (.bool false) rfl (by kernel_rfl) (by kernel_rfl) (by kernel_rfl) (by kernel_rfl) ?_
  refine pl_nil ?_
  refine qw_then ?_
  refine cw_seq ?_
  refine cw_plain ?_
  refine pl_step rfl (by kernel_rfl) (by kernel_rfl) (by kernel_rfl) (sn_call (f := 10) (args := #[]) (by kernel_rfl) ((sane_c _).mono ?_))
  rintro e w5 ⟨rfl, hb⟩
  replace hE := hE.trans hb
  have hs6 := hb.size
  clear hb
  refine ⟨_, rfl, ?_⟩
  refine pl_take (.bool true) rfl (by kernel_rfl) (by kernel_rfl) (by kernel_rfl) (by kernel_rfl) ?_
  refine pl_nil ?_
  refine qw_then ?_
  refine cw_seq ?_
  refine cw_seq ?_
  refine cw_plain ?_
  refine pl_take (.bool true) rfl (by kernel_rfl) (by kernel_rfl) (by kernel_rfl) (by kernel_rfl) ?_
  refine pl_take (.bool false) rfl (by kernel_rfl) (by kernel_rfl) (by kernel_rfl) (by kernel_rfl) ?_
  refine pl_nil ?_
  refine qw_then ?_
  refine cw_f (by kernel_rfl) ?_
  refine cw_skip ?_
  refine qw_then ?_
  refine cw_seq ?_
  refine cw_plain ?_
  refine pl_take (.slice a0 n0 c0) rfl (by kernel_rfl) (by kernel_rfl) (by kernel_rfl) (by kernel_rfl) ?_
  refine pl_step rfl (by kernel_rfl) (by kernel_rfl) (by kernel_rfl) (sn_call (f := 11) (args := #[.slice a0 n0 c0]) (by kernel_rfl) ((Made_y _ _ hT hE).mono ?_))
  rintro e w7 ⟨a1, k1, c1, l, rfl, hk12, hkc, hLm, hok, hbd, him, hb⟩
  replace hE := hE.trans hb
  have hs8 := hb.size
  clear hb
  have hll := hLm.1; have hu := Mem.okL_u hok; have hf := Mem.okL_f hok
  have hX9 : Ext w7 w7 := Ext.refl _
  obtain ⟨bs, os, ha, hbl, hx⟩ := hLm.parts
  refine ⟨_, rfl, ?_⟩
  refine pl_take (.slice a1 k1 c1) rfl (by kernel_rfl) (by kernel_rfl) (by kernel_rfl) (by kernel_rfl) ?_
  refine pl_nil ?_
  refine qw_then ?_
  refine cw_seq ?_
  refine cw_plain ?_
  refine pl_take (.int .i64 (i1 : Int)) rfl (by kernel_rfl) (by kernel_rfl) (by kernel_rfl) (by kernel_rfl) ?_
  refine pl_step rfl (by kernel_rfl) (by kernel_rfl) (by kernel_rfl) (sn_call (f := 12) (args := #[.int .i64 (i1 : Int), .int .i64 300]) (by kernel_rfl) ((pickv_c i1 300 _ hi1 (by omega) (by omega)).mono ?_))
  rintro e w' ⟨pk10, rfl, hqpk10, rfl⟩
  refine ⟨_, rfl, ?_⟩
  refine pl_take (.int .i64 (pk10 : Int)) rfl (by kernel_rfl) (by kernel_rfl) (by kernel_rfl) (by kernel_rfl) ?_
  refine pl_nil ?_
  refine qw_then ?_
  refine cw_seq ?_
  refine cw_plain ?_
  refine pl_take (.slice a1 k1 c1) rfl (by kernel_rfl) (by kernel_rfl) (by kernel_rfl) (by kernel_rfl) ?_
  refine pl_step rfl (by kernel_rfl) (by kernel_rfl) (by kernel_rfl) (sn_call (f := 15) (args := #[.slice a1 k1 c1]) (by kernel_rfl) ((Rows_y _ _ hLm (Ext.refl _) hok).mono ?_))
  rintro e w15 ⟨ra11, rk12, rc13, rfl, hRw14, hb⟩
  replace hE := hE.trans hb
  replace hX9 := hX9.trans hb
  have hs16 := hb.size
  clear hb
  have hX17 : Ext w15 w15 := Ext.refl _
  have hlR1 := hRw14.1; have hmR1 := hRw14.2.1
  obtain ⟨gR1, fbR1, fcR1, haR1, hgR1, hcR1, hnR1⟩ := hRw14.parts
  refine ⟨_, rfl, ?_⟩
  refine pl_take (.tuple #[.slice ra11 rk12 rc13, .int .i64 0]) rfl (by kernel_rfl) (by kernel_rfl) (by kernel_rfl) (by kernel_rfl) ?_
  refine pl_take (.slice ra11 rk12 rc13) rfl (by kernel_rfl) (by kernel_rfl) (by kernel_rfl) (by kernel_rfl) ?_
  refine pl_take (.int .i64 0) rfl (by kernel_rfl) (by kernel_rfl) (by kernel_rfl) (by kernel_rfl) ?_
  refine pl_take (.slice ra11 rk12 rc13) rfl (by kernel_rfl) (by kernel_rfl) (by kernel_rfl) (by kernel_rfl) ?_
  refine pl_take (.int .i64 0) rfl (by kernel_rfl) (by kernel_rfl) (by kernel_rfl) (by kernel_rfl) ?_
  refine pl_nil ?_
  refine qw_then ?_
  refine cw_clean [5, 6, 7, 8, 9] (ws' := [(5, .bool true), (6, .slice a1 k1 c1), (7, .int .i64 (pk10 : Int)), (8, .slice ra11 rk12 rc13), (9, .int .i64 0)]) (by kernel_rfl) (fun L => ?_)
  refine cw_seq ?_
  refine cw_plain ?_
  refine pl_take (.slice a1 k1 c1) rfl (by kernel_rfl) (by kernel_rfl) (by kernel_rfl) (by kernel_rfl) ?_
  refine pl_take (.int .i64 (pk10 : Int)) rfl (by kernel_rfl) (by kernel_rfl) (by kernel_rfl) (by kernel_rfl) ?_
  refine pl_step rfl (by kernel_rfl) (by kernel_rfl) (by kernel_rfl) (sn_call (f := 22) (args := #[.slice a1 k1 c1, .int .i64 (pk10 : Int)]) (by kernel_rfl) ((Over_y pk10 _ _ hLm hX9 hok (by omega) (by omega)).mono ?_))
  rintro e w19 ⟨ov18, rfl, hov18, hb⟩
  replace hE := hE.trans hb
  replace hX9 := hX9.trans hb
  replace hX17 := hX17.trans hb
  have hs20 := hb.size
  clear hb
  refine ⟨_, rfl, ?_⟩
  refine pl_take (.tuple #[.int .i64 (ov18 : Int), .int .i64 0]) rfl (by kernel_rfl) (by kernel_rfl) (by kernel_rfl) (by kernel_rfl) ?_
  refine pl_take (.int .i64 (ov18 : Int)) rfl (by kernel_rfl) (by kernel_rfl) (by kernel_rfl) (by kernel_rfl) ?_
  refine pl_take (.int .i64 0) rfl (by kernel_rfl) (by kernel_rfl) (by kernel_rfl) (by kernel_rfl) ?_
  refine pl_take (.int .i64 (ov18 : Int)) rfl (by kernel_rfl) (by kernel_rfl) (by kernel_rfl) (by kernel_rfl) ?_
  refine pl_take (.int .i64 0) rfl (by kernel_rfl) (by kernel_rfl) (by kernel_rfl) (by kernel_rfl) ?_
  refine pl_nil ?_
  refine qw_then ?_
  refine cw_seq ?_
  refine cw_seq ?_
  have hfin := Mem.ovU_all (c := (fun _ => true)) (lim := pk10) hok (by omega) (by rw [Mem.chosen_all]; exact hov18); rw [hlR1] at hfin
  refine cw_plain ?_
  refine pl_take (.int .i64 0) rfl (by kernel_rfl) (by kernel_rfl) (by kernel_rfl) (by kernel_rfl) ?_
  refine pl_take (.bool false) rfl (by kernel_rfl) (by kernel_rfl) (by kernel_rfl) (by kernel_rfl) ?_
  refine pl_take (.bool false) rfl (by kernel_rfl) (by kernel_rfl) (by kernel_rfl) (by kernel_rfl) ?_
  refine pl_take (.int .i64 0) rfl (by kernel_rfl) (by kernel_rfl) (by kernel_rfl) (by kernel_rfl) ?_
  refine pl_take (.bool false) rfl (by kernel_rfl) (by kernel_rfl) (by kernel_rfl) (by kernel_rfl) ?_
  refine pl_take (.bool false) rfl (by kernel_rfl) (by kernel_rfl) (by kernel_rfl) (by kernel_rfl) ?_
  refine pl_nil ?_
  refine qw_then ?_
  refine cw_clean [5, 6, 7, 8, 10, 45] (ws' := [(5, .bool true), (6, .slice a1 k1 c1), (7, .int .i64 (pk10 : Int)), (8, .slice ra11 rk12 rc13), (10, .int .i64 (ov18 : Int)), (45, .bool false)]) (by kernel_rfl) (fun L => ?_)
  refine cw_f (by kernel_rfl) ?_
  refine cw_skip ?_
  refine qw_then ?_
  refine cw_seq ?_
  refine cw_plain ?_
  refine pl_take (.bool false) rfl (by kernel_rfl) (by kernel_rfl) (by kernel_rfl) (by kernel_rfl) ?_
  refine pl_nil ?_
  refine qw_then ?_
  refine cw_seq ?_
  refine cw_plain ?_
  refine pl_take (.slice none 0 0) rfl (by kernel_rfl) (by kernel_rfl) (by kernel_rfl) (by kernel_rfl) ?_
  refine pl_nil ?_
  refine qw_then ?_
  refine cw_seq ?_
  refine cw_seq ?_
  refine cw_plain ?_
  refine pl_take (.int .i64 0) rfl (by kernel_rfl) (by kernel_rfl) (by kernel_rfl) (by kernel_rfl) ?_
  refine pl_nil ?_
  refine qw_then ?_
  refine cw_block ?_
  refine cw_loop [5, 6, 7, 8, 10, 12, 13, 14] (fun ws' wr m => ∃ r : Nat, ∃ ovb : Bool, ∃ aS : Option Addr, ∃ cS : Nat, ws' = [(5, .bool true), (6, .slice a1 k1 c1), (7, .int .i64 (pk10 : Int)), (8, .slice ra11 rk12 rc13), (10, .int .i64 (ov18 : Int)), (12, .bool ovb), (13, .slice aS r cS), (14, .int .i64 (((r : Nat) : Int) : Int))] ∧ m = rk12 - r ∧ w19.heap.size ≤ wr.heap.size ∧ Ext w wr ∧ Ext w7 wr ∧ Ext w15 wr ∧ OwnL natR w19.heap.size 3 1 (.slice aS r cS) wr (Mem.setsU l r) ∧ r ≤ rk12 ∧ ovb = Mem.ovU l (fun _ => true) pk10 r) (ws0 := [(5, .bool true), (6, .slice a1 k1 c1), (7, .int .i64 (pk10 : Int)), (8, .slice ra11 rk12 rc13), (10, .int .i64 (ov18 : Int)), (12, .bool false), (13, .slice none 0 0), (14, .int .i64 0)]) (by kernel_rfl) _ ⟨0, false, none, 0, rfl, rfl, Nat.le_refl _, hE, hX9, hX17, OwnL.nil _ _ _ _ _, Nat.zero_le _, rfl⟩ ?_
  clear hE hX9 hX17
  rintro m23 L ws w22 ⟨r, ovb, aS, cS, rfl, rfl, hs21, hE, hX9, hX17, own9, hr, hov⟩
  by_cases hlt : r < rk12
  ·
    obtain rfl := haR1 (by omega)
    have qR24 := hcR1 r (by omega)
    have hrl_r : (snN (Mem.rowsR l) r).length ≤ l.length := Mem.row_len r
    obtain ⟨t9, ht9, hm9, he9⟩ := Mem.row_is (l := l) (i := r) (by omega)
    have ht90 : 0 ≤ t9 ∧ t9 ≤ 99 := by
      obtain ⟨x, hx, e⟩ := Mem.mem_begs.1 ht9
      have := (hbd x hx).2.1; omega
    refine cw_seq ?_
    refine cw_seq ?_
    refine cw_plain ?_
    refine pl_take (.int .i64 (((r : Nat) : Int) : Int)) rfl (by kernel_rfl) (by kernel_rfl) (by kernel_rfl) (by kernel_rfl) ?_
    refine pl_take (.slice (some ⟨gR1, 0, none⟩) rk12 rc13) rfl (by kernel_rfl) (by kernel_rfl) (by kernel_rfl) (by kernel_rfl) ?_
    refine pl_take (.int .i64 (((rk12 : Nat) : Int) : Int)) rfl (by kernel_rfl) (by kernel_rfl) (by kernel_rfl) (by kernel_rfl) ?_
    refine pl_take (.bool true) rfl (by kernel_rfl) (by kernel_rfl) (by kernel_rfl) (ev_dec (show _ = Result.ok (Next.value (Value.bool (decide ((((r : Nat) : Int) : Int) < (((rk12 : Nat) : Int) : Int))))) _ from by kernel_rfl) (by omega)) ?_
    refine pl_nil ?_
    refine qw_then ?_
    refine cw_t (by kernel_rfl) ?_
    refine cw_skip ?_
    refine qw_then ?_
    refine cw_seq ?_
    refine cw_block ?_
    refine cw_seq ?_
    refine cw_plain ?_
    refine pl_take (.int .i64 0) rfl (by kernel_rfl) (by kernel_rfl) (by kernel_rfl) (by kernel_rfl) ?_
    refine pl_nil ?_
    refine qw_then ?_
    refine cw_seq ?_
    refine cw_plain ?_
    refine pl_take (.int .i64 0) rfl (by kernel_rfl) (by kernel_rfl) (by kernel_rfl) (by kernel_rfl) ?_
    refine pl_nil ?_
    refine qw_then ?_
    refine cw_seq ?_
    refine cw_plain ?_
    refine pl_take (.int .i64 0) rfl (by kernel_rfl) (by kernel_rfl) (by kernel_rfl) (by kernel_rfl) ?_
    refine pl_nil ?_
    refine qw_then ?_
    refine cw_clean [5, 6, 7, 8, 10, 12, 13, 14, 15, 16, 17] (ws' := [(5, .bool true), (6, .slice a1 k1 c1), (7, .int .i64 (pk10 : Int)), (8, .slice (some ⟨gR1, 0, none⟩) rk12 rc13), (10, .int .i64 (ov18 : Int)), (12, .bool ovb), (13, .slice aS r cS), (14, .int .i64 (((r : Nat) : Int) : Int)), (15, .int .i64 0), (16, .int .i64 0), (17, .int .i64 0)]) (by kernel_rfl) (fun L => ?_)
    refine cw_seq ?_
    refine cw_plain ?_
    refine pl_take (.int .i64 1000001) rfl (by kernel_rfl) (by kernel_rfl) (by kernel_rfl) (by kernel_rfl) ?_
    refine pl_nil ?_
    refine qw_then ?_
    refine cw_seq ?_
    refine cw_seq ?_
    refine cw_plain ?_
    refine pl_take (.int .i64 0) rfl (by kernel_rfl) (by kernel_rfl) (by kernel_rfl) (by kernel_rfl) ?_
    refine pl_nil ?_
    refine qw_then ?_
    refine cw_block ?_
    refine cw_loop [5, 6, 7, 8, 10, 12, 13, 14, 15, 16, 17, 18, 19] (fun ws' wr m => ∃ j : Nat, ∃ sm : Int, ∃ zb : Nat, ∃ fm : Int, ∃ tm : Int, ws' = [(5, .bool true), (6, .slice a1 k1 c1), (7, .int .i64 (pk10 : Int)), (8, .slice (some ⟨gR1, 0, none⟩) rk12 rc13), (10, .int .i64 (ov18 : Int)), (12, .bool ovb), (13, .slice aS r cS), (14, .int .i64 (((r : Nat) : Int) : Int)), (15, .int .i64 (sm : Int)), (16, .int .i64 (((zb : Nat) : Int) : Int)), (17, .int .i64 (fm : Int)), (18, .int .i64 (tm : Int)), (19, .int .i64 (((j : Nat) : Int) : Int))] ∧ m = (snN (Mem.rowsR l) r).length - j ∧ w22.heap.size ≤ wr.heap.size ∧ Ext w wr ∧ Ext w7 wr ∧ Ext w15 wr ∧ OwnL natR w19.heap.size 3 1 (.slice aS r cS) wr (Mem.setsU l r) ∧ j ≤ (snN (Mem.rowsR l) r).length ∧ sm = Mem.pickS l (fun _ => true) (snN (Mem.rowsR l) r) j ∧ zb = Mem.bitsOf ((snN (Mem.rowsR l) r).take j) ∧ fm ≤ t9 ∧ t9 < tm) (ws0 := [(5, .bool true), (6, .slice a1 k1 c1), (7, .int .i64 (pk10 : Int)), (8, .slice (some ⟨gR1, 0, none⟩) rk12 rc13), (10, .int .i64 (ov18 : Int)), (12, .bool ovb), (13, .slice aS r cS), (14, .int .i64 (((r : Nat) : Int) : Int)), (15, .int .i64 0), (16, .int .i64 0), (17, .int .i64 0), (18, .int .i64 1000001), (19, .int .i64 0)]) (by kernel_rfl) _ ⟨0, 0, 0, 0, 1000001, rfl, rfl, Nat.le_refl _, hE, hX9, hX17, own9, Nat.zero_le _, rfl, rfl, by omega, by omega⟩ ?_
    clear own9 hE hX9 hX17
    rintro m27 L ws w26 ⟨j, sm, zb, fm, tm, rfl, rfl, hs25, hE, hX9, hX17, own9, hj, hsm, hzb, hfm, htm⟩
    by_cases hlt : j < (snN (Mem.rowsR l) r).length
    ·
      have qe28 := (hnR1 r (by omega)).2 j _ (Mem.natN_at hlt)
      have hnl29 := Mem.row_lt (l := l) (i := r) (by omega) hlt
      have hpn := Mem.pickS_next (l := l) (c := (fun _ => true)) hlt; have hpb := Mem.pickS_bd (c := (fun _ => true)) (s := (snN (Mem.rowsR l) r)) (fun x hx => (hbd x hx).1.2) j hj
      rw [← hsm] at hpb
      have hbl := Mem.row_bits (l := l) (by omega) (r := r) (by omega) j
      rw [← hzb] at hbl
      have hlv := Mem.row_live he9 hlt
      replace hpn : Mem.pickS l (fun _ => true) (snN (Mem.rowsR l) r) (j + 1) = Mem.pickS l (fun _ => true) (snN (Mem.rowsR l) r) j + Mem.unitAt l (Mem.natN (snN (Mem.rowsR l) r) j) := hpn
      obtain rfl := ha (by omega)
      obtain ⟨q30, q31, q32, q33⟩ := hx (Mem.natN (snN (Mem.rowsR l) r) j) (show Mem.natN (snN (Mem.rowsR l) r) j < k1 by omega)
      have hua := Mem.unit_at hnl29; have hub := (hbd _ (stN_mem hnl29)).1.2
      rw [hua] at hpn
      refine cw_seq ?_
      refine cw_seq ?_
      refine cw_plain ?_
      refine pl_take (.int .i64 (((j : Nat) : Int) : Int)) rfl (by kernel_rfl) (by kernel_rfl) (by kernel_rfl) (by kernel_rfl) ?_
      refine pl_take (.slice (some ⟨gR1, 0, none⟩) rk12 rc13) rfl (by kernel_rfl) (by kernel_rfl) (by kernel_rfl) (by kernel_rfl) ?_
      refine pl_take (.int .i64 (((r : Nat) : Int) : Int)) rfl (by kernel_rfl) (by kernel_rfl) (by kernel_rfl) (by kernel_rfl) ?_
      refine pl_take (.pointer (some ⟨gR1, r, none⟩)) rfl (by kernel_rfl) (by kernel_rfl) (by kernel_rfl) (ex_index (p := .slice (some ⟨gR1, 0, none⟩) rk12 rc13) (i := .int .i64 ((r : Nat) : Int)) rfl (by kernel_rfl) (by kernel_rfl) (ix39z (k := r) (by omega))) ?_
      refine pl_take (.slice (some ⟨(fbR1 r), 0, none⟩) ((snN (Mem.rowsR l) r).length) ((fcR1 r))) rfl (by kernel_rfl) (by kernel_rfl) (by kernel_rfl) (ex_load rfl (by kernel_rfl) (ld56 ((hX17.cell qR24)))) ?_
      refine pl_take (.int .i64 ((((snN (Mem.rowsR l) r).length : Nat) : Int) : Int)) rfl (by kernel_rfl) (by kernel_rfl) (by kernel_rfl) (by kernel_rfl) ?_
      refine pl_take (.bool true) rfl (by kernel_rfl) (by kernel_rfl) (by kernel_rfl) (ev_dec (show _ = Result.ok (Next.value (Value.bool (decide ((((j : Nat) : Int) : Int) < ((((snN (Mem.rowsR l) r).length : Nat) : Int) : Int))))) _ from by kernel_rfl) (by omega)) ?_
      refine pl_nil ?_
      refine qw_then ?_
      refine cw_clean [5, 6, 7, 8, 10, 12, 13, 14, 15, 16, 17, 18, 19, 58] (ws' := [(5, .bool true), (6, .slice (some ⟨bs, os, none⟩) k1 c1), (7, .int .i64 (pk10 : Int)), (8, .slice (some ⟨gR1, 0, none⟩) rk12 rc13), (10, .int .i64 (ov18 : Int)), (12, .bool ovb), (13, .slice aS r cS), (14, .int .i64 (((r : Nat) : Int) : Int)), (15, .int .i64 (sm : Int)), (16, .int .i64 (((zb : Nat) : Int) : Int)), (17, .int .i64 (fm : Int)), (18, .int .i64 (tm : Int)), (19, .int .i64 (((j : Nat) : Int) : Int)), (58, .bool true)]) (by kernel_rfl) (fun L => ?_)
      refine cw_t (by kernel_rfl) ?_
      refine cw_skip ?_
      refine qw_then ?_
      refine cw_seq ?_
      refine cw_block ?_
      refine cw_seq ?_
      refine cw_plain ?_
      refine pl_take (.slice (some ⟨gR1, 0, none⟩) rk12 rc13) rfl (by kernel_rfl) (by kernel_rfl) (by kernel_rfl) (by kernel_rfl) ?_
      refine pl_take (.int .i64 (((r : Nat) : Int) : Int)) rfl (by kernel_rfl) (by kernel_rfl) (by kernel_rfl) (by kernel_rfl) ?_
      refine pl_take (.pointer (some ⟨gR1, r, none⟩)) rfl (by kernel_rfl) (by kernel_rfl) (by kernel_rfl) (ex_index (p := .slice (some ⟨gR1, 0, none⟩) rk12 rc13) (i := .int .i64 ((r : Nat) : Int)) rfl (by kernel_rfl) (by kernel_rfl) (ix39z (k := r) (by omega))) ?_
      refine pl_take (.slice (some ⟨(fbR1 r), 0, none⟩) ((snN (Mem.rowsR l) r).length) ((fcR1 r))) rfl (by kernel_rfl) (by kernel_rfl) (by kernel_rfl) (ex_load rfl (by kernel_rfl) (ld56 ((hX17.cell qR24)))) ?_
      refine pl_take (.int .i64 (((j : Nat) : Int) : Int)) rfl (by kernel_rfl) (by kernel_rfl) (by kernel_rfl) (by kernel_rfl) ?_
      refine pl_take (.pointer (some ⟨(fbR1 r), j, none⟩)) rfl (by kernel_rfl) (by kernel_rfl) (by kernel_rfl) (ex_index (p := .slice (some ⟨(fbR1 r), 0, none⟩) ((snN (Mem.rowsR l) r).length) ((fcR1 r))) (i := .int .i64 ((j : Nat) : Int)) rfl (by kernel_rfl) (by kernel_rfl) (ix56z (k := j) (by omega))) ?_
      refine pl_take (.int .i64 (((Mem.natN (snN (Mem.rowsR l) r) j : Nat) : Int) : Int)) rfl (by kernel_rfl) (by kernel_rfl) (by kernel_rfl) (ex_load rfl (by kernel_rfl) (ld3 ((hX17.cell qe28)))) ?_
      refine pl_take (.int .i64 (((Mem.natN (snN (Mem.rowsR l) r) j : Nat) : Int) : Int)) rfl (by kernel_rfl) (by kernel_rfl) (by kernel_rfl) (by kernel_rfl) ?_
      refine pl_nil ?_
      refine qw_then ?_
      refine cw_clean [5, 6, 7, 8, 10, 12, 13, 14, 15, 16, 17, 18, 19, 20] (ws' := [(5, .bool true), (6, .slice (some ⟨bs, os, none⟩) k1 c1), (7, .int .i64 (pk10 : Int)), (8, .slice (some ⟨gR1, 0, none⟩) rk12 rc13), (10, .int .i64 (ov18 : Int)), (12, .bool ovb), (13, .slice aS r cS), (14, .int .i64 (((r : Nat) : Int) : Int)), (15, .int .i64 (sm : Int)), (16, .int .i64 (((zb : Nat) : Int) : Int)), (17, .int .i64 (fm : Int)), (18, .int .i64 (tm : Int)), (19, .int .i64 (((j : Nat) : Int) : Int)), (20, .int .i64 (((Mem.natN (snN (Mem.rowsR l) r) j : Nat) : Int) : Int))]) (by kernel_rfl) (fun L => ?_)
      refine cw_seq ?_
      refine cw_seq ?_
      by_cases hj0 : 0 < j
      ·
        have hjp : j - 1 < (snN (Mem.rowsR l) r).length := by omega
        have qe34 := (hnR1 r (by omega)).2 (j - 1) _ (Mem.natN_at hjp)
        have hnl35 := Mem.row_lt (l := l) (i := r) (by omega) hjp
        have has := Mem.row_asc he9 (show j - 1 < j by omega) hlt
        refine cw_plain ?_
        refine pl_take (.int .i64 (((Mem.natN (snN (Mem.rowsR l) r) j : Nat) : Int) : Int)) rfl (by kernel_rfl) (by kernel_rfl) (by kernel_rfl) (by kernel_rfl) ?_
        refine pl_take (.bool false) rfl (by kernel_rfl) (by kernel_rfl) (by kernel_rfl) (ev_ndec (show _ = Result.ok (Next.value (Value.bool (decide ((((Mem.natN (snN (Mem.rowsR l) r) j : Nat) : Int) : Int) < (0 : Int))))) _ from by kernel_rfl) (by omega)) ?_
        refine pl_take (.bool false) rfl (by kernel_rfl) (by kernel_rfl) (by kernel_rfl) (by kernel_rfl) ?_
        refine pl_take (.int .i64 (((Mem.natN (snN (Mem.rowsR l) r) j : Nat) : Int) : Int)) rfl (by kernel_rfl) (by kernel_rfl) (by kernel_rfl) (by kernel_rfl) ?_
        refine pl_take (.slice (some ⟨bs, os, none⟩) k1 c1) rfl (by kernel_rfl) (by kernel_rfl) (by kernel_rfl) (by kernel_rfl) ?_
        refine pl_take (.int .i64 (((k1 : Nat) : Int) : Int)) rfl (by kernel_rfl) (by kernel_rfl) (by kernel_rfl) (by kernel_rfl) ?_
        refine pl_take (.bool false) rfl (by kernel_rfl) (by kernel_rfl) (by kernel_rfl) (ev_ndec (show _ = Result.ok (Next.value (Value.bool (decide ((((Mem.natN (snN (Mem.rowsR l) r) j : Nat) : Int) : Int) ≥ (((k1 : Nat) : Int) : Int))))) _ from by kernel_rfl) (by omega)) ?_
        refine pl_take (.bool false) rfl (by kernel_rfl) (by kernel_rfl) (by kernel_rfl) (by kernel_rfl) ?_
        refine pl_take (.bool false) rfl (by kernel_rfl) (by kernel_rfl) (by kernel_rfl) (by kernel_rfl) ?_
        refine pl_take (.int .i64 (((j : Nat) : Int) : Int)) rfl (by kernel_rfl) (by kernel_rfl) (by kernel_rfl) (by kernel_rfl) ?_
        refine pl_take (.bool true) rfl (by kernel_rfl) (by kernel_rfl) (by kernel_rfl) (ev_dec (show _ = Result.ok (Next.value (Value.bool (decide ((((j : Nat) : Int) : Int) > (0 : Int))))) _ from by kernel_rfl) (by omega)) ?_
        refine pl_take (.bool true) rfl (by kernel_rfl) (by kernel_rfl) (by kernel_rfl) (by kernel_rfl) ?_
        refine pl_take (.int .i64 (((Mem.natN (snN (Mem.rowsR l) r) j : Nat) : Int) : Int)) rfl (by kernel_rfl) (by kernel_rfl) (by kernel_rfl) (by kernel_rfl) ?_
        refine pl_take (.slice (some ⟨gR1, 0, none⟩) rk12 rc13) rfl (by kernel_rfl) (by kernel_rfl) (by kernel_rfl) (by kernel_rfl) ?_
        refine pl_take (.int .i64 (((r : Nat) : Int) : Int)) rfl (by kernel_rfl) (by kernel_rfl) (by kernel_rfl) (by kernel_rfl) ?_
        refine pl_take (.pointer (some ⟨gR1, r, none⟩)) rfl (by kernel_rfl) (by kernel_rfl) (by kernel_rfl) (ex_index (p := .slice (some ⟨gR1, 0, none⟩) rk12 rc13) (i := .int .i64 ((r : Nat) : Int)) rfl (by kernel_rfl) (by kernel_rfl) (ix39z (k := r) (by omega))) ?_
        refine pl_take (.slice (some ⟨(fbR1 r), 0, none⟩) ((snN (Mem.rowsR l) r).length) ((fcR1 r))) rfl (by kernel_rfl) (by kernel_rfl) (by kernel_rfl) (ex_load rfl (by kernel_rfl) (ld56 ((hX17.cell qR24)))) ?_
        refine pl_take (.int .i64 (((j : Nat) : Int) : Int)) rfl (by kernel_rfl) (by kernel_rfl) (by kernel_rfl) (by kernel_rfl) ?_
        refine pl_take (.int .i64 (((j - 1 : Nat) : Int) : Int)) rfl (by kernel_rfl) (by kernel_rfl) (by kernel_rfl) (ev_int (ev_wrap (a := ((j : Nat) : Int) - 1) (by kernel_rfl) (by omega) (by omega)) (by omega)) ?_
        refine pl_take (.pointer (some ⟨(fbR1 r), j - 1, none⟩)) rfl (by kernel_rfl) (by kernel_rfl) (by kernel_rfl) (ex_index (p := .slice (some ⟨(fbR1 r), 0, none⟩) ((snN (Mem.rowsR l) r).length) ((fcR1 r))) (i := .int .i64 ((j - 1 : Nat) : Int)) rfl (by kernel_rfl) (by kernel_rfl) (ix56z (k := j - 1) (by omega))) ?_
        refine pl_take (.int .i64 (((Mem.natN (snN (Mem.rowsR l) r) (j - 1) : Nat) : Int) : Int)) rfl (by kernel_rfl) (by kernel_rfl) (by kernel_rfl) (ex_load rfl (by kernel_rfl) (ld3 ((hX17.cell qe34)))) ?_
        refine pl_take (.bool false) rfl (by kernel_rfl) (by kernel_rfl) (by kernel_rfl) (ev_ndec (show _ = Result.ok (Next.value (Value.bool (decide ((((Mem.natN (snN (Mem.rowsR l) r) j : Nat) : Int) : Int) ≤ (((Mem.natN (snN (Mem.rowsR l) r) (j - 1) : Nat) : Int) : Int))))) _ from by kernel_rfl) (by omega)) ?_
        refine pl_take (.bool false) rfl (by kernel_rfl) (by kernel_rfl) (by kernel_rfl) (by kernel_rfl) ?_
        refine pl_take (.bool false) rfl (by kernel_rfl) (by kernel_rfl) (by kernel_rfl) (by kernel_rfl) ?_
        refine pl_nil ?_
        refine qw_then ?_
        refine cw_clean [5, 6, 7, 8, 10, 12, 13, 14, 15, 16, 17, 18, 19, 20, 91] (ws' := [(5, .bool true), (6, .slice (some ⟨bs, os, none⟩) k1 c1), (7, .int .i64 (pk10 : Int)), (8, .slice (some ⟨gR1, 0, none⟩) rk12 rc13), (10, .int .i64 (ov18 : Int)), (12, .bool ovb), (13, .slice aS r cS), (14, .int .i64 (((r : Nat) : Int) : Int)), (15, .int .i64 (sm : Int)), (16, .int .i64 (((zb : Nat) : Int) : Int)), (17, .int .i64 (fm : Int)), (18, .int .i64 (tm : Int)), (19, .int .i64 (((j : Nat) : Int) : Int)), (20, .int .i64 (((Mem.natN (snN (Mem.rowsR l) r) j : Nat) : Int) : Int)), (91, .bool false)]) (by kernel_rfl) (fun L => ?_)
        refine cw_f (by kernel_rfl) ?_
        refine cw_skip ?_
        refine qw_then ?_
        refine cw_clean [5, 6, 7, 8, 10, 12, 13, 14, 15, 16, 17, 18, 19, 20] (ws' := [(5, .bool true), (6, .slice (some ⟨bs, os, none⟩) k1 c1), (7, .int .i64 (pk10 : Int)), (8, .slice (some ⟨gR1, 0, none⟩) rk12 rc13), (10, .int .i64 (ov18 : Int)), (12, .bool ovb), (13, .slice aS r cS), (14, .int .i64 (((r : Nat) : Int) : Int)), (15, .int .i64 (sm : Int)), (16, .int .i64 (((zb : Nat) : Int) : Int)), (17, .int .i64 (fm : Int)), (18, .int .i64 (tm : Int)), (19, .int .i64 (((j : Nat) : Int) : Int)), (20, .int .i64 (((Mem.natN (snN (Mem.rowsR l) r) j : Nat) : Int) : Int))]) (by kernel_rfl) (fun L => ?_)
        refine cw_seq ?_
        refine cw_plain ?_
        refine pl_take (.int .i64 (sm : Int)) rfl (by kernel_rfl) (by kernel_rfl) (by kernel_rfl) (by kernel_rfl) ?_
        refine pl_take (.slice (some ⟨bs, os, none⟩) k1 c1) rfl (by kernel_rfl) (by kernel_rfl) (by kernel_rfl) (by kernel_rfl) ?_
        refine pl_take (.int .i64 (((Mem.natN (snN (Mem.rowsR l) r) j : Nat) : Int) : Int)) rfl (by kernel_rfl) (by kernel_rfl) (by kernel_rfl) (by kernel_rfl) ?_
        refine pl_take (.pointer (some ⟨bs, os + (Mem.natN (snN (Mem.rowsR l) r) j) * 4, none⟩)) rfl (by kernel_rfl) (by kernel_rfl) (by kernel_rfl) (ex_index (p := .slice (some ⟨bs, os, none⟩) k1 c1) (i := .int .i64 ((Mem.natN (snN (Mem.rowsR l) r) j : Nat) : Int)) rfl (by kernel_rfl) (by kernel_rfl) (ix27 (k := Mem.natN (snN (Mem.rowsR l) r) j) (by omega))) ?_
        refine pl_take (.pointer (some ⟨bs, os + (Mem.natN (snN (Mem.rowsR l) r) j) * 4 + 1, none⟩)) rfl (by kernel_rfl) (by kernel_rfl) (by kernel_rfl) (by kernel_rfl) ?_
        refine pl_take (.int .i64 ((stN l (Mem.natN (snN (Mem.rowsR l) r) j)).un : Int)) rfl (by kernel_rfl) (by kernel_rfl) (by kernel_rfl) (ex_load rfl (by kernel_rfl) (ld3 ((hX9.cell q31)))) ?_
        refine pl_take (.int .i64 (sm + ((stN l (Mem.natN (snN (Mem.rowsR l) r) j)).un) : Int)) rfl (by kernel_rfl) (by kernel_rfl) (by kernel_rfl) (ev_wrap (by kernel_rfl) (by omega) (by omega)) ?_
        refine pl_take (.int .i64 (sm + ((stN l (Mem.natN (snN (Mem.rowsR l) r) j)).un) : Int)) rfl (by kernel_rfl) (by kernel_rfl) (by kernel_rfl) (by kernel_rfl) ?_
        refine pl_nil ?_
        refine qw_then ?_
        refine cw_clean [5, 6, 7, 8, 10, 12, 13, 14, 15, 16, 17, 18, 19, 20] (ws' := [(5, .bool true), (6, .slice (some ⟨bs, os, none⟩) k1 c1), (7, .int .i64 (pk10 : Int)), (8, .slice (some ⟨gR1, 0, none⟩) rk12 rc13), (10, .int .i64 (ov18 : Int)), (12, .bool ovb), (13, .slice aS r cS), (14, .int .i64 (((r : Nat) : Int) : Int)), (15, .int .i64 (sm + ((stN l (Mem.natN (snN (Mem.rowsR l) r) j)).un) : Int)), (16, .int .i64 (((zb : Nat) : Int) : Int)), (17, .int .i64 (fm : Int)), (18, .int .i64 (tm : Int)), (19, .int .i64 (((j : Nat) : Int) : Int)), (20, .int .i64 (((Mem.natN (snN (Mem.rowsR l) r) j : Nat) : Int) : Int))]) (by kernel_rfl) (fun L => ?_)
        refine cw_seq ?_
        refine cw_plain ?_
        refine pl_take (.int .i64 (((zb : Nat) : Int) : Int)) rfl (by kernel_rfl) (by kernel_rfl) (by kernel_rfl) (by kernel_rfl) ?_
        refine pl_take (.int .i64 (((Mem.natN (snN (Mem.rowsR l) r) j : Nat) : Int) : Int)) rfl (by kernel_rfl) (by kernel_rfl) (by kernel_rfl) (by kernel_rfl) ?_
        refine pl_take (.int .i64 (((2 ^ (Mem.natN (snN (Mem.rowsR l) r) j) : Nat) : Int) : Int)) rfl (by kernel_rfl) (by kernel_rfl) (by kernel_rfl) (ex_bin rfl (by kernel_rfl) (by kernel_rfl) (bin_shl1 (by omega))) ?_
        refine pl_take (.int .i64 (((zb ||| (2 ^ (Mem.natN (snN (Mem.rowsR l) r) j)) : Nat) : Int) : Int)) rfl (by kernel_rfl) (by kernel_rfl) (by kernel_rfl) (ev_int (show _ = Result.ok (Next.value (Value.int .i64 (bits .or .i64 ((zb : Nat) : Int) ((2 ^ (Mem.natN (snN (Mem.rowsR l) r) j) : Nat) : Int)))) _ from by kernel_rfl) (or_i64 _ _ (by omega) (by have : 2 ^ (Mem.natN (snN (Mem.rowsR l) r) j) < 2 ^ 48 := Nat.pow_lt_pow_right (by decide) (by omega); omega))) ?_
        refine pl_take (.int .i64 (((zb ||| (2 ^ (Mem.natN (snN (Mem.rowsR l) r) j)) : Nat) : Int) : Int)) rfl (by kernel_rfl) (by kernel_rfl) (by kernel_rfl) (by kernel_rfl) ?_
        refine pl_nil ?_
        refine qw_then ?_
        refine cw_clean [5, 6, 7, 8, 10, 12, 13, 14, 15, 16, 17, 18, 19, 20] (ws' := [(5, .bool true), (6, .slice (some ⟨bs, os, none⟩) k1 c1), (7, .int .i64 (pk10 : Int)), (8, .slice (some ⟨gR1, 0, none⟩) rk12 rc13), (10, .int .i64 (ov18 : Int)), (12, .bool ovb), (13, .slice aS r cS), (14, .int .i64 (((r : Nat) : Int) : Int)), (15, .int .i64 (sm + ((stN l (Mem.natN (snN (Mem.rowsR l) r) j)).un) : Int)), (16, .int .i64 (((zb ||| (2 ^ (Mem.natN (snN (Mem.rowsR l) r) j)) : Nat) : Int) : Int)), (17, .int .i64 (fm : Int)), (18, .int .i64 (tm : Int)), (19, .int .i64 (((j : Nat) : Int) : Int)), (20, .int .i64 (((Mem.natN (snN (Mem.rowsR l) r) j : Nat) : Int) : Int))]) (by kernel_rfl) (fun L => ?_)
        refine cw_seq ?_
        refine cw_plain ?_
        refine pl_take (.int .i64 (fm : Int)) rfl (by kernel_rfl) (by kernel_rfl) (by kernel_rfl) (by kernel_rfl) ?_
        refine pl_take (.slice (some ⟨bs, os, none⟩) k1 c1) rfl (by kernel_rfl) (by kernel_rfl) (by kernel_rfl) (by kernel_rfl) ?_
        refine pl_take (.int .i64 (((Mem.natN (snN (Mem.rowsR l) r) j : Nat) : Int) : Int)) rfl (by kernel_rfl) (by kernel_rfl) (by kernel_rfl) (by kernel_rfl) ?_
        refine pl_take (.pointer (some ⟨bs, os + (Mem.natN (snN (Mem.rowsR l) r) j) * 4, none⟩)) rfl (by kernel_rfl) (by kernel_rfl) (by kernel_rfl) (ex_index (p := .slice (some ⟨bs, os, none⟩) k1 c1) (i := .int .i64 ((Mem.natN (snN (Mem.rowsR l) r) j : Nat) : Int)) rfl (by kernel_rfl) (by kernel_rfl) (ix27 (k := Mem.natN (snN (Mem.rowsR l) r) j) (by omega))) ?_
        refine pl_take (.pointer (some ⟨bs, os + (Mem.natN (snN (Mem.rowsR l) r) j) * 4 + 2, none⟩)) rfl (by kernel_rfl) (by kernel_rfl) (by kernel_rfl) (by kernel_rfl) ?_
        refine pl_take (.pointer (some ⟨bs, os + (Mem.natN (snN (Mem.rowsR l) r) j) * 4 + 2, none⟩)) rfl (by kernel_rfl) (by kernel_rfl) (by kernel_rfl) (by kernel_rfl) ?_
        refine pl_take (.int .i64 ((stN l (Mem.natN (snN (Mem.rowsR l) r) j)).fr : Int)) rfl (by kernel_rfl) (by kernel_rfl) (by kernel_rfl) (ex_load rfl (by kernel_rfl) (ld3 ((hX9.cell q32)))) ?_
        refine pl_take (.int .i64 (max (fm : Int) ((stN l (Mem.natN (snN (Mem.rowsR l) r) j)).fr : Int) : Int)) rfl (by kernel_rfl) (by kernel_rfl) (by kernel_rfl) (ev_int (show _ = Result.ok (Next.value (Value.int .i64 (if (fm : Int) < ((stN l (Mem.natN (snN (Mem.rowsR l) r) j)).fr : Int) then ((stN l (Mem.natN (snN (Mem.rowsR l) r) j)).fr : Int) else (fm : Int)))) _ from by kernel_rfl) (by split <;> omega)) ?_
        refine pl_take (.int .i64 (max (fm : Int) ((stN l (Mem.natN (snN (Mem.rowsR l) r) j)).fr : Int) : Int)) rfl (by kernel_rfl) (by kernel_rfl) (by kernel_rfl) (by kernel_rfl) ?_
        refine pl_nil ?_
        refine qw_then ?_
        refine cw_clean [5, 6, 7, 8, 10, 12, 13, 14, 15, 16, 17, 18, 19, 20] (ws' := [(5, .bool true), (6, .slice (some ⟨bs, os, none⟩) k1 c1), (7, .int .i64 (pk10 : Int)), (8, .slice (some ⟨gR1, 0, none⟩) rk12 rc13), (10, .int .i64 (ov18 : Int)), (12, .bool ovb), (13, .slice aS r cS), (14, .int .i64 (((r : Nat) : Int) : Int)), (15, .int .i64 (sm + ((stN l (Mem.natN (snN (Mem.rowsR l) r) j)).un) : Int)), (16, .int .i64 (((zb ||| (2 ^ (Mem.natN (snN (Mem.rowsR l) r) j)) : Nat) : Int) : Int)), (17, .int .i64 (max (fm : Int) ((stN l (Mem.natN (snN (Mem.rowsR l) r) j)).fr : Int) : Int)), (18, .int .i64 (tm : Int)), (19, .int .i64 (((j : Nat) : Int) : Int)), (20, .int .i64 (((Mem.natN (snN (Mem.rowsR l) r) j : Nat) : Int) : Int))]) (by kernel_rfl) (fun L => ?_)
        refine cw_plain ?_
        refine pl_take (.int .i64 (tm : Int)) rfl (by kernel_rfl) (by kernel_rfl) (by kernel_rfl) (by kernel_rfl) ?_
        refine pl_take (.slice (some ⟨bs, os, none⟩) k1 c1) rfl (by kernel_rfl) (by kernel_rfl) (by kernel_rfl) (by kernel_rfl) ?_
        refine pl_take (.int .i64 (((Mem.natN (snN (Mem.rowsR l) r) j : Nat) : Int) : Int)) rfl (by kernel_rfl) (by kernel_rfl) (by kernel_rfl) (by kernel_rfl) ?_
        refine pl_take (.pointer (some ⟨bs, os + (Mem.natN (snN (Mem.rowsR l) r) j) * 4, none⟩)) rfl (by kernel_rfl) (by kernel_rfl) (by kernel_rfl) (ex_index (p := .slice (some ⟨bs, os, none⟩) k1 c1) (i := .int .i64 ((Mem.natN (snN (Mem.rowsR l) r) j : Nat) : Int)) rfl (by kernel_rfl) (by kernel_rfl) (ix27 (k := Mem.natN (snN (Mem.rowsR l) r) j) (by omega))) ?_
        refine pl_take (.pointer (some ⟨bs, os + (Mem.natN (snN (Mem.rowsR l) r) j) * 4 + 2, none⟩)) rfl (by kernel_rfl) (by kernel_rfl) (by kernel_rfl) (by kernel_rfl) ?_
        refine pl_take (.pointer (some ⟨bs, os + (Mem.natN (snN (Mem.rowsR l) r) j) * 4 + 2 + 1, none⟩)) rfl (by kernel_rfl) (by kernel_rfl) (by kernel_rfl) (by kernel_rfl) ?_
        refine pl_take (.int .i64 ((stN l (Mem.natN (snN (Mem.rowsR l) r) j)).to : Int)) rfl (by kernel_rfl) (by kernel_rfl) (by kernel_rfl) (ex_load rfl (by kernel_rfl) (ld3 ((hX9.cell q33)))) ?_
        refine pl_take (.int .i64 (min (tm : Int) ((stN l (Mem.natN (snN (Mem.rowsR l) r) j)).to : Int) : Int)) rfl (by kernel_rfl) (by kernel_rfl) (by kernel_rfl) (ev_int (show _ = Result.ok (Next.value (Value.int .i64 (if ((stN l (Mem.natN (snN (Mem.rowsR l) r) j)).to : Int) < (tm : Int) then ((stN l (Mem.natN (snN (Mem.rowsR l) r) j)).to : Int) else (tm : Int)))) _ from by kernel_rfl) (by split <;> omega)) ?_
        refine pl_take (.int .i64 (min (tm : Int) ((stN l (Mem.natN (snN (Mem.rowsR l) r) j)).to : Int) : Int)) rfl (by kernel_rfl) (by kernel_rfl) (by kernel_rfl) (by kernel_rfl) ?_
        refine pl_nil ?_
        refine qw_block ?_
        refine qw_then ?_
        refine cw_clean [5, 6, 7, 8, 10, 12, 13, 14, 15, 16, 17, 18, 19] (ws' := [(5, .bool true), (6, .slice (some ⟨bs, os, none⟩) k1 c1), (7, .int .i64 (pk10 : Int)), (8, .slice (some ⟨gR1, 0, none⟩) rk12 rc13), (10, .int .i64 (ov18 : Int)), (12, .bool ovb), (13, .slice aS r cS), (14, .int .i64 (((r : Nat) : Int) : Int)), (15, .int .i64 (sm + ((stN l (Mem.natN (snN (Mem.rowsR l) r) j)).un) : Int)), (16, .int .i64 (((zb ||| (2 ^ (Mem.natN (snN (Mem.rowsR l) r) j)) : Nat) : Int) : Int)), (17, .int .i64 (max (fm : Int) ((stN l (Mem.natN (snN (Mem.rowsR l) r) j)).fr : Int) : Int)), (18, .int .i64 (min (tm : Int) ((stN l (Mem.natN (snN (Mem.rowsR l) r) j)).to : Int) : Int)), (19, .int .i64 (((j : Nat) : Int) : Int))]) (by kernel_rfl) (fun L => ?_)
        refine cw_plain ?_
        refine pl_take (.int .i64 (((j : Nat) : Int) : Int)) rfl (by kernel_rfl) (by kernel_rfl) (by kernel_rfl) (by kernel_rfl) ?_
        refine pl_take (.int .i64 (((j + 1 : Nat) : Int) : Int)) rfl (by kernel_rfl) (by kernel_rfl) (by kernel_rfl) (ev_wrap (by kernel_rfl) (by omega) (by omega)) ?_
        refine pl_take (.int .i64 (((j + 1 : Nat) : Int) : Int)) rfl (by kernel_rfl) (by kernel_rfl) (by kernel_rfl) (by kernel_rfl) ?_
        refine pl_nil ?_
        refine qw_round [5, 6, 7, 8, 10, 12, 13, 14, 15, 16, 17, 18, 19] (ws' := [(5, .bool true), (6, .slice (some ⟨bs, os, none⟩) k1 c1), (7, .int .i64 (pk10 : Int)), (8, .slice (some ⟨gR1, 0, none⟩) rk12 rc13), (10, .int .i64 (ov18 : Int)), (12, .bool ovb), (13, .slice aS r cS), (14, .int .i64 (((r : Nat) : Int) : Int)), (15, .int .i64 (sm + ((stN l (Mem.natN (snN (Mem.rowsR l) r) j)).un) : Int)), (16, .int .i64 (((zb ||| (2 ^ (Mem.natN (snN (Mem.rowsR l) r) j)) : Nat) : Int) : Int)), (17, .int .i64 (max (fm : Int) ((stN l (Mem.natN (snN (Mem.rowsR l) r) j)).fr : Int) : Int)), (18, .int .i64 (min (tm : Int) ((stN l (Mem.natN (snN (Mem.rowsR l) r) j)).to : Int) : Int)), (19, .int .i64 (((j + 1 : Nat) : Int) : Int))]) (by kernel_rfl) _ ?_ ⟨(j + 1), sm + ((stN l (Mem.natN (snN (Mem.rowsR l) r) j)).un), zb ||| (2 ^ (Mem.natN (snN (Mem.rowsR l) r) j)), max (fm : Int) ((stN l (Mem.natN (snN (Mem.rowsR l) r) j)).fr : Int), min (tm : Int) ((stN l (Mem.natN (snN (Mem.rowsR l) r) j)).to : Int), rfl, rfl, hs25, hE, hX9, hX17, own9, by omega, by omega, (by rw [Mem.natN_take hlt, Mem.bitsOf_snoc, ← hzb]), by omega, by omega⟩
        omega
      ·
        refine cw_plain ?_
        refine pl_take (.int .i64 (((Mem.natN (snN (Mem.rowsR l) r) j : Nat) : Int) : Int)) rfl (by kernel_rfl) (by kernel_rfl) (by kernel_rfl) (by kernel_rfl) ?_
        refine pl_take (.bool false) rfl (by kernel_rfl) (by kernel_rfl) (by kernel_rfl) (ev_ndec (show _ = Result.ok (Next.value (Value.bool (decide ((((Mem.natN (snN (Mem.rowsR l) r) j : Nat) : Int) : Int) < (0 : Int))))) _ from by kernel_rfl) (by omega)) ?_
        refine pl_take (.bool false) rfl (by kernel_rfl) (by kernel_rfl) (by kernel_rfl) (by kernel_rfl) ?_
        refine pl_take (.int .i64 (((Mem.natN (snN (Mem.rowsR l) r) j : Nat) : Int) : Int)) rfl (by kernel_rfl) (by kernel_rfl) (by kernel_rfl) (by kernel_rfl) ?_
        refine pl_take (.slice (some ⟨bs, os, none⟩) k1 c1) rfl (by kernel_rfl) (by kernel_rfl) (by kernel_rfl) (by kernel_rfl) ?_
        refine pl_take (.int .i64 (((k1 : Nat) : Int) : Int)) rfl (by kernel_rfl) (by kernel_rfl) (by kernel_rfl) (by kernel_rfl) ?_
        refine pl_take (.bool false) rfl (by kernel_rfl) (by kernel_rfl) (by kernel_rfl) (ev_ndec (show _ = Result.ok (Next.value (Value.bool (decide ((((Mem.natN (snN (Mem.rowsR l) r) j : Nat) : Int) : Int) ≥ (((k1 : Nat) : Int) : Int))))) _ from by kernel_rfl) (by omega)) ?_
        refine pl_take (.bool false) rfl (by kernel_rfl) (by kernel_rfl) (by kernel_rfl) (by kernel_rfl) ?_
        refine pl_take (.bool false) rfl (by kernel_rfl) (by kernel_rfl) (by kernel_rfl) (by kernel_rfl) ?_
        refine pl_take (.int .i64 (((j : Nat) : Int) : Int)) rfl (by kernel_rfl) (by kernel_rfl) (by kernel_rfl) (by kernel_rfl) ?_
        refine pl_take (.bool false) rfl (by kernel_rfl) (by kernel_rfl) (by kernel_rfl) (ev_ndec (show _ = Result.ok (Next.value (Value.bool (decide ((((j : Nat) : Int) : Int) > (0 : Int))))) _ from by kernel_rfl) (by omega)) ?_
        refine pl_take (.bool false) rfl (by kernel_rfl) (by kernel_rfl) (by kernel_rfl) (by kernel_rfl) ?_
        refine pl_skip rfl (by kernel_rfl) (by kernel_rfl) (by kernel_rfl) ?_
        refine pl_skip rfl (by kernel_rfl) (by kernel_rfl) (by kernel_rfl) ?_
        refine pl_skip rfl (by kernel_rfl) (by kernel_rfl) (by kernel_rfl) ?_
        refine pl_skip rfl (by kernel_rfl) (by kernel_rfl) (by kernel_rfl) ?_
        refine pl_skip rfl (by kernel_rfl) (by kernel_rfl) (by kernel_rfl) ?_
        refine pl_skip rfl (by kernel_rfl) (by kernel_rfl) (by kernel_rfl) ?_
        refine pl_skip rfl (by kernel_rfl) (by kernel_rfl) (by kernel_rfl) ?_
        refine pl_skip rfl (by kernel_rfl) (by kernel_rfl) (by kernel_rfl) ?_
        refine pl_skip rfl (by kernel_rfl) (by kernel_rfl) (by kernel_rfl) ?_
        refine pl_skip rfl (by kernel_rfl) (by kernel_rfl) (by kernel_rfl) ?_
        refine pl_take (.bool false) rfl (by kernel_rfl) (by kernel_rfl) (by kernel_rfl) (by kernel_rfl) ?_
        refine pl_take (.bool false) rfl (by kernel_rfl) (by kernel_rfl) (by kernel_rfl) (by kernel_rfl) ?_
        refine pl_nil ?_
        refine qw_then ?_
        refine cw_clean [5, 6, 7, 8, 10, 12, 13, 14, 15, 16, 17, 18, 19, 20, 91] (ws' := [(5, .bool true), (6, .slice (some ⟨bs, os, none⟩) k1 c1), (7, .int .i64 (pk10 : Int)), (8, .slice (some ⟨gR1, 0, none⟩) rk12 rc13), (10, .int .i64 (ov18 : Int)), (12, .bool ovb), (13, .slice aS r cS), (14, .int .i64 (((r : Nat) : Int) : Int)), (15, .int .i64 (sm : Int)), (16, .int .i64 (((zb : Nat) : Int) : Int)), (17, .int .i64 (fm : Int)), (18, .int .i64 (tm : Int)), (19, .int .i64 (((j : Nat) : Int) : Int)), (20, .int .i64 (((Mem.natN (snN (Mem.rowsR l) r) j : Nat) : Int) : Int)), (91, .bool false)]) (by kernel_rfl) (fun L => ?_)
        refine cw_f (by kernel_rfl) ?_
        refine cw_skip ?_
        refine qw_then ?_
        refine cw_clean [5, 6, 7, 8, 10, 12, 13, 14, 15, 16, 17, 18, 19, 20] (ws' := [(5, .bool true), (6, .slice (some ⟨bs, os, none⟩) k1 c1), (7, .int .i64 (pk10 : Int)), (8, .slice (some ⟨gR1, 0, none⟩) rk12 rc13), (10, .int .i64 (ov18 : Int)), (12, .bool ovb), (13, .slice aS r cS), (14, .int .i64 (((r : Nat) : Int) : Int)), (15, .int .i64 (sm : Int)), (16, .int .i64 (((zb : Nat) : Int) : Int)), (17, .int .i64 (fm : Int)), (18, .int .i64 (tm : Int)), (19, .int .i64 (((j : Nat) : Int) : Int)), (20, .int .i64 (((Mem.natN (snN (Mem.rowsR l) r) j : Nat) : Int) : Int))]) (by kernel_rfl) (fun L => ?_)
        refine cw_seq ?_
        refine cw_plain ?_
        refine pl_take (.int .i64 (sm : Int)) rfl (by kernel_rfl) (by kernel_rfl) (by kernel_rfl) (by kernel_rfl) ?_
        refine pl_take (.slice (some ⟨bs, os, none⟩) k1 c1) rfl (by kernel_rfl) (by kernel_rfl) (by kernel_rfl) (by kernel_rfl) ?_
        refine pl_take (.int .i64 (((Mem.natN (snN (Mem.rowsR l) r) j : Nat) : Int) : Int)) rfl (by kernel_rfl) (by kernel_rfl) (by kernel_rfl) (by kernel_rfl) ?_
        refine pl_take (.pointer (some ⟨bs, os + (Mem.natN (snN (Mem.rowsR l) r) j) * 4, none⟩)) rfl (by kernel_rfl) (by kernel_rfl) (by kernel_rfl) (ex_index (p := .slice (some ⟨bs, os, none⟩) k1 c1) (i := .int .i64 ((Mem.natN (snN (Mem.rowsR l) r) j : Nat) : Int)) rfl (by kernel_rfl) (by kernel_rfl) (ix27 (k := Mem.natN (snN (Mem.rowsR l) r) j) (by omega))) ?_
        refine pl_take (.pointer (some ⟨bs, os + (Mem.natN (snN (Mem.rowsR l) r) j) * 4 + 1, none⟩)) rfl (by kernel_rfl) (by kernel_rfl) (by kernel_rfl) (by kernel_rfl) ?_
        refine pl_take (.int .i64 ((stN l (Mem.natN (snN (Mem.rowsR l) r) j)).un : Int)) rfl (by kernel_rfl) (by kernel_rfl) (by kernel_rfl) (ex_load rfl (by kernel_rfl) (ld3 ((hX9.cell q31)))) ?_
        refine pl_take (.int .i64 (sm + ((stN l (Mem.natN (snN (Mem.rowsR l) r) j)).un) : Int)) rfl (by kernel_rfl) (by kernel_rfl) (by kernel_rfl) (ev_wrap (by kernel_rfl) (by omega) (by omega)) ?_
        refine pl_take (.int .i64 (sm + ((stN l (Mem.natN (snN (Mem.rowsR l) r) j)).un) : Int)) rfl (by kernel_rfl) (by kernel_rfl) (by kernel_rfl) (by kernel_rfl) ?_
        refine pl_nil ?_
        refine qw_then ?_
        refine cw_clean [5, 6, 7, 8, 10, 12, 13, 14, 15, 16, 17, 18, 19, 20] (ws' := [(5, .bool true), (6, .slice (some ⟨bs, os, none⟩) k1 c1), (7, .int .i64 (pk10 : Int)), (8, .slice (some ⟨gR1, 0, none⟩) rk12 rc13), (10, .int .i64 (ov18 : Int)), (12, .bool ovb), (13, .slice aS r cS), (14, .int .i64 (((r : Nat) : Int) : Int)), (15, .int .i64 (sm + ((stN l (Mem.natN (snN (Mem.rowsR l) r) j)).un) : Int)), (16, .int .i64 (((zb : Nat) : Int) : Int)), (17, .int .i64 (fm : Int)), (18, .int .i64 (tm : Int)), (19, .int .i64 (((j : Nat) : Int) : Int)), (20, .int .i64 (((Mem.natN (snN (Mem.rowsR l) r) j : Nat) : Int) : Int))]) (by kernel_rfl) (fun L => ?_)
        refine cw_seq ?_
        refine cw_plain ?_
        refine pl_take (.int .i64 (((zb : Nat) : Int) : Int)) rfl (by kernel_rfl) (by kernel_rfl) (by kernel_rfl) (by kernel_rfl) ?_
        refine pl_take (.int .i64 (((Mem.natN (snN (Mem.rowsR l) r) j : Nat) : Int) : Int)) rfl (by kernel_rfl) (by kernel_rfl) (by kernel_rfl) (by kernel_rfl) ?_
        refine pl_take (.int .i64 (((2 ^ (Mem.natN (snN (Mem.rowsR l) r) j) : Nat) : Int) : Int)) rfl (by kernel_rfl) (by kernel_rfl) (by kernel_rfl) (ex_bin rfl (by kernel_rfl) (by kernel_rfl) (bin_shl1 (by omega))) ?_
        refine pl_take (.int .i64 (((zb ||| (2 ^ (Mem.natN (snN (Mem.rowsR l) r) j)) : Nat) : Int) : Int)) rfl (by kernel_rfl) (by kernel_rfl) (by kernel_rfl) (ev_int (show _ = Result.ok (Next.value (Value.int .i64 (bits .or .i64 ((zb : Nat) : Int) ((2 ^ (Mem.natN (snN (Mem.rowsR l) r) j) : Nat) : Int)))) _ from by kernel_rfl) (or_i64 _ _ (by omega) (by have : 2 ^ (Mem.natN (snN (Mem.rowsR l) r) j) < 2 ^ 48 := Nat.pow_lt_pow_right (by decide) (by omega); omega))) ?_
        refine pl_take (.int .i64 (((zb ||| (2 ^ (Mem.natN (snN (Mem.rowsR l) r) j)) : Nat) : Int) : Int)) rfl (by kernel_rfl) (by kernel_rfl) (by kernel_rfl) (by kernel_rfl) ?_
        refine pl_nil ?_
        refine qw_then ?_
        refine cw_clean [5, 6, 7, 8, 10, 12, 13, 14, 15, 16, 17, 18, 19, 20] (ws' := [(5, .bool true), (6, .slice (some ⟨bs, os, none⟩) k1 c1), (7, .int .i64 (pk10 : Int)), (8, .slice (some ⟨gR1, 0, none⟩) rk12 rc13), (10, .int .i64 (ov18 : Int)), (12, .bool ovb), (13, .slice aS r cS), (14, .int .i64 (((r : Nat) : Int) : Int)), (15, .int .i64 (sm + ((stN l (Mem.natN (snN (Mem.rowsR l) r) j)).un) : Int)), (16, .int .i64 (((zb ||| (2 ^ (Mem.natN (snN (Mem.rowsR l) r) j)) : Nat) : Int) : Int)), (17, .int .i64 (fm : Int)), (18, .int .i64 (tm : Int)), (19, .int .i64 (((j : Nat) : Int) : Int)), (20, .int .i64 (((Mem.natN (snN (Mem.rowsR l) r) j : Nat) : Int) : Int))]) (by kernel_rfl) (fun L => ?_)
        refine cw_seq ?_
        refine cw_plain ?_
        refine pl_take (.int .i64 (fm : Int)) rfl (by kernel_rfl) (by kernel_rfl) (by kernel_rfl) (by kernel_rfl) ?_
        refine pl_take (.slice (some ⟨bs, os, none⟩) k1 c1) rfl (by kernel_rfl) (by kernel_rfl) (by kernel_rfl) (by kernel_rfl) ?_
        refine pl_take (.int .i64 (((Mem.natN (snN (Mem.rowsR l) r) j : Nat) : Int) : Int)) rfl (by kernel_rfl) (by kernel_rfl) (by kernel_rfl) (by kernel_rfl) ?_
        refine pl_take (.pointer (some ⟨bs, os + (Mem.natN (snN (Mem.rowsR l) r) j) * 4, none⟩)) rfl (by kernel_rfl) (by kernel_rfl) (by kernel_rfl) (ex_index (p := .slice (some ⟨bs, os, none⟩) k1 c1) (i := .int .i64 ((Mem.natN (snN (Mem.rowsR l) r) j : Nat) : Int)) rfl (by kernel_rfl) (by kernel_rfl) (ix27 (k := Mem.natN (snN (Mem.rowsR l) r) j) (by omega))) ?_
        refine pl_take (.pointer (some ⟨bs, os + (Mem.natN (snN (Mem.rowsR l) r) j) * 4 + 2, none⟩)) rfl (by kernel_rfl) (by kernel_rfl) (by kernel_rfl) (by kernel_rfl) ?_
        refine pl_take (.pointer (some ⟨bs, os + (Mem.natN (snN (Mem.rowsR l) r) j) * 4 + 2, none⟩)) rfl (by kernel_rfl) (by kernel_rfl) (by kernel_rfl) (by kernel_rfl) ?_
        refine pl_take (.int .i64 ((stN l (Mem.natN (snN (Mem.rowsR l) r) j)).fr : Int)) rfl (by kernel_rfl) (by kernel_rfl) (by kernel_rfl) (ex_load rfl (by kernel_rfl) (ld3 ((hX9.cell q32)))) ?_
        refine pl_take (.int .i64 (max (fm : Int) ((stN l (Mem.natN (snN (Mem.rowsR l) r) j)).fr : Int) : Int)) rfl (by kernel_rfl) (by kernel_rfl) (by kernel_rfl) (ev_int (show _ = Result.ok (Next.value (Value.int .i64 (if (fm : Int) < ((stN l (Mem.natN (snN (Mem.rowsR l) r) j)).fr : Int) then ((stN l (Mem.natN (snN (Mem.rowsR l) r) j)).fr : Int) else (fm : Int)))) _ from by kernel_rfl) (by split <;> omega)) ?_
        refine pl_take (.int .i64 (max (fm : Int) ((stN l (Mem.natN (snN (Mem.rowsR l) r) j)).fr : Int) : Int)) rfl (by kernel_rfl) (by kernel_rfl) (by kernel_rfl) (by kernel_rfl) ?_
        refine pl_nil ?_
        refine qw_then ?_
        refine cw_clean [5, 6, 7, 8, 10, 12, 13, 14, 15, 16, 17, 18, 19, 20] (ws' := [(5, .bool true), (6, .slice (some ⟨bs, os, none⟩) k1 c1), (7, .int .i64 (pk10 : Int)), (8, .slice (some ⟨gR1, 0, none⟩) rk12 rc13), (10, .int .i64 (ov18 : Int)), (12, .bool ovb), (13, .slice aS r cS), (14, .int .i64 (((r : Nat) : Int) : Int)), (15, .int .i64 (sm + ((stN l (Mem.natN (snN (Mem.rowsR l) r) j)).un) : Int)), (16, .int .i64 (((zb ||| (2 ^ (Mem.natN (snN (Mem.rowsR l) r) j)) : Nat) : Int) : Int)), (17, .int .i64 (max (fm : Int) ((stN l (Mem.natN (snN (Mem.rowsR l) r) j)).fr : Int) : Int)), (18, .int .i64 (tm : Int)), (19, .int .i64 (((j : Nat) : Int) : Int)), (20, .int .i64 (((Mem.natN (snN (Mem.rowsR l) r) j : Nat) : Int) : Int))]) (by kernel_rfl) (fun L => ?_)
        refine cw_plain ?_
        refine pl_take (.int .i64 (tm : Int)) rfl (by kernel_rfl) (by kernel_rfl) (by kernel_rfl) (by kernel_rfl) ?_
        refine pl_take (.slice (some ⟨bs, os, none⟩) k1 c1) rfl (by kernel_rfl) (by kernel_rfl) (by kernel_rfl) (by kernel_rfl) ?_
        refine pl_take (.int .i64 (((Mem.natN (snN (Mem.rowsR l) r) j : Nat) : Int) : Int)) rfl (by kernel_rfl) (by kernel_rfl) (by kernel_rfl) (by kernel_rfl) ?_
        refine pl_take (.pointer (some ⟨bs, os + (Mem.natN (snN (Mem.rowsR l) r) j) * 4, none⟩)) rfl (by kernel_rfl) (by kernel_rfl) (by kernel_rfl) (ex_index (p := .slice (some ⟨bs, os, none⟩) k1 c1) (i := .int .i64 ((Mem.natN (snN (Mem.rowsR l) r) j : Nat) : Int)) rfl (by kernel_rfl) (by kernel_rfl) (ix27 (k := Mem.natN (snN (Mem.rowsR l) r) j) (by omega))) ?_
        refine pl_take (.pointer (some ⟨bs, os + (Mem.natN (snN (Mem.rowsR l) r) j) * 4 + 2, none⟩)) rfl (by kernel_rfl) (by kernel_rfl) (by kernel_rfl) (by kernel_rfl) ?_
        refine pl_take (.pointer (some ⟨bs, os + (Mem.natN (snN (Mem.rowsR l) r) j) * 4 + 2 + 1, none⟩)) rfl (by kernel_rfl) (by kernel_rfl) (by kernel_rfl) (by kernel_rfl) ?_
        refine pl_take (.int .i64 ((stN l (Mem.natN (snN (Mem.rowsR l) r) j)).to : Int)) rfl (by kernel_rfl) (by kernel_rfl) (by kernel_rfl) (ex_load rfl (by kernel_rfl) (ld3 ((hX9.cell q33)))) ?_
        refine pl_take (.int .i64 (min (tm : Int) ((stN l (Mem.natN (snN (Mem.rowsR l) r) j)).to : Int) : Int)) rfl (by kernel_rfl) (by kernel_rfl) (by kernel_rfl) (ev_int (show _ = Result.ok (Next.value (Value.int .i64 (if ((stN l (Mem.natN (snN (Mem.rowsR l) r) j)).to : Int) < (tm : Int) then ((stN l (Mem.natN (snN (Mem.rowsR l) r) j)).to : Int) else (tm : Int)))) _ from by kernel_rfl) (by split <;> omega)) ?_
        refine pl_take (.int .i64 (min (tm : Int) ((stN l (Mem.natN (snN (Mem.rowsR l) r) j)).to : Int) : Int)) rfl (by kernel_rfl) (by kernel_rfl) (by kernel_rfl) (by kernel_rfl) ?_
        refine pl_nil ?_
        refine qw_block ?_
        refine qw_then ?_
        refine cw_clean [5, 6, 7, 8, 10, 12, 13, 14, 15, 16, 17, 18, 19] (ws' := [(5, .bool true), (6, .slice (some ⟨bs, os, none⟩) k1 c1), (7, .int .i64 (pk10 : Int)), (8, .slice (some ⟨gR1, 0, none⟩) rk12 rc13), (10, .int .i64 (ov18 : Int)), (12, .bool ovb), (13, .slice aS r cS), (14, .int .i64 (((r : Nat) : Int) : Int)), (15, .int .i64 (sm + ((stN l (Mem.natN (snN (Mem.rowsR l) r) j)).un) : Int)), (16, .int .i64 (((zb ||| (2 ^ (Mem.natN (snN (Mem.rowsR l) r) j)) : Nat) : Int) : Int)), (17, .int .i64 (max (fm : Int) ((stN l (Mem.natN (snN (Mem.rowsR l) r) j)).fr : Int) : Int)), (18, .int .i64 (min (tm : Int) ((stN l (Mem.natN (snN (Mem.rowsR l) r) j)).to : Int) : Int)), (19, .int .i64 (((j : Nat) : Int) : Int))]) (by kernel_rfl) (fun L => ?_)
        refine cw_plain ?_
        refine pl_take (.int .i64 (((j : Nat) : Int) : Int)) rfl (by kernel_rfl) (by kernel_rfl) (by kernel_rfl) (by kernel_rfl) ?_
        refine pl_take (.int .i64 (((j + 1 : Nat) : Int) : Int)) rfl (by kernel_rfl) (by kernel_rfl) (by kernel_rfl) (ev_wrap (by kernel_rfl) (by omega) (by omega)) ?_
        refine pl_take (.int .i64 (((j + 1 : Nat) : Int) : Int)) rfl (by kernel_rfl) (by kernel_rfl) (by kernel_rfl) (by kernel_rfl) ?_
        refine pl_nil ?_
        refine qw_round [5, 6, 7, 8, 10, 12, 13, 14, 15, 16, 17, 18, 19] (ws' := [(5, .bool true), (6, .slice (some ⟨bs, os, none⟩) k1 c1), (7, .int .i64 (pk10 : Int)), (8, .slice (some ⟨gR1, 0, none⟩) rk12 rc13), (10, .int .i64 (ov18 : Int)), (12, .bool ovb), (13, .slice aS r cS), (14, .int .i64 (((r : Nat) : Int) : Int)), (15, .int .i64 (sm + ((stN l (Mem.natN (snN (Mem.rowsR l) r) j)).un) : Int)), (16, .int .i64 (((zb ||| (2 ^ (Mem.natN (snN (Mem.rowsR l) r) j)) : Nat) : Int) : Int)), (17, .int .i64 (max (fm : Int) ((stN l (Mem.natN (snN (Mem.rowsR l) r) j)).fr : Int) : Int)), (18, .int .i64 (min (tm : Int) ((stN l (Mem.natN (snN (Mem.rowsR l) r) j)).to : Int) : Int)), (19, .int .i64 (((j + 1 : Nat) : Int) : Int))]) (by kernel_rfl) _ ?_ ⟨(j + 1), sm + ((stN l (Mem.natN (snN (Mem.rowsR l) r) j)).un), zb ||| (2 ^ (Mem.natN (snN (Mem.rowsR l) r) j)), max (fm : Int) ((stN l (Mem.natN (snN (Mem.rowsR l) r) j)).fr : Int), min (tm : Int) ((stN l (Mem.natN (snN (Mem.rowsR l) r) j)).to : Int), rfl, rfl, hs25, hE, hX9, hX17, own9, by omega, by omega, (by rw [Mem.natN_take hlt, Mem.bitsOf_snoc, ← hzb]), by omega, by omega⟩
        omega
    ·
      have hjl : j = (snN (Mem.rowsR l) r).length := by omega
      have hrs9 : Mem.rowS l (fun _ => true) r = sm := by rw [hsm, hjl]; rfl
      have hzb9 : zb = Mem.bt l r := by rw [hzb, hjl, List.take_length]; rfl
      have hbn9 : zb ≠ 0 := by rw [hzb9]; exact Mem.bits_ne (by rw [he9]; exact Mem.row_some hu ht9)
      have hbl := Mem.row_bits (l := l) (by omega) (r := r) (by omega) j
      rw [← hzb] at hbl
      refine cw_seq ?_
      refine cw_seq ?_
      refine cw_plain ?_
      refine pl_take (.int .i64 (((j : Nat) : Int) : Int)) rfl (by kernel_rfl) (by kernel_rfl) (by kernel_rfl) (by kernel_rfl) ?_
      refine pl_take (.slice (some ⟨gR1, 0, none⟩) rk12 rc13) rfl (by kernel_rfl) (by kernel_rfl) (by kernel_rfl) (by kernel_rfl) ?_
      refine pl_take (.int .i64 (((r : Nat) : Int) : Int)) rfl (by kernel_rfl) (by kernel_rfl) (by kernel_rfl) (by kernel_rfl) ?_
      refine pl_take (.pointer (some ⟨gR1, r, none⟩)) rfl (by kernel_rfl) (by kernel_rfl) (by kernel_rfl) (ex_index (p := .slice (some ⟨gR1, 0, none⟩) rk12 rc13) (i := .int .i64 ((r : Nat) : Int)) rfl (by kernel_rfl) (by kernel_rfl) (ix39z (k := r) (by omega))) ?_
      refine pl_take (.slice (some ⟨(fbR1 r), 0, none⟩) ((snN (Mem.rowsR l) r).length) ((fcR1 r))) rfl (by kernel_rfl) (by kernel_rfl) (by kernel_rfl) (ex_load rfl (by kernel_rfl) (ld56 ((hX17.cell qR24)))) ?_
      refine pl_take (.int .i64 ((((snN (Mem.rowsR l) r).length : Nat) : Int) : Int)) rfl (by kernel_rfl) (by kernel_rfl) (by kernel_rfl) (by kernel_rfl) ?_
      refine pl_take (.bool false) rfl (by kernel_rfl) (by kernel_rfl) (by kernel_rfl) (ev_ndec (show _ = Result.ok (Next.value (Value.bool (decide ((((j : Nat) : Int) : Int) < ((((snN (Mem.rowsR l) r).length : Nat) : Int) : Int))))) _ from by kernel_rfl) (by omega)) ?_
      refine pl_nil ?_
      refine qw_then ?_
      refine cw_clean [5, 6, 7, 8, 10, 12, 13, 14, 15, 16, 17, 18, 19, 58] (ws' := [(5, .bool true), (6, .slice a1 k1 c1), (7, .int .i64 (pk10 : Int)), (8, .slice (some ⟨gR1, 0, none⟩) rk12 rc13), (10, .int .i64 (ov18 : Int)), (12, .bool ovb), (13, .slice aS r cS), (14, .int .i64 (((r : Nat) : Int) : Int)), (15, .int .i64 (sm : Int)), (16, .int .i64 (((zb : Nat) : Int) : Int)), (17, .int .i64 (fm : Int)), (18, .int .i64 (tm : Int)), (19, .int .i64 (((j : Nat) : Int) : Int)), (58, .bool false)]) (by kernel_rfl) (fun L => ?_)
      refine cw_f (by kernel_rfl) ?_
      refine cw_exit ?_
      refine qw_then_exit ?_
      refine qw_then_exit ?_
      refine qw_block_out ?_
      refine qw_then ?_
      refine cw_seq ?_
      refine cw_seq ?_
      refine cw_plain ?_
      refine pl_take (.int .i64 (((zb : Nat) : Int) : Int)) rfl (by kernel_rfl) (by kernel_rfl) (by kernel_rfl) (by kernel_rfl) ?_
      refine pl_take (.bool false) rfl (by kernel_rfl) (by kernel_rfl) (by kernel_rfl) (ev_neq (show _ = Result.ok (Next.value (Value.bool ((((zb : Nat) : Int) : Int) == (0 : Int)))) _ from by kernel_rfl) (by omega)) ?_
      refine pl_take (.bool false) rfl (by kernel_rfl) (by kernel_rfl) (by kernel_rfl) (by kernel_rfl) ?_
      refine pl_take (.int .i64 (fm : Int)) rfl (by kernel_rfl) (by kernel_rfl) (by kernel_rfl) (by kernel_rfl) ?_
      refine pl_take (.int .i64 (tm : Int)) rfl (by kernel_rfl) (by kernel_rfl) (by kernel_rfl) (by kernel_rfl) ?_
      refine pl_take (.bool false) rfl (by kernel_rfl) (by kernel_rfl) (by kernel_rfl) (ev_ndec (show _ = Result.ok (Next.value (Value.bool (decide ((fm : Int) ≥ (tm : Int))))) _ from by kernel_rfl) (by omega)) ?_
      refine pl_take (.bool false) rfl (by kernel_rfl) (by kernel_rfl) (by kernel_rfl) (by kernel_rfl) ?_
      refine pl_nil ?_
      refine qw_then ?_
      refine cw_clean [5, 6, 7, 8, 10, 12, 13, 14, 15, 16, 125] (ws' := [(5, .bool true), (6, .slice a1 k1 c1), (7, .int .i64 (pk10 : Int)), (8, .slice (some ⟨gR1, 0, none⟩) rk12 rc13), (10, .int .i64 (ov18 : Int)), (12, .bool ovb), (13, .slice aS r cS), (14, .int .i64 (((r : Nat) : Int) : Int)), (15, .int .i64 (sm : Int)), (16, .int .i64 (((zb : Nat) : Int) : Int)), (125, .bool false)]) (by kernel_rfl) (fun L => ?_)
      refine cw_f (by kernel_rfl) ?_
      refine cw_skip ?_
      refine qw_then ?_
      refine cw_seq ?_
      refine cw_seq ?_
      refine cw_plain ?_
      refine pl_take (.int .i64 0) rfl (by kernel_rfl) (by kernel_rfl) (by kernel_rfl) (by kernel_rfl) ?_
      refine pl_nil ?_
      refine qw_then ?_
      refine cw_block ?_
      refine cw_loop [5, 6, 7, 8, 10, 12, 13, 14, 15, 16, 21] (fun ws' wr m => ∃ k : Nat, ws' = [(5, .bool true), (6, .slice a1 k1 c1), (7, .int .i64 (pk10 : Int)), (8, .slice (some ⟨gR1, 0, none⟩) rk12 rc13), (10, .int .i64 (ov18 : Int)), (12, .bool ovb), (13, .slice aS r cS), (14, .int .i64 (((r : Nat) : Int) : Int)), (15, .int .i64 (sm : Int)), (16, .int .i64 (((zb : Nat) : Int) : Int)), (21, .int .i64 (((k : Nat) : Int) : Int))] ∧ m = r - k ∧ w26.heap.size ≤ wr.heap.size ∧ Ext w wr ∧ Ext w7 wr ∧ Ext w15 wr ∧ OwnL natR w19.heap.size 3 1 (.slice aS r cS) wr (Mem.setsU l r) ∧ k ≤ r) (ws0 := [(5, .bool true), (6, .slice a1 k1 c1), (7, .int .i64 (pk10 : Int)), (8, .slice (some ⟨gR1, 0, none⟩) rk12 rc13), (10, .int .i64 (ov18 : Int)), (12, .bool ovb), (13, .slice aS r cS), (14, .int .i64 (((r : Nat) : Int) : Int)), (15, .int .i64 (sm : Int)), (16, .int .i64 (((zb : Nat) : Int) : Int)), (21, .int .i64 0)]) (by kernel_rfl) _ ⟨0, rfl, rfl, Nat.le_refl _, hE, hX9, hX17, own9, Nat.zero_le _⟩ ?_
      clear own9 hE hX9 hX17
      rintro m38 L ws w37 ⟨k, rfl, rfl, hs36, hE, hX9, hX17, own9, hk⟩
      by_cases hlt : k < r
      ·
        obtain ⟨gS, haS, _, hNS⟩ := own_nats own9 (Mem.setsU_len l r) (by omega)
        obtain rfl := haS
        have qS := hNS.2 k _ (Mem.setsU_at hlt)
        have htw := Mem.rows_two hu hlt (show r < (Mem.rowsR l).length by omega)
        rw [← hzb9] at htw
        have hX39 : Ext w37 w37 := Ext.refl _
        have hbk2 : Mem.bt l k < 4096 := by have := Mem.row_bits (l := l) (by omega) (r := k) (by omega) (snN (Mem.rowsR l) k).length; rw [List.take_length] at this; exact this
        refine cw_seq ?_
        refine cw_seq ?_
        refine cw_plain ?_
        refine pl_take (.int .i64 (((k : Nat) : Int) : Int)) rfl (by kernel_rfl) (by kernel_rfl) (by kernel_rfl) (by kernel_rfl) ?_
        refine pl_take (.slice (some ⟨gS, 0, none⟩) r cS) rfl (by kernel_rfl) (by kernel_rfl) (by kernel_rfl) (by kernel_rfl) ?_
        refine pl_take (.int .i64 (((r : Nat) : Int) : Int)) rfl (by kernel_rfl) (by kernel_rfl) (by kernel_rfl) (by kernel_rfl) ?_
        refine pl_take (.bool true) rfl (by kernel_rfl) (by kernel_rfl) (by kernel_rfl) (ev_dec (show _ = Result.ok (Next.value (Value.bool (decide ((((k : Nat) : Int) : Int) < (((r : Nat) : Int) : Int))))) _ from by kernel_rfl) (by omega)) ?_
        refine pl_nil ?_
        refine qw_then ?_
        refine cw_clean [5, 6, 7, 8, 10, 12, 13, 14, 15, 16, 21, 129] (ws' := [(5, .bool true), (6, .slice a1 k1 c1), (7, .int .i64 (pk10 : Int)), (8, .slice (some ⟨gR1, 0, none⟩) rk12 rc13), (10, .int .i64 (ov18 : Int)), (12, .bool ovb), (13, .slice (some ⟨gS, 0, none⟩) r cS), (14, .int .i64 (((r : Nat) : Int) : Int)), (15, .int .i64 (sm : Int)), (16, .int .i64 (((zb : Nat) : Int) : Int)), (21, .int .i64 (((k : Nat) : Int) : Int)), (129, .bool true)]) (by kernel_rfl) (fun L => ?_)
        refine cw_t (by kernel_rfl) ?_
        refine cw_skip ?_
        refine qw_then ?_
        refine cw_seq ?_
        refine cw_block ?_
        refine cw_seq ?_
        refine cw_draw [(some 132, [13], []), (some 133, [21], []), (some 134, [132, 133], [0, 1]), (some 135, [134], [2]), (some 136, [16], []), (some 137, [135, 136], [3, 4]), (some 138, [16], []), (some 139, [137, 138], [5, 6]), (some 140, [139], [7]), (some 141, [13, 140], [8]), (some 142, [21, 140], [8]), (some 143, [141, 142, 140], [9, 10, 8]), (some 144, [143, 140], [11, 8]), (some 145, [16, 140], [8]), (some 146, [144, 145, 140], [12, 13, 8]), (some 147, [13, 140], [8]), (some 148, [21, 140], [8]), (some 149, [147, 148, 140], [15, 16, 8]), (some 150, [149, 140], [17, 8]), (some 151, [146, 150, 140], [14, 18, 8]), (some 152, [140, 151], [8, 19])] (fun w' => Ext w37 w') (by kernel_rfl) (by kernel_rfl) (by kernel_rfl) (by kernel_rfl) ((calm_then (calm_block (calm_then (calm_then (calm_block (calm_then (calm_block (calm_then (calm_then (calm_block (calm_then calm_body)))))))))))) (Ext.drew (Ext.refl _)) (fun ops Q X40 hb hL hR hK => ?_)
        replace hE := hE.trans hb
        replace hX9 := hX9.trans hb
        replace hX17 := hX17.trans hb
        replace hX39 := hX39.trans hb
        replace own9 := own9.ext hb
        have hs41 := hb.size
        clear hb
        refine wd_take 0 (.slice (some ⟨gS, 0, none⟩) r cS) hR rfl (by kernel_rfl) rfl (by kernel_rfl) (fun w _ => by kernel_rfl) (hX39) ?_
        refine wd_take 1 (.int .i64 (((k : Nat) : Int) : Int)) hR rfl (by kernel_rfl) rfl (by kernel_rfl) (fun w _ => by kernel_rfl) (hX39) ?_
        refine wd_take 2 (.pointer (some ⟨gS, k, none⟩)) hR rfl (by kernel_rfl) rfl (by kernel_rfl) (fun w _ => ex_index (p := .slice (some ⟨gS, 0, none⟩) r cS) (i := .int .i64 ((k : Nat) : Int)) rfl (by kernel_rfl) (by kernel_rfl) (ix56z (k := k) (by omega))) (hX39) ?_
        refine wd_take 3 (.int .i64 (((Mem.bt l k : Nat) : Int) : Int)) hR rfl (by kernel_rfl) rfl (by kernel_rfl) (fun w hS => ex_load rfl (by kernel_rfl) (ld3 (hS.cell qS))) (hX39) ?_
        refine wd_take 4 (.int .i64 (((zb : Nat) : Int) : Int)) hR rfl (by kernel_rfl) rfl (by kernel_rfl) (fun w _ => by kernel_rfl) (hX39) ?_
        refine wd_take 5 (.int .i64 ((((Mem.bt l k) &&& zb : Nat) : Int) : Int)) hR rfl (by kernel_rfl) rfl (by kernel_rfl) (fun w _ => ev_int (show _ = Result.ok (Next.value (Value.int .i64 (bits .and .i64 ((Mem.bt l k : Nat) : Int) ((zb : Nat) : Int)))) _ from by kernel_rfl) (and_i64 _ _ (by omega) (by omega))) (hX39) ?_
        refine wd_take 6 (.int .i64 (((zb : Nat) : Int) : Int)) hR rfl (by kernel_rfl) rfl (by kernel_rfl) (fun w _ => by kernel_rfl) (hX39) ?_
        refine wd_take 7 (.bool false) hR rfl (by kernel_rfl) rfl (by kernel_rfl) (fun w _ => ev_neq (show _ = Result.ok (Next.value (Value.bool (((((Mem.bt l k) &&& zb : Nat) : Int) : Int) == (((zb : Nat) : Int) : Int)))) _ from by kernel_rfl) (fun h => htw.1 (Int.ofNat.inj h))) (hX39) ?_
        refine wd_take 8 (.bool false) hR rfl (by kernel_rfl) rfl (by kernel_rfl) (fun w _ => by kernel_rfl) (hX39) ?_
        refine wd_take 9 (.slice (some ⟨gS, 0, none⟩) r cS) hR rfl (by kernel_rfl) rfl (by kernel_rfl) (fun w _ => by kernel_rfl) (hX39) ?_
        refine wd_take 10 (.int .i64 (((k : Nat) : Int) : Int)) hR rfl (by kernel_rfl) rfl (by kernel_rfl) (fun w _ => by kernel_rfl) (hX39) ?_
        refine wd_take 11 (.pointer (some ⟨gS, k, none⟩)) hR rfl (by kernel_rfl) rfl (by kernel_rfl) (fun w _ => ex_index (p := .slice (some ⟨gS, 0, none⟩) r cS) (i := .int .i64 ((k : Nat) : Int)) rfl (by kernel_rfl) (by kernel_rfl) (ix56z (k := k) (by omega))) (hX39) ?_
        refine wd_take 12 (.int .i64 (((Mem.bt l k : Nat) : Int) : Int)) hR rfl (by kernel_rfl) rfl (by kernel_rfl) (fun w hS => ex_load rfl (by kernel_rfl) (ld3 (hS.cell qS))) (hX39) ?_
        refine wd_take 13 (.int .i64 (((zb : Nat) : Int) : Int)) hR rfl (by kernel_rfl) rfl (by kernel_rfl) (fun w _ => by kernel_rfl) (hX39) ?_
        refine wd_take 14 (.int .i64 ((((Mem.bt l k) &&& zb : Nat) : Int) : Int)) hR rfl (by kernel_rfl) rfl (by kernel_rfl) (fun w _ => ev_int (show _ = Result.ok (Next.value (Value.int .i64 (bits .and .i64 ((Mem.bt l k : Nat) : Int) ((zb : Nat) : Int)))) _ from by kernel_rfl) (and_i64 _ _ (by omega) (by omega))) (hX39) ?_
        refine wd_take 15 (.slice (some ⟨gS, 0, none⟩) r cS) hR rfl (by kernel_rfl) rfl (by kernel_rfl) (fun w _ => by kernel_rfl) (hX39) ?_
        refine wd_take 16 (.int .i64 (((k : Nat) : Int) : Int)) hR rfl (by kernel_rfl) rfl (by kernel_rfl) (fun w _ => by kernel_rfl) (hX39) ?_
        refine wd_take 17 (.pointer (some ⟨gS, k, none⟩)) hR rfl (by kernel_rfl) rfl (by kernel_rfl) (fun w _ => ex_index (p := .slice (some ⟨gS, 0, none⟩) r cS) (i := .int .i64 ((k : Nat) : Int)) rfl (by kernel_rfl) (by kernel_rfl) (ix56z (k := k) (by omega))) (hX39) ?_
        refine wd_take 18 (.int .i64 (((Mem.bt l k : Nat) : Int) : Int)) hR rfl (by kernel_rfl) rfl (by kernel_rfl) (fun w hS => ex_load rfl (by kernel_rfl) (ld3 (hS.cell qS))) (hX39) ?_
        refine wd_take 19 (.bool false) hR rfl (by kernel_rfl) rfl (by kernel_rfl) (fun w _ => ev_neq (show _ = Result.ok (Next.value (Value.bool (((((Mem.bt l k) &&& zb : Nat) : Int) : Int) == (((Mem.bt l k : Nat) : Int) : Int)))) _ from by kernel_rfl) (fun h => htw.2 (Int.ofNat.inj h))) (hX39) ?_
        refine wd_take 20 (.bool false) hR rfl (by kernel_rfl) rfl (by kernel_rfl) (fun w _ => by kernel_rfl) (hX39) ?_
        refine wd_end hL hR hK (by kernel_rfl) ?_
        refine qw_then ?_
        refine cw_clean [5, 6, 7, 8, 10, 12, 13, 14, 15, 16, 21, 152] (ws' := [(5, .bool true), (6, .slice a1 k1 c1), (7, .int .i64 (pk10 : Int)), (8, .slice (some ⟨gR1, 0, none⟩) rk12 rc13), (10, .int .i64 (ov18 : Int)), (12, .bool ovb), (13, .slice (some ⟨gS, 0, none⟩) r cS), (14, .int .i64 (((r : Nat) : Int) : Int)), (15, .int .i64 (sm : Int)), (16, .int .i64 (((zb : Nat) : Int) : Int)), (21, .int .i64 (((k : Nat) : Int) : Int)), (152, .bool false)]) (by kernel_rfl) (fun L => ?_)
        refine cw_f (by kernel_rfl) ?_
        refine cw_skip ?_
        refine qw_block ?_
        refine qw_then ?_
        refine cw_plain ?_
        refine pl_take (.int .i64 (((k : Nat) : Int) : Int)) rfl (by kernel_rfl) (by kernel_rfl) (by kernel_rfl) (by kernel_rfl) ?_
        refine pl_take (.int .i64 (((k + 1 : Nat) : Int) : Int)) rfl (by kernel_rfl) (by kernel_rfl) (by kernel_rfl) (ev_wrap (by kernel_rfl) (by omega) (by omega)) ?_
        refine pl_take (.int .i64 (((k + 1 : Nat) : Int) : Int)) rfl (by kernel_rfl) (by kernel_rfl) (by kernel_rfl) (by kernel_rfl) ?_
        refine pl_nil ?_
        refine qw_round [5, 6, 7, 8, 10, 12, 13, 14, 15, 16, 21] (ws' := [(5, .bool true), (6, .slice a1 k1 c1), (7, .int .i64 (pk10 : Int)), (8, .slice (some ⟨gR1, 0, none⟩) rk12 rc13), (10, .int .i64 (ov18 : Int)), (12, .bool ovb), (13, .slice (some ⟨gS, 0, none⟩) r cS), (14, .int .i64 (((r : Nat) : Int) : Int)), (15, .int .i64 (sm : Int)), (16, .int .i64 (((zb : Nat) : Int) : Int)), (21, .int .i64 (((k + 1 : Nat) : Int) : Int))]) (by kernel_rfl) _ ?_ ⟨(k + 1), rfl, rfl, (Nat.le_trans hs36 hs41), hE, hX9, hX17, own9, by omega⟩
        omega
      ·
        refine cw_seq ?_
        refine cw_seq ?_
        refine cw_plain ?_
        refine pl_take (.int .i64 (((k : Nat) : Int) : Int)) rfl (by kernel_rfl) (by kernel_rfl) (by kernel_rfl) (by kernel_rfl) ?_
        refine pl_take (.slice aS r cS) rfl (by kernel_rfl) (by kernel_rfl) (by kernel_rfl) (by kernel_rfl) ?_
        refine pl_take (.int .i64 (((r : Nat) : Int) : Int)) rfl (by kernel_rfl) (by kernel_rfl) (by kernel_rfl) (by kernel_rfl) ?_
        refine pl_take (.bool false) rfl (by kernel_rfl) (by kernel_rfl) (by kernel_rfl) (ev_ndec (show _ = Result.ok (Next.value (Value.bool (decide ((((k : Nat) : Int) : Int) < (((r : Nat) : Int) : Int))))) _ from by kernel_rfl) (by omega)) ?_
        refine pl_nil ?_
        refine qw_then ?_
        refine cw_clean [5, 6, 7, 8, 10, 12, 13, 14, 15, 16, 21, 129] (ws' := [(5, .bool true), (6, .slice a1 k1 c1), (7, .int .i64 (pk10 : Int)), (8, .slice (some ⟨gR1, 0, none⟩) rk12 rc13), (10, .int .i64 (ov18 : Int)), (12, .bool ovb), (13, .slice aS r cS), (14, .int .i64 (((r : Nat) : Int) : Int)), (15, .int .i64 (sm : Int)), (16, .int .i64 (((zb : Nat) : Int) : Int)), (21, .int .i64 (((k : Nat) : Int) : Int)), (129, .bool false)]) (by kernel_rfl) (fun L => ?_)
        refine cw_f (by kernel_rfl) ?_
        refine cw_exit ?_
        refine qw_then_exit ?_
        refine qw_then_exit ?_
        refine qw_block_out ?_
        refine qw_then ?_
        refine cw_seq ?_
        have hbk9 := (own9).lt
        refine cw_plain ?_
        refine pl_take (.slice aS r cS) rfl (by kernel_rfl) (by kernel_rfl) (by kernel_rfl) (by kernel_rfl) ?_
        refine pl_take (.int .i64 (((zb : Nat) : Int) : Int)) rfl (by kernel_rfl) (by kernel_rfl) (by kernel_rfl) (by kernel_rfl) ?_
        refine pl_step rfl (by kernel_rfl) (by kernel_rfl) (by kernel_rfl) (sn_newS (us := #[.int .i64 (((zb : Nat) : Int) : Int)]) (t := 3) (k := 1) (c := 1) (by kernel_rfl) ?_)
        intro O42 X43 hO hOs hb hbx
        have hzO42 := hO; have hyO42 := hOs; clear hO hOs
        have bO42_0 : BoxAt X43 O42 0 (.int .i64 (((zb : Nat) : Int) : Int)) := hbx 0 _ rfl
        clear hbx
        replace hE := hE.trans hb
        replace hX9 := hX9.trans hb
        replace hX17 := hX17.trans hb
        replace own9 := own9.ext hb
        have hs44 := hb.size
        clear hb
        have lt45 := bO42_0.lt
        have hbs56 := own9.base
        obtain ⟨g46, cap47, w48, hrun49, own50, hgr51, hgb52⟩ := own_app1k (P := Try.prog) (ty := 56) intT (own9) (Nat.le_trans hs21 (Nat.le_trans hs25 (Nat.le_trans hs36 hs44))) (k := r) (Mem.setsU_len l r) (O := O42) (c := 1) (x := zb) (d := [.int .i64 (((zb : Nat) : Int) : Int)]) (F := []) rfl (cells1 (bO42_0.1)) (by simp [Value.oneCell']) (⟨rfl, rfl⟩) (fun b hb => by cases hb) (by omega) (by omega)
        refine pl_step rfl (by kernel_rfl) (by kernel_rfl) (by kernel_rfl) (sn_eff (v := .slice (some ⟨g46, 0, none⟩) (r + 1) cap47) (w' := w48) (ex_append rfl (by kernel_rfl) (by kernel_rfl) hrun49) ?_)
        replace bO42_0 := BoxAt.grownR bO42_0 hgb52 (own_not2 hbk9 (Nat.le_of_eq hzO42))
        replace hE := hgr51.ext _ hE (Nat.le_trans hs6 (Nat.le_trans hs8 (Nat.le_trans hs16 hs20)))
        replace hX9 := hgr51.ext _ hX9 (Nat.le_trans hs16 hs20)
        replace hX17 := hgr51.ext _ hX17 hs20
        have hs53 := hgr51.size
        have hl54 := own50.base g46 rfl; have hh55 := own50.lt g46 rfl
        refine pl_take (.slice (some ⟨g46, 0, none⟩) (r + 1) cap47) rfl (by kernel_rfl) (by kernel_rfl) (by kernel_rfl) (by kernel_rfl) ?_
        refine pl_nil ?_
        refine qw_then ?_
        refine cw_clean [5, 6, 7, 8, 10, 12, 13, 14, 15] (ws' := [(5, .bool true), (6, .slice a1 k1 c1), (7, .int .i64 (pk10 : Int)), (8, .slice (some ⟨gR1, 0, none⟩) rk12 rc13), (10, .int .i64 (ov18 : Int)), (12, .bool ovb), (13, .slice (some ⟨g46, 0, none⟩) (r + 1) cap47), (14, .int .i64 (((r : Nat) : Int) : Int)), (15, .int .i64 (sm : Int))]) (by kernel_rfl) (fun L => ?_)
        cases ovb
        ·
          refine cw_plain ?_
          refine pl_take (.bool false) rfl (by kernel_rfl) (by kernel_rfl) (by kernel_rfl) (by kernel_rfl) ?_
          refine pl_take (.bool false) rfl (by kernel_rfl) (by kernel_rfl) (by kernel_rfl) (by kernel_rfl) ?_
          refine pl_take (.int .i64 (sm : Int)) rfl (by kernel_rfl) (by kernel_rfl) (by kernel_rfl) (by kernel_rfl) ?_
          refine pl_take (.int .i64 (pk10 : Int)) rfl (by kernel_rfl) (by kernel_rfl) (by kernel_rfl) (by kernel_rfl) ?_
          by_cases hc58 : (sm : Int) > (pk10 : Int)
          ·
            refine pl_take (.bool true) rfl (by kernel_rfl) (by kernel_rfl) (by kernel_rfl) (ev_dec (show _ = Result.ok (Next.value (Value.bool (decide ((sm : Int) > (pk10 : Int))))) _ from by kernel_rfl) (hc58)) ?_
            refine pl_take (.bool true) rfl (by kernel_rfl) (by kernel_rfl) (by kernel_rfl) (by kernel_rfl) ?_
            refine pl_take (.bool true) rfl (by kernel_rfl) (by kernel_rfl) (by kernel_rfl) (by kernel_rfl) ?_
            refine pl_nil ?_
            refine qw_block ?_
            refine qw_then ?_
            refine cw_clean [5, 6, 7, 8, 10, 12, 13, 14] (ws' := [(5, .bool true), (6, .slice a1 k1 c1), (7, .int .i64 (pk10 : Int)), (8, .slice (some ⟨gR1, 0, none⟩) rk12 rc13), (10, .int .i64 (ov18 : Int)), (12, .bool true), (13, .slice (some ⟨g46, 0, none⟩) (r + 1) cap47), (14, .int .i64 (((r : Nat) : Int) : Int))]) (by kernel_rfl) (fun L => ?_)
            refine cw_plain ?_
            refine pl_take (.int .i64 (((r : Nat) : Int) : Int)) rfl (by kernel_rfl) (by kernel_rfl) (by kernel_rfl) (by kernel_rfl) ?_
            refine pl_take (.int .i64 (((r + 1 : Nat) : Int) : Int)) rfl (by kernel_rfl) (by kernel_rfl) (by kernel_rfl) (ev_wrap (by kernel_rfl) (by omega) (by omega)) ?_
            refine pl_take (.int .i64 (((r + 1 : Nat) : Int) : Int)) rfl (by kernel_rfl) (by kernel_rfl) (by kernel_rfl) (by kernel_rfl) ?_
            refine pl_nil ?_
            refine qw_round [5, 6, 7, 8, 10, 12, 13, 14] (ws' := [(5, .bool true), (6, .slice a1 k1 c1), (7, .int .i64 (pk10 : Int)), (8, .slice (some ⟨gR1, 0, none⟩) rk12 rc13), (10, .int .i64 (ov18 : Int)), (12, .bool true), (13, .slice (some ⟨g46, 0, none⟩) (r + 1) cap47), (14, .int .i64 (((r + 1 : Nat) : Int) : Int))]) (by kernel_rfl) _ ?_ ⟨(r + 1), true, (some ⟨g46, 0, none⟩), cap47, rfl, rfl, (Nat.le_trans hs21 (Nat.le_trans hs25 (Nat.le_trans hs36 (Nat.le_trans hs44 hs53)))), hE, hX9, hX17, (by rw [Mem.setsU_next, ← hzb9]; exact own50), by omega, by rw [Mem.ovU_next, ← hov, hrs9, decide_eq_true (by omega)]; rfl⟩
            omega
          ·
            refine pl_take (.bool false) rfl (by kernel_rfl) (by kernel_rfl) (by kernel_rfl) (ev_ndec (show _ = Result.ok (Next.value (Value.bool (decide ((sm : Int) > (pk10 : Int))))) _ from by kernel_rfl) (hc58)) ?_
            refine pl_take (.bool false) rfl (by kernel_rfl) (by kernel_rfl) (by kernel_rfl) (by kernel_rfl) ?_
            refine pl_take (.bool false) rfl (by kernel_rfl) (by kernel_rfl) (by kernel_rfl) (by kernel_rfl) ?_
            refine pl_nil ?_
            refine qw_block ?_
            refine qw_then ?_
            refine cw_clean [5, 6, 7, 8, 10, 12, 13, 14] (ws' := [(5, .bool true), (6, .slice a1 k1 c1), (7, .int .i64 (pk10 : Int)), (8, .slice (some ⟨gR1, 0, none⟩) rk12 rc13), (10, .int .i64 (ov18 : Int)), (12, .bool false), (13, .slice (some ⟨g46, 0, none⟩) (r + 1) cap47), (14, .int .i64 (((r : Nat) : Int) : Int))]) (by kernel_rfl) (fun L => ?_)
            refine cw_plain ?_
            refine pl_take (.int .i64 (((r : Nat) : Int) : Int)) rfl (by kernel_rfl) (by kernel_rfl) (by kernel_rfl) (by kernel_rfl) ?_
            refine pl_take (.int .i64 (((r + 1 : Nat) : Int) : Int)) rfl (by kernel_rfl) (by kernel_rfl) (by kernel_rfl) (ev_wrap (by kernel_rfl) (by omega) (by omega)) ?_
            refine pl_take (.int .i64 (((r + 1 : Nat) : Int) : Int)) rfl (by kernel_rfl) (by kernel_rfl) (by kernel_rfl) (by kernel_rfl) ?_
            refine pl_nil ?_
            refine qw_round [5, 6, 7, 8, 10, 12, 13, 14] (ws' := [(5, .bool true), (6, .slice a1 k1 c1), (7, .int .i64 (pk10 : Int)), (8, .slice (some ⟨gR1, 0, none⟩) rk12 rc13), (10, .int .i64 (ov18 : Int)), (12, .bool false), (13, .slice (some ⟨g46, 0, none⟩) (r + 1) cap47), (14, .int .i64 (((r + 1 : Nat) : Int) : Int))]) (by kernel_rfl) _ ?_ ⟨(r + 1), false, (some ⟨g46, 0, none⟩), cap47, rfl, rfl, (Nat.le_trans hs21 (Nat.le_trans hs25 (Nat.le_trans hs36 (Nat.le_trans hs44 hs53)))), hE, hX9, hX17, (by rw [Mem.setsU_next, ← hzb9]; exact own50), by omega, by rw [Mem.ovU_next, ← hov, hrs9, decide_eq_false (by omega)]; rfl⟩
            omega
        ·
          refine cw_plain ?_
          refine pl_take (.bool true) rfl (by kernel_rfl) (by kernel_rfl) (by kernel_rfl) (by kernel_rfl) ?_
          refine pl_take (.bool true) rfl (by kernel_rfl) (by kernel_rfl) (by kernel_rfl) (by kernel_rfl) ?_
          refine pl_skip rfl (by kernel_rfl) (by kernel_rfl) (by kernel_rfl) ?_
          refine pl_skip rfl (by kernel_rfl) (by kernel_rfl) (by kernel_rfl) ?_
          refine pl_skip rfl (by kernel_rfl) (by kernel_rfl) (by kernel_rfl) ?_
          refine pl_take (.bool true) rfl (by kernel_rfl) (by kernel_rfl) (by kernel_rfl) (by kernel_rfl) ?_
          refine pl_take (.bool true) rfl (by kernel_rfl) (by kernel_rfl) (by kernel_rfl) (by kernel_rfl) ?_
          refine pl_nil ?_
          refine qw_block ?_
          refine qw_then ?_
          refine cw_clean [5, 6, 7, 8, 10, 12, 13, 14] (ws' := [(5, .bool true), (6, .slice a1 k1 c1), (7, .int .i64 (pk10 : Int)), (8, .slice (some ⟨gR1, 0, none⟩) rk12 rc13), (10, .int .i64 (ov18 : Int)), (12, .bool true), (13, .slice (some ⟨g46, 0, none⟩) (r + 1) cap47), (14, .int .i64 (((r : Nat) : Int) : Int))]) (by kernel_rfl) (fun L => ?_)
          refine cw_plain ?_
          refine pl_take (.int .i64 (((r : Nat) : Int) : Int)) rfl (by kernel_rfl) (by kernel_rfl) (by kernel_rfl) (by kernel_rfl) ?_
          refine pl_take (.int .i64 (((r + 1 : Nat) : Int) : Int)) rfl (by kernel_rfl) (by kernel_rfl) (by kernel_rfl) (ev_wrap (by kernel_rfl) (by omega) (by omega)) ?_
          refine pl_take (.int .i64 (((r + 1 : Nat) : Int) : Int)) rfl (by kernel_rfl) (by kernel_rfl) (by kernel_rfl) (by kernel_rfl) ?_
          refine pl_nil ?_
          refine qw_round [5, 6, 7, 8, 10, 12, 13, 14] (ws' := [(5, .bool true), (6, .slice a1 k1 c1), (7, .int .i64 (pk10 : Int)), (8, .slice (some ⟨gR1, 0, none⟩) rk12 rc13), (10, .int .i64 (ov18 : Int)), (12, .bool true), (13, .slice (some ⟨g46, 0, none⟩) (r + 1) cap47), (14, .int .i64 (((r + 1 : Nat) : Int) : Int))]) (by kernel_rfl) _ ?_ ⟨(r + 1), true, (some ⟨g46, 0, none⟩), cap47, rfl, rfl, (Nat.le_trans hs21 (Nat.le_trans hs25 (Nat.le_trans hs36 (Nat.le_trans hs44 hs53)))), hE, hX9, hX17, (by rw [Mem.setsU_next, ← hzb9]; exact own50), by omega, by rw [Mem.ovU_next, ← hov]; rfl⟩
          omega
  ·
    have hin2 : r = rk12 := by omega
    rw [hin2] at hov
    refine cw_seq ?_
    refine cw_seq ?_
    refine cw_plain ?_
    refine pl_take (.int .i64 (((r : Nat) : Int) : Int)) rfl (by kernel_rfl) (by kernel_rfl) (by kernel_rfl) (by kernel_rfl) ?_
    refine pl_take (.slice ra11 rk12 rc13) rfl (by kernel_rfl) (by kernel_rfl) (by kernel_rfl) (by kernel_rfl) ?_
    refine pl_take (.int .i64 (((rk12 : Nat) : Int) : Int)) rfl (by kernel_rfl) (by kernel_rfl) (by kernel_rfl) (by kernel_rfl) ?_
    refine pl_take (.bool false) rfl (by kernel_rfl) (by kernel_rfl) (by kernel_rfl) (ev_ndec (show _ = Result.ok (Next.value (Value.bool (decide ((((r : Nat) : Int) : Int) < (((rk12 : Nat) : Int) : Int))))) _ from by kernel_rfl) (by omega)) ?_
    refine pl_nil ?_
    refine qw_then ?_
    refine cw_f (by kernel_rfl) ?_
    refine cw_exit ?_
    refine qw_then_exit ?_
    refine qw_then_exit ?_
    refine qw_block_out ?_
    refine qw_then ?_
    refine cw_seq ?_
    cases ovb
    ·
      rw [← hov] at hfin
      refine cw_plain ?_
      refine pl_take (.bool true) rfl (by kernel_rfl) (by kernel_rfl) (by kernel_rfl) (by kernel_rfl) ?_
      refine pl_take (.bool true) rfl (by kernel_rfl) (by kernel_rfl) (by kernel_rfl) (by kernel_rfl) ?_
      refine pl_take (.bool false) rfl (by kernel_rfl) (by kernel_rfl) (by kernel_rfl) (by kernel_rfl) ?_
      refine pl_take (.int .i64 (ov18 : Int)) rfl (by kernel_rfl) (by kernel_rfl) (by kernel_rfl) (by kernel_rfl) ?_
      refine pl_take (.bool false) rfl (by kernel_rfl) (by kernel_rfl) (by kernel_rfl) (ev_ndec (show _ = Result.ok (Next.value (Value.bool (decide ((ov18 : Int) ≥ (0 : Int))))) _ from by kernel_rfl) (of_decide_eq_false hfin.symm)) ?_
      refine pl_take (.bool true) rfl (by kernel_rfl) (by kernel_rfl) (by kernel_rfl) (by kernel_rfl) ?_
      refine pl_take (.bool true) rfl (by kernel_rfl) (by kernel_rfl) (by kernel_rfl) (by kernel_rfl) ?_
      refine pl_take (.bool true) rfl (by kernel_rfl) (by kernel_rfl) (by kernel_rfl) (by kernel_rfl) ?_
      refine pl_nil ?_
      refine qw_then ?_
      refine cw_clean [4] (ws' := [(4, .bool true)]) (by kernel_rfl) (fun L => ?_)
      refine cw_ret ?_
      refine qw_ret [.bool true] rfl ⟨(by kernel_rfl), trivial⟩ ?_
      exact ⟨rfl, hE⟩
    ·
      rw [← hov] at hfin
      refine cw_plain ?_
      refine pl_take (.bool true) rfl (by kernel_rfl) (by kernel_rfl) (by kernel_rfl) (by kernel_rfl) ?_
      refine pl_take (.bool true) rfl (by kernel_rfl) (by kernel_rfl) (by kernel_rfl) (by kernel_rfl) ?_
      refine pl_take (.bool true) rfl (by kernel_rfl) (by kernel_rfl) (by kernel_rfl) (by kernel_rfl) ?_
      refine pl_take (.int .i64 (ov18 : Int)) rfl (by kernel_rfl) (by kernel_rfl) (by kernel_rfl) (by kernel_rfl) ?_
      refine pl_take (.bool true) rfl (by kernel_rfl) (by kernel_rfl) (by kernel_rfl) (ev_dec (show _ = Result.ok (Next.value (Value.bool (decide ((ov18 : Int) ≥ (0 : Int))))) _ from by kernel_rfl) (of_decide_eq_true hfin.symm)) ?_
      refine pl_take (.bool true) rfl (by kernel_rfl) (by kernel_rfl) (by kernel_rfl) (by kernel_rfl) ?_
      refine pl_take (.bool true) rfl (by kernel_rfl) (by kernel_rfl) (by kernel_rfl) (by kernel_rfl) ?_
      refine pl_take (.bool true) rfl (by kernel_rfl) (by kernel_rfl) (by kernel_rfl) (by kernel_rfl) ?_
      refine pl_nil ?_
      refine qw_then ?_
      refine cw_clean [4] (ws' := [(4, .bool true)]) (by kernel_rfl) (fun L => ?_)
      refine cw_ret ?_
      refine qw_ret [.bool true] rfl ⟨(by kernel_rfl), trivial⟩ ?_
      exact ⟨rfl, hE⟩

end Go.Proofs.Ytnbjjddfcondlaa

/- The statement MemoryRows: for every input the law returns true, and every argument reads as it read before; the two tables of package math/bits that the row lists are tied to the program's text. -/
namespace Go.Proofs.Ytnbjjddfcondlaa
open Go.ChangeShapes Go.WideShapes Go.ChangeAt Go.RowKit

set_option maxRecDepth 100000 in
theorem MemoryRows_lifted (os : Os) (started : os.Started) (H : Type) (enc : TypeId × Value → H) :
    ReturnsInHanded {} Try.checked os 4 .any (Rows.memoryRowsSpec.pre6 enc Try.prog Try.f4 Rows.memoryRowsRow.domain false)
      (Rows.memoryRowsSpec.post enc Try.prog Try.f4 false true false false) := by
  refine returnsInHanded_of_change_sized (C := Try.checked) own started (by kernel_rfl) Try.func4
    (ChangeSpec.witness6 (enc := enc) (C := Try.checked) false ⟨#[], #[.slice none 0 0, .int .i64 0], []⟩ 8 (by kernel_rfl) (by kernel_rfl) (by kernel_rfl) (by kernel_rfl)) ?_
  intro W base args ds gs before hval0 hW _ hsz _
  have hval : ∀ (j : Nat) t v, Try.f4.params[j]? = some t → args[j]? = some v → Value.okWide Try.prog W .any base t v := hval0
  have hW' := hW
  obtain ⟨p, q, hA0, hV, rfl, hfz, hnd⟩ := hW
  have hA : DataW.TrodAll enc Try.prog W 0 (fun _ => true) true Try.f4.params.toList args.toList ds p := hA0
  rw [Try.params4] at hA hval
  obtain ⟨v0, vs0, d0, ds0, p0, q0, hargs, rfl, rfl, h0, r0⟩ := trodAll_cons hA
  obtain ⟨v1, vs1, d1, ds1, p1, q1, rfl, rfl, rfl, h1, r1⟩ := trodAll_cons r0
  obtain ⟨rfl, rfl, rfl⟩ := trodAll_nil r1
  obtain rfl : args = #[v0, v1] := by cases args; simp_all
  obtain ⟨rfl, rfl⟩ := trodVars_none hV
  have k0 := h0
  have lt0 : ∀ x ∈ p0, x.block < W.heap.size := by obtain ⟨m, hm⟩ := k0; exact DataW.trod_lt m _ _ _ hm
  have op0 := open_tris (hval 0 _ v0 rfl rfl) h0
  obtain ⟨a1, rfl, rfl, rfl, w1⟩ := open_int Try.underlying3 (hval 1 3 v1 rfl rfl) h1
  clear hA0 hval0
  refine (MemoryRows_walk W v0 op0 a1 (isI_of_wf w1)).mono fun e W' ⟨he, hE⟩ => ?_
  subst he
  have bel : Below W.heap.size W W' := hE
  exact ⟨_, rfl, _, _, _, [], _, [], hW', trodAll_mk1 (shut_bool Try.underlying4 _), (trodAll_cons_mk (Below.trod laidOut (by kernel_rfl) (of_decide_eq_true (by kernel_rfl)) k0 bel lt0) (trodAll_cons_mk (shut_int Try.underlying3 w1) trodAll_mk0)), rfl, bel.frame _, fun h => by cases h⟩

theorem MemoryRows_over : Rows.MemoryRowsSaid :=
  OpenClaim.holds_of_wide 4 Try.f4 rfl rfl rfl rfl rfl rfl rfl ⟨rfl, rfl, rfl, rfl, rfl⟩ rfl rfl rfl rfl rfl (by kernel_rfl) Try.func4 (by kernel_rfl)
    (of_decide_eq_true (by kernel_rfl)) (by unfold Func.isWrapper; first | (rw [if_pos (by decide +kernel)]; kernel_rfl) | (rw [if_neg (by decide +kernel)]; exact ⟨rfl, rfl⟩))
    (fun os started H enc _ => MemoryRows_lifted os started H enc)

theorem MemoryRows_holds : Rows.MemoryRowsSaid := MemoryRows_over
#print axioms MemoryRows_holds
end Go.Proofs.Ytnbjjddfcondlaa
