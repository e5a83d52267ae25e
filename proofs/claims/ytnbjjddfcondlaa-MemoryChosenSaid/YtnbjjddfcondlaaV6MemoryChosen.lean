/- The statement MemoryChosen: for every input that the row lists, the law returns true, and every argument reads as it read before. -/
import Derived.Test.YtnbjjddfcondlaaV5MemoryChosen
/- The walk of MemoryChosen. -/
namespace Go.Proofs.Ytnbjjddfcondlaa
open Go.RowKit

set_option maxRecDepth 1000000 in
set_option maxHeartbeats 4000000 in
theorem MemoryChosen_walk (w : World) (v0 : Value) (op0 : Tris w v0) (i1 : Int) (hi1 : IsI i1) (i2 : Int) (hi2 : IsI i2) : Calls Try.prog 7 #[v0, .int .i64 i1, .int .i64 i2] w fun e w' => e = .returned (.bool true) ∧ Ext w w' := by
  obtain ⟨a0, n0, c0, q, rfl, hnc, hcm, hT⟩ := op0
  refine calls_cw 121 [(2, .int .i64 (i2 : Int)), (1, .int .i64 (i1 : Int)), (0, .slice a0 n0 c0)] Try.func7 rfl Try.ntmps7 (by kernel_rfl) (by kernel_rfl) (fun L => ?_)
  have hE : Ext w w := Ext.refl w
  refine cw_seq ?_
  refine cw_plain ?_
  refine pl_take (.bool false) rfl (by kernel_rfl) (by kernel_rfl) (by kernel_rfl) (by kernel_rfl) ?_
  refine pl_nil ?_
  refine qw_then ?_
  refine cw_seq ?_
  refine cw_plain ?_
  refine pl_step rfl (by kernel_rfl) (by kernel_rfl) (by kernel_rfl) (sn_call (f := 10) (args := #[]) (by kernel_rfl) ((sane_c _).mono ?_))
  rintro e w5 ⟨rfl, hb⟩
  replace hE := hE.trans hb
  have hs6 := hb.size
  clear hb
  refine ⟨_, rfl, ?_⟩
  refine pl_take (.bool true) rfl (by kernel_rfl) (by kernel_rfl) (by kernel_rfl) (by kernel_rfl) ?_
  refine pl_nil ?_
  refine qw_then ?_
  refine cw_seq ?_
  refine cw_seq ?_
  refine cw_plain ?_
  refine pl_take (.bool true) rfl (by kernel_rfl) (by kernel_rfl) (by kernel_rfl) (by kernel_rfl) ?_
  refine pl_take (.bool false) rfl (by kernel_rfl) (by kernel_rfl) (by kernel_rfl) (by kernel_rfl) ?_
  refine pl_nil ?_
  refine qw_then ?_
  refine cw_f (by kernel_rfl) ?_
  refine cw_skip ?_
  refine qw_then ?_
  refine cw_seq ?_
  refine cw_plain ?_
  refine pl_take (.slice a0 n0 c0) rfl (by kernel_rfl) (by kernel_rfl) (by kernel_rfl) (by kernel_rfl) ?_
  refine pl_step rfl (by kernel_rfl) (by kernel_rfl) (by kernel_rfl) (sn_call (f := 11) (args := #[.slice a0 n0 c0]) (by kernel_rfl) ((Made_y _ _ hT hE).mono ?_))
  rintro e w7 ⟨a1, k1, c1, l, rfl, hk12, hkc, hLm, hok, hbd, him, hb⟩
  replace hE := hE.trans hb
  have hs8 := hb.size
  clear hb
  have hll := hLm.1; have hu := Mem.okL_u hok; have hf := Mem.okL_f hok
  have hX9 : Ext w7 w7 := Ext.refl _
  obtain ⟨bs, os, ha, hbl, hx⟩ := hLm.parts
  refine ⟨_, rfl, ?_⟩
  refine pl_take (.slice a1 k1 c1) rfl (by kernel_rfl) (by kernel_rfl) (by kernel_rfl) (by kernel_rfl) ?_
  refine pl_nil ?_
  refine qw_then ?_
  refine cw_seq ?_
  refine cw_plain ?_
  refine pl_take (.int .i64 (i2 : Int)) rfl (by kernel_rfl) (by kernel_rfl) (by kernel_rfl) (by kernel_rfl) ?_
  refine pl_step rfl (by kernel_rfl) (by kernel_rfl) (by kernel_rfl) (sn_call (f := 12) (args := #[.int .i64 (i2 : Int), .int .i64 300]) (by kernel_rfl) ((pickv_c i2 300 _ hi2 (by omega) (by omega)).mono ?_))
  rintro e w' ⟨pk10, rfl, hqpk10, rfl⟩
  refine ⟨_, rfl, ?_⟩
  refine pl_take (.int .i64 (pk10 : Int)) rfl (by kernel_rfl) (by kernel_rfl) (by kernel_rfl) (by kernel_rfl) ?_
  refine pl_nil ?_
  refine qw_then ?_
  refine cw_seq ?_
  refine cw_plain ?_
  refine pl_take (.int .i64 (i1 : Int)) rfl (by kernel_rfl) (by kernel_rfl) (by kernel_rfl) (by kernel_rfl) ?_
  refine pl_step rfl (by kernel_rfl) (by kernel_rfl) (by kernel_rfl) (sn_call (f := 12) (args := #[.int .i64 (i1 : Int), .int .i64 4096]) (by kernel_rfl) ((pickvN_c i1 4096 _ hi1 (by omega) (by omega)).mono ?_))
  rintro e w' ⟨nk11, rfl, hqnk11, rfl⟩
  refine ⟨_, rfl, ?_⟩
  refine pl_take (.int .i64 (((nk11 : Nat) : Int) : Int)) rfl (by kernel_rfl) (by kernel_rfl) (by kernel_rfl) (by kernel_rfl) ?_
  refine pl_nil ?_
  refine qw_then ?_
  refine cw_clean [7, 8, 9, 10] (ws' := [(7, .bool true), (8, .slice a1 k1 c1), (9, .int .i64 (pk10 : Int)), (10, .int .i64 (((nk11 : Nat) : Int) : Int))]) (by kernel_rfl) (fun L => ?_)
  refine cw_seq ?_
  refine cw_plain ?_
  refine pl_take (.slice a1 k1 c1) rfl (by kernel_rfl) (by kernel_rfl) (by kernel_rfl) (by kernel_rfl) ?_
  refine pl_step rfl (by kernel_rfl) (by kernel_rfl) (by kernel_rfl) (sn_call (f := 15) (args := #[.slice a1 k1 c1]) (by kernel_rfl) ((Rows_y _ _ hLm (Ext.refl _) hok).mono ?_))
  rintro e w16 ⟨ra12, rk13, rc14, rfl, hRw15, hb⟩
  replace hE := hE.trans hb
  replace hX9 := hX9.trans hb
  have hs17 := hb.size
  clear hb
  have hX18 : Ext w16 w16 := Ext.refl _
  have hlR1 := hRw15.1; have hmR1 := hRw15.2.1
  obtain ⟨gR1, fbR1, fcR1, haR1, hgR1, hcR1, hnR1⟩ := hRw15.parts
  refine ⟨_, rfl, ?_⟩
  refine pl_take (.tuple #[.slice ra12 rk13 rc14, .int .i64 0]) rfl (by kernel_rfl) (by kernel_rfl) (by kernel_rfl) (by kernel_rfl) ?_
  refine pl_take (.slice ra12 rk13 rc14) rfl (by kernel_rfl) (by kernel_rfl) (by kernel_rfl) (by kernel_rfl) ?_
  refine pl_take (.int .i64 0) rfl (by kernel_rfl) (by kernel_rfl) (by kernel_rfl) (by kernel_rfl) ?_
  refine pl_take (.slice ra12 rk13 rc14) rfl (by kernel_rfl) (by kernel_rfl) (by kernel_rfl) (by kernel_rfl) ?_
  refine pl_take (.int .i64 0) rfl (by kernel_rfl) (by kernel_rfl) (by kernel_rfl) (by kernel_rfl) ?_
  refine pl_nil ?_
  refine qw_then ?_
  refine cw_seq ?_
  refine cw_plain ?_
  refine pl_take (.slice none 0 0) rfl (by kernel_rfl) (by kernel_rfl) (by kernel_rfl) (by kernel_rfl) ?_
  refine pl_nil ?_
  refine qw_then ?_
  refine cw_seq ?_
  refine cw_seq ?_
  refine cw_plain ?_
  refine pl_take (.int .i64 0) rfl (by kernel_rfl) (by kernel_rfl) (by kernel_rfl) (by kernel_rfl) ?_
  refine pl_nil ?_
  refine qw_then ?_
  refine cw_block ?_
  refine cw_loop [7, 8, 9, 10, 11, 12, 13, 14] (fun ws' wr m => ∃ i : Nat, ∃ a9 : Option Addr, ∃ k9 : Nat, ∃ c9 : Nat, ws' = [(7, .bool true), (8, .slice a1 k1 c1), (9, .int .i64 (pk10 : Int)), (10, .int .i64 (((nk11 : Nat) : Int) : Int)), (11, .slice ra12 rk13 rc14), (12, .int .i64 0), (13, .slice a9 k9 c9), (14, .int .i64 (((i : Nat) : Int) : Int))] ∧ m = k1 - i ∧ w16.heap.size ≤ wr.heap.size ∧ Ext w wr ∧ Ext w7 wr ∧ Ext w16 wr ∧ OwnL stR w16.heap.size 26 4 (.slice a9 k9 c9) wr (Mem.chosen l (Mem.bitB nk11) i) ∧ i ≤ k1 ∧ k9 ≤ i ∧ (Mem.chosen l (Mem.bitB nk11) i).length = k9) (ws0 := [(7, .bool true), (8, .slice a1 k1 c1), (9, .int .i64 (pk10 : Int)), (10, .int .i64 (((nk11 : Nat) : Int) : Int)), (11, .slice ra12 rk13 rc14), (12, .int .i64 0), (13, .slice none 0 0), (14, .int .i64 0)]) (by kernel_rfl) _ ⟨0, none, 0, 0, rfl, rfl, Nat.le_refl _, hE, hX9, hX18, OwnL.nil _ _ _ _ _, Nat.zero_le _, Nat.zero_le _, rfl⟩ ?_
  clear hE hX9 hX18
  rintro m21 L ws w20 ⟨i, a9, k9, c9, rfl, rfl, hs19, hE, hX9, hX18, own9, hi, hk9, hml9⟩
  by_cases hlt : i < k1
  ·
    obtain rfl := ha (by omega)
    obtain ⟨q22, q23, q24, q25⟩ := hx i hlt
    have hbk9 := own9.lt; have hcn := Mem.chosen_next (c := (Mem.bitB nk11)) (show i < l.length by omega)
    refine cw_seq ?_
    refine cw_seq ?_
    refine cw_plain ?_
    refine pl_take (.int .i64 (((i : Nat) : Int) : Int)) rfl (by kernel_rfl) (by kernel_rfl) (by kernel_rfl) (by kernel_rfl) ?_
    refine pl_take (.slice (some ⟨bs, os, none⟩) k1 c1) rfl (by kernel_rfl) (by kernel_rfl) (by kernel_rfl) (by kernel_rfl) ?_
    refine pl_take (.int .i64 (((k1 : Nat) : Int) : Int)) rfl (by kernel_rfl) (by kernel_rfl) (by kernel_rfl) (by kernel_rfl) ?_
    refine pl_take (.bool true) rfl (by kernel_rfl) (by kernel_rfl) (by kernel_rfl) (ev_dec (show _ = Result.ok (Next.value (Value.bool (decide ((((i : Nat) : Int) : Int) < (((k1 : Nat) : Int) : Int))))) _ from by kernel_rfl) (by omega)) ?_
    refine pl_nil ?_
    refine qw_then ?_
    refine cw_t (by kernel_rfl) ?_
    refine cw_skip ?_
    refine qw_then ?_
    refine cw_seq ?_
    refine cw_block ?_
    refine cw_seq ?_
    refine cw_plain ?_
    refine pl_take (.int .i64 (((nk11 : Nat) : Int) : Int)) rfl (by kernel_rfl) (by kernel_rfl) (by kernel_rfl) (by kernel_rfl) ?_
    refine pl_take (.int .i64 (((i : Nat) : Int) : Int)) rfl (by kernel_rfl) (by kernel_rfl) (by kernel_rfl) (by kernel_rfl) ?_
    refine pl_take (.int .i64 (((nk11 / 2 ^ i : Nat) : Int) : Int)) rfl (by kernel_rfl) (by kernel_rfl) (by kernel_rfl) (ex_bin rfl (by kernel_rfl) (by kernel_rfl) (bin_shr (by omega))) ?_
    refine pl_take (.int .i64 ((((nk11 / 2 ^ i) % 2 : Nat) : Int) : Int)) rfl (by kernel_rfl) (by kernel_rfl) (by kernel_rfl) (ex_bin (a := ((nk11 / 2 ^ i : Nat) : Int)) (b := ((2 : Nat) : Int)) rfl (by kernel_rfl) (by kernel_rfl) (bin_rem (by omega))) ?_
    by_cases hc26 : ((((nk11 / 2 ^ i) % 2 : Nat) : Int) : Int) = (1 : Int)
    ·
      refine pl_take (.bool true) rfl (by kernel_rfl) (by kernel_rfl) (by kernel_rfl) (ev_eq (show _ = Result.ok (Next.value (Value.bool (((((nk11 / 2 ^ i) % 2 : Nat) : Int) : Int) == (1 : Int)))) _ from by kernel_rfl) (hc26)) ?_
      refine pl_nil ?_
      refine qw_then ?_
      refine cw_clean [7, 8, 9, 10, 11, 12, 13, 14, 46] (ws' := [(7, .bool true), (8, .slice (some ⟨bs, os, none⟩) k1 c1), (9, .int .i64 (pk10 : Int)), (10, .int .i64 (((nk11 : Nat) : Int) : Int)), (11, .slice ra12 rk13 rc14), (12, .int .i64 0), (13, .slice a9 k9 c9), (14, .int .i64 (((i : Nat) : Int) : Int)), (46, .bool true)]) (by kernel_rfl) (fun L => ?_)
      refine cw_t (by kernel_rfl) ?_
      refine cw_plain ?_
      refine pl_take (.slice a9 k9 c9) rfl (by kernel_rfl) (by kernel_rfl) (by kernel_rfl) (by kernel_rfl) ?_
      refine pl_take (.slice (some ⟨bs, os, none⟩) k1 c1) rfl (by kernel_rfl) (by kernel_rfl) (by kernel_rfl) (by kernel_rfl) ?_
      refine pl_take (.int .i64 (((i : Nat) : Int) : Int)) rfl (by kernel_rfl) (by kernel_rfl) (by kernel_rfl) (by kernel_rfl) ?_
      refine pl_take (.pointer (some ⟨bs, os + i * 4, none⟩)) rfl (by kernel_rfl) (by kernel_rfl) (by kernel_rfl) (ex_index (p := .slice (some ⟨bs, os, none⟩) k1 c1) (i := .int .i64 ((i : Nat) : Int)) rfl (by kernel_rfl) (by kernel_rfl) (ix27 (k := i) (by omega))) ?_
      refine pl_take (.agg #[.int .i64 ((stN l i).im : Int), .int .i64 ((stN l i).un : Int), .int .i64 ((stN l i).fr : Int), .int .i64 ((stN l i).to : Int)]) rfl (by kernel_rfl) (by kernel_rfl) (by kernel_rfl) (ex_load rfl (by kernel_rfl) (ld26 ((hX9.cell q22)) ((hX9.cell q23)) ((hX9.cell q24)) ((hX9.cell q25)))) ?_
      refine pl_step rfl (by kernel_rfl) (by kernel_rfl) (by kernel_rfl) (sn_newS (us := #[.int .i64 ((stN l i).im : Int), .int .i64 ((stN l i).un : Int), .int .i64 ((stN l i).fr : Int), .int .i64 ((stN l i).to : Int)]) (t := 26) (k := 1) (c := 1) (by kernel_rfl) ?_)
      intro O27 X28 hO hOs hb hbx
      have hzO27 := hO; have hyO27 := hOs; clear hO hOs
      have bO27_0 : BoxAt X28 O27 0 (.int .i64 ((stN l i).im : Int)) := hbx 0 _ rfl
      have bO27_1 : BoxAt X28 O27 1 (.int .i64 ((stN l i).un : Int)) := hbx 1 _ rfl
      have bO27_2 : BoxAt X28 O27 2 (.int .i64 ((stN l i).fr : Int)) := hbx 2 _ rfl
      have bO27_3 : BoxAt X28 O27 3 (.int .i64 ((stN l i).to : Int)) := hbx 3 _ rfl
      clear hbx
      replace hE := hE.trans hb
      replace hX9 := hX9.trans hb
      replace hX18 := hX18.trans hb
      replace own9 := own9.ext hb
      have hs29 := hb.size
      clear hb
      have lt30 := bO27_0.lt
      have hbs41 := own9.base
      obtain ⟨g31, cap32, w33, hrun34, own35, hgr36, hgb37⟩ := own_app1k (P := Try.prog) (ty := 27) stT (own9) (Nat.le_trans hs19 hs29) (k := k9) hml9 (O := O27) (c := 1) (x := (stN l i)) (d := [.int .i64 ((stN l i).im : Int), .int .i64 ((stN l i).un : Int), .int .i64 ((stN l i).fr : Int), .int .i64 ((stN l i).to : Int)]) (F := []) rfl (cells4 (bO27_0.1) (bO27_1.1) (bO27_2.1) (bO27_3.1)) (by simp [Value.oneCell']) (⟨rfl, rfl⟩) (fun b hb => by cases hb) (by omega) (by omega)
      refine pl_step rfl (by kernel_rfl) (by kernel_rfl) (by kernel_rfl) (sn_eff (v := .slice (some ⟨g31, 0, none⟩) (k9 + 1) cap32) (w' := w33) (ex_append rfl (by kernel_rfl) (by kernel_rfl) hrun34) ?_)
      replace bO27_0 := BoxAt.grownR bO27_0 hgb37 (own_not2 hbk9 (Nat.le_of_eq hzO27))
      replace bO27_1 := BoxAt.grownR bO27_1 hgb37 (own_not2 hbk9 (Nat.le_of_eq hzO27))
      replace bO27_2 := BoxAt.grownR bO27_2 hgb37 (own_not2 hbk9 (Nat.le_of_eq hzO27))
      replace bO27_3 := BoxAt.grownR bO27_3 hgb37 (own_not2 hbk9 (Nat.le_of_eq hzO27))
      replace hE := hgr36.ext _ hE (Nat.le_trans hs6 (Nat.le_trans hs8 hs17))
      replace hX9 := hgr36.ext _ hX9 hs17
      replace hX18 := hgr36.ext _ hX18 (Nat.le_refl _)
      have hs38 := hgr36.size
      have hl39 := own35.base g31 rfl; have hh40 := own35.lt g31 rfl
      refine pl_take (.slice (some ⟨g31, 0, none⟩) (k9 + 1) cap32) rfl (by kernel_rfl) (by kernel_rfl) (by kernel_rfl) (by kernel_rfl) ?_
      refine pl_nil ?_
      refine qw_block ?_
      refine qw_then ?_
      refine cw_clean [7, 8, 9, 10, 11, 12, 13, 14] (ws' := [(7, .bool true), (8, .slice (some ⟨bs, os, none⟩) k1 c1), (9, .int .i64 (pk10 : Int)), (10, .int .i64 (((nk11 : Nat) : Int) : Int)), (11, .slice ra12 rk13 rc14), (12, .int .i64 0), (13, .slice (some ⟨g31, 0, none⟩) (k9 + 1) cap32), (14, .int .i64 (((i : Nat) : Int) : Int))]) (by kernel_rfl) (fun L => ?_)
      refine cw_plain ?_
      refine pl_take (.int .i64 (((i : Nat) : Int) : Int)) rfl (by kernel_rfl) (by kernel_rfl) (by kernel_rfl) (by kernel_rfl) ?_
      refine pl_take (.int .i64 (((i + 1 : Nat) : Int) : Int)) rfl (by kernel_rfl) (by kernel_rfl) (by kernel_rfl) (ev_wrap (by kernel_rfl) (by omega) (by omega)) ?_
      refine pl_take (.int .i64 (((i + 1 : Nat) : Int) : Int)) rfl (by kernel_rfl) (by kernel_rfl) (by kernel_rfl) (by kernel_rfl) ?_
      refine pl_nil ?_
      refine qw_round [7, 8, 9, 10, 11, 12, 13, 14] (ws' := [(7, .bool true), (8, .slice (some ⟨bs, os, none⟩) k1 c1), (9, .int .i64 (pk10 : Int)), (10, .int .i64 (((nk11 : Nat) : Int) : Int)), (11, .slice ra12 rk13 rc14), (12, .int .i64 0), (13, .slice (some ⟨g31, 0, none⟩) (k9 + 1) cap32), (14, .int .i64 (((i + 1 : Nat) : Int) : Int))]) (by kernel_rfl) _ ?_ ⟨(i + 1), (some ⟨g31, 0, none⟩), (k9 + 1), cap32, rfl, rfl, (Nat.le_trans hs19 (Nat.le_trans hs29 hs38)), hE, hX9, hX18, (by rw [hcn, show Mem.bitB nk11 i = true from decide_eq_true (by omega)]; exact own35), by omega, by omega, (by rw [hcn, show Mem.bitB nk11 i = true from decide_eq_true (by omega)]; show (_ ++ _ : List Mem.St).length = _; rw [List.length_append, hml9]; rfl)⟩
      omega
    ·
      refine pl_take (.bool false) rfl (by kernel_rfl) (by kernel_rfl) (by kernel_rfl) (ev_neq (show _ = Result.ok (Next.value (Value.bool (((((nk11 / 2 ^ i) % 2 : Nat) : Int) : Int) == (1 : Int)))) _ from by kernel_rfl) (hc26)) ?_
      refine pl_nil ?_
      refine qw_then ?_
      refine cw_clean [7, 8, 9, 10, 11, 12, 13, 14, 46] (ws' := [(7, .bool true), (8, .slice (some ⟨bs, os, none⟩) k1 c1), (9, .int .i64 (pk10 : Int)), (10, .int .i64 (((nk11 : Nat) : Int) : Int)), (11, .slice ra12 rk13 rc14), (12, .int .i64 0), (13, .slice a9 k9 c9), (14, .int .i64 (((i : Nat) : Int) : Int)), (46, .bool false)]) (by kernel_rfl) (fun L => ?_)
      refine cw_f (by kernel_rfl) ?_
      refine cw_skip ?_
      refine qw_block ?_
      refine qw_then ?_
      refine cw_plain ?_
      refine pl_take (.int .i64 (((i : Nat) : Int) : Int)) rfl (by kernel_rfl) (by kernel_rfl) (by kernel_rfl) (by kernel_rfl) ?_
      refine pl_take (.int .i64 (((i + 1 : Nat) : Int) : Int)) rfl (by kernel_rfl) (by kernel_rfl) (by kernel_rfl) (ev_wrap (by kernel_rfl) (by omega) (by omega)) ?_
      refine pl_take (.int .i64 (((i + 1 : Nat) : Int) : Int)) rfl (by kernel_rfl) (by kernel_rfl) (by kernel_rfl) (by kernel_rfl) ?_
      refine pl_nil ?_
      refine qw_round [7, 8, 9, 10, 11, 12, 13, 14] (ws' := [(7, .bool true), (8, .slice (some ⟨bs, os, none⟩) k1 c1), (9, .int .i64 (pk10 : Int)), (10, .int .i64 (((nk11 : Nat) : Int) : Int)), (11, .slice ra12 rk13 rc14), (12, .int .i64 0), (13, .slice a9 k9 c9), (14, .int .i64 (((i + 1 : Nat) : Int) : Int))]) (by kernel_rfl) _ ?_ ⟨(i + 1), a9, k9, c9, rfl, rfl, hs19, hE, hX9, hX18, (by rw [hcn, show Mem.bitB nk11 i = false from decide_eq_false (by omega)]; exact own9), by omega, by omega, (by rw [hcn, show Mem.bitB nk11 i = false from decide_eq_false (by omega)]; exact hml9)⟩
      omega
  ·
    have hin : i = l.length := by omega
    rw [hin] at hml9
    refine cw_seq ?_
    refine cw_seq ?_
    refine cw_plain ?_
    refine pl_take (.int .i64 (((i : Nat) : Int) : Int)) rfl (by kernel_rfl) (by kernel_rfl) (by kernel_rfl) (by kernel_rfl) ?_
    refine pl_take (.slice a1 k1 c1) rfl (by kernel_rfl) (by kernel_rfl) (by kernel_rfl) (by kernel_rfl) ?_
    refine pl_take (.int .i64 (((k1 : Nat) : Int) : Int)) rfl (by kernel_rfl) (by kernel_rfl) (by kernel_rfl) (by kernel_rfl) ?_
    refine pl_take (.bool false) rfl (by kernel_rfl) (by kernel_rfl) (by kernel_rfl) (ev_ndec (show _ = Result.ok (Next.value (Value.bool (decide ((((i : Nat) : Int) : Int) < (((k1 : Nat) : Int) : Int))))) _ from by kernel_rfl) (by omega)) ?_
    refine pl_nil ?_
    refine qw_then ?_
    refine cw_f (by kernel_rfl) ?_
    refine cw_exit ?_
    refine qw_then_exit ?_
    refine qw_then_exit ?_
    refine qw_block_out ?_
    refine qw_then ?_
    refine cw_seq ?_
    have hM : StsAt w20 a9 k9 (Mem.chosen l (Mem.bitB nk11) l.length) := own_sts (by rw [← hin]; exact own9) hml9 (by omega)
    have hok2 := Mem.ok_sub (Mem.chosen_sub l (Mem.bitB nk11)) hok
    have hX43 : Ext w20 w20 := Ext.refl _
    refine cw_plain ?_
    refine pl_take (.slice a9 k9 c9) rfl (by kernel_rfl) (by kernel_rfl) (by kernel_rfl) (by kernel_rfl) ?_
    refine pl_take (.int .i64 (pk10 : Int)) rfl (by kernel_rfl) (by kernel_rfl) (by kernel_rfl) (by kernel_rfl) ?_
    refine pl_step rfl (by kernel_rfl) (by kernel_rfl) (by kernel_rfl) (sn_call (f := 22) (args := #[.slice a9 k9 c9, .int .i64 (pk10 : Int)]) (by kernel_rfl) ((Over_y pk10 _ _ hM (Ext.refl _) hok2 (by omega) (by omega)).mono ?_))
    rintro e w45 ⟨ov44, rfl, hov44, hb⟩
    replace hE := hE.trans hb
    replace hX9 := hX9.trans hb
    replace hX18 := hX18.trans hb
    replace hX43 := hX43.trans hb
    have hs46 := hb.size
    clear hb
    refine ⟨_, rfl, ?_⟩
    refine pl_take (.tuple #[.int .i64 (ov44 : Int), .int .i64 0]) rfl (by kernel_rfl) (by kernel_rfl) (by kernel_rfl) (by kernel_rfl) ?_
    refine pl_take (.int .i64 (ov44 : Int)) rfl (by kernel_rfl) (by kernel_rfl) (by kernel_rfl) (by kernel_rfl) ?_
    refine pl_take (.int .i64 0) rfl (by kernel_rfl) (by kernel_rfl) (by kernel_rfl) (by kernel_rfl) ?_
    refine pl_take (.int .i64 (ov44 : Int)) rfl (by kernel_rfl) (by kernel_rfl) (by kernel_rfl) (by kernel_rfl) ?_
    refine pl_take (.int .i64 0) rfl (by kernel_rfl) (by kernel_rfl) (by kernel_rfl) (by kernel_rfl) ?_
    refine pl_nil ?_
    refine qw_then ?_
    refine cw_clean [7, 8, 9, 10, 11, 12, 15, 16] (ws' := [(7, .bool true), (8, .slice a1 k1 c1), (9, .int .i64 (pk10 : Int)), (10, .int .i64 (((nk11 : Nat) : Int) : Int)), (11, .slice ra12 rk13 rc14), (12, .int .i64 0), (15, .int .i64 (ov44 : Int)), (16, .int .i64 0)]) (by kernel_rfl) (fun L => ?_)
    refine cw_seq ?_
    refine cw_seq ?_
    have hfin := Mem.ovU_all hok (by omega) hov44; rw [hlR1] at hfin
    refine cw_plain ?_
    refine pl_take (.int .i64 0) rfl (by kernel_rfl) (by kernel_rfl) (by kernel_rfl) (by kernel_rfl) ?_
    refine pl_take (.bool false) rfl (by kernel_rfl) (by kernel_rfl) (by kernel_rfl) (by kernel_rfl) ?_
    refine pl_take (.bool false) rfl (by kernel_rfl) (by kernel_rfl) (by kernel_rfl) (by kernel_rfl) ?_
    refine pl_take (.int .i64 0) rfl (by kernel_rfl) (by kernel_rfl) (by kernel_rfl) (by kernel_rfl) ?_
    refine pl_take (.bool false) rfl (by kernel_rfl) (by kernel_rfl) (by kernel_rfl) (by kernel_rfl) ?_
    refine pl_take (.bool false) rfl (by kernel_rfl) (by kernel_rfl) (by kernel_rfl) (by kernel_rfl) ?_
    refine pl_nil ?_
    refine qw_then ?_
    refine cw_f (by kernel_rfl) ?_
    refine cw_skip ?_
    refine qw_then ?_
    refine cw_seq ?_
    refine cw_plain ?_
    refine pl_take (.bool false) rfl (by kernel_rfl) (by kernel_rfl) (by kernel_rfl) (by kernel_rfl) ?_
    refine pl_nil ?_
    refine qw_then ?_
    refine cw_clean [7, 8, 9, 10, 11, 15, 17] (ws' := [(7, .bool true), (8, .slice a1 k1 c1), (9, .int .i64 (pk10 : Int)), (10, .int .i64 (((nk11 : Nat) : Int) : Int)), (11, .slice ra12 rk13 rc14), (15, .int .i64 (ov44 : Int)), (17, .bool false)]) (by kernel_rfl) (fun L => ?_)
    refine cw_seq ?_
    refine cw_seq ?_
    refine cw_plain ?_
    refine pl_take (.int .i64 0) rfl (by kernel_rfl) (by kernel_rfl) (by kernel_rfl) (by kernel_rfl) ?_
    refine pl_nil ?_
    refine qw_then ?_
    refine cw_block ?_
    refine cw_loop [7, 8, 9, 10, 11, 15, 17, 18] (fun ws' wr m => ∃ r : Nat, ∃ ovb : Bool, ws' = [(7, .bool true), (8, .slice a1 k1 c1), (9, .int .i64 (pk10 : Int)), (10, .int .i64 (((nk11 : Nat) : Int) : Int)), (11, .slice ra12 rk13 rc14), (15, .int .i64 (ov44 : Int)), (17, .bool ovb), (18, .int .i64 (((r : Nat) : Int) : Int))] ∧ m = rk13 - r ∧ w45.heap.size ≤ wr.heap.size ∧ Ext w wr ∧ Ext w7 wr ∧ Ext w16 wr ∧ Ext w20 wr ∧ r ≤ rk13 ∧ ovb = Mem.ovU l (Mem.bitB nk11) pk10 r) (ws0 := [(7, .bool true), (8, .slice a1 k1 c1), (9, .int .i64 (pk10 : Int)), (10, .int .i64 (((nk11 : Nat) : Int) : Int)), (11, .slice ra12 rk13 rc14), (15, .int .i64 (ov44 : Int)), (17, .bool false), (18, .int .i64 0)]) (by kernel_rfl) _ ⟨0, false, rfl, rfl, Nat.le_refl _, hE, hX9, hX18, hX43, Nat.zero_le _, rfl⟩ ?_
    clear hE hX9 hX18 hX43
    rintro m49 L ws w48 ⟨r, ovb, rfl, rfl, hs47, hE, hX9, hX18, hX43, hr, hov⟩
    by_cases hlt : r < rk13
    ·
      obtain rfl := haR1 (by omega)
      have qR50 := hcR1 r (by omega)
      have hrl_r : (snN (Mem.rowsR l) r).length ≤ l.length := Mem.row_len r
      refine cw_seq ?_
      refine cw_seq ?_
      refine cw_plain ?_
      refine pl_take (.int .i64 (((r : Nat) : Int) : Int)) rfl (by kernel_rfl) (by kernel_rfl) (by kernel_rfl) (by kernel_rfl) ?_
      refine pl_take (.slice (some ⟨gR1, 0, none⟩) rk13 rc14) rfl (by kernel_rfl) (by kernel_rfl) (by kernel_rfl) (by kernel_rfl) ?_
      refine pl_take (.int .i64 (((rk13 : Nat) : Int) : Int)) rfl (by kernel_rfl) (by kernel_rfl) (by kernel_rfl) (by kernel_rfl) ?_
      refine pl_take (.bool true) rfl (by kernel_rfl) (by kernel_rfl) (by kernel_rfl) (ev_dec (show _ = Result.ok (Next.value (Value.bool (decide ((((r : Nat) : Int) : Int) < (((rk13 : Nat) : Int) : Int))))) _ from by kernel_rfl) (by omega)) ?_
      refine pl_nil ?_
      refine qw_then ?_
      refine cw_t (by kernel_rfl) ?_
      refine cw_skip ?_
      refine qw_then ?_
      refine cw_seq ?_
      refine cw_block ?_
      refine cw_seq ?_
      refine cw_plain ?_
      refine pl_take (.int .i64 0) rfl (by kernel_rfl) (by kernel_rfl) (by kernel_rfl) (by kernel_rfl) ?_
      refine pl_nil ?_
      refine qw_then ?_
      refine cw_seq ?_
      refine cw_seq ?_
      refine cw_plain ?_
      refine pl_take (.int .i64 0) rfl (by kernel_rfl) (by kernel_rfl) (by kernel_rfl) (by kernel_rfl) ?_
      refine pl_nil ?_
      refine qw_then ?_
      refine cw_block ?_
      refine cw_loop [7, 8, 9, 10, 11, 15, 17, 18, 19, 20] (fun ws' wr m => ∃ j : Nat, ∃ sm : Int, ws' = [(7, .bool true), (8, .slice a1 k1 c1), (9, .int .i64 (pk10 : Int)), (10, .int .i64 (((nk11 : Nat) : Int) : Int)), (11, .slice (some ⟨gR1, 0, none⟩) rk13 rc14), (15, .int .i64 (ov44 : Int)), (17, .bool ovb), (18, .int .i64 (((r : Nat) : Int) : Int)), (19, .int .i64 (sm : Int)), (20, .int .i64 (((j : Nat) : Int) : Int))] ∧ m = (snN (Mem.rowsR l) r).length - j ∧ w48.heap.size ≤ wr.heap.size ∧ Ext w wr ∧ Ext w7 wr ∧ Ext w16 wr ∧ Ext w20 wr ∧ j ≤ (snN (Mem.rowsR l) r).length ∧ sm = Mem.pickS l (Mem.bitB nk11) (snN (Mem.rowsR l) r) j) (ws0 := [(7, .bool true), (8, .slice a1 k1 c1), (9, .int .i64 (pk10 : Int)), (10, .int .i64 (((nk11 : Nat) : Int) : Int)), (11, .slice (some ⟨gR1, 0, none⟩) rk13 rc14), (15, .int .i64 (ov44 : Int)), (17, .bool ovb), (18, .int .i64 (((r : Nat) : Int) : Int)), (19, .int .i64 0), (20, .int .i64 0)]) (by kernel_rfl) _ ⟨0, 0, rfl, rfl, Nat.le_refl _, hE, hX9, hX18, hX43, Nat.zero_le _, rfl⟩ ?_
      clear hE hX9 hX18 hX43
      rintro m53 L ws w52 ⟨j, sm, rfl, rfl, hs51, hE, hX9, hX18, hX43, hj, hsm⟩
      by_cases hlt : j < (snN (Mem.rowsR l) r).length
      ·
        have qe54 := (hnR1 r (by omega)).2 j _ (Mem.natN_at hlt)
        have hnl55 := Mem.row_lt (l := l) (i := r) (by omega) hlt
        have hpn := Mem.pickS_next (l := l) (c := (Mem.bitB nk11)) hlt; have hpb := Mem.pickS_bd (c := (Mem.bitB nk11)) (s := (snN (Mem.rowsR l) r)) (fun x hx => (hbd x hx).1.2) j hj
        rw [← hsm] at hpb
        obtain rfl := ha (by omega)
        obtain ⟨q56, q57, q58, q59⟩ := hx (Mem.natN (snN (Mem.rowsR l) r) j) (show Mem.natN (snN (Mem.rowsR l) r) j < k1 by omega)
        have hua := Mem.unit_at hnl55; have hub := (hbd _ (stN_mem hnl55)).1.2
        refine cw_seq ?_
        refine cw_seq ?_
        refine cw_plain ?_
        refine pl_take (.int .i64 (((j : Nat) : Int) : Int)) rfl (by kernel_rfl) (by kernel_rfl) (by kernel_rfl) (by kernel_rfl) ?_
        refine pl_take (.slice (some ⟨gR1, 0, none⟩) rk13 rc14) rfl (by kernel_rfl) (by kernel_rfl) (by kernel_rfl) (by kernel_rfl) ?_
        refine pl_take (.int .i64 (((r : Nat) : Int) : Int)) rfl (by kernel_rfl) (by kernel_rfl) (by kernel_rfl) (by kernel_rfl) ?_
        refine pl_take (.pointer (some ⟨gR1, r, none⟩)) rfl (by kernel_rfl) (by kernel_rfl) (by kernel_rfl) (ex_index (p := .slice (some ⟨gR1, 0, none⟩) rk13 rc14) (i := .int .i64 ((r : Nat) : Int)) rfl (by kernel_rfl) (by kernel_rfl) (ix39z (k := r) (by omega))) ?_
        refine pl_take (.slice (some ⟨(fbR1 r), 0, none⟩) ((snN (Mem.rowsR l) r).length) ((fcR1 r))) rfl (by kernel_rfl) (by kernel_rfl) (by kernel_rfl) (ex_load rfl (by kernel_rfl) (ld56 ((hX18.cell qR50)))) ?_
        refine pl_take (.int .i64 ((((snN (Mem.rowsR l) r).length : Nat) : Int) : Int)) rfl (by kernel_rfl) (by kernel_rfl) (by kernel_rfl) (by kernel_rfl) ?_
        refine pl_take (.bool true) rfl (by kernel_rfl) (by kernel_rfl) (by kernel_rfl) (ev_dec (show _ = Result.ok (Next.value (Value.bool (decide ((((j : Nat) : Int) : Int) < ((((snN (Mem.rowsR l) r).length : Nat) : Int) : Int))))) _ from by kernel_rfl) (by omega)) ?_
        refine pl_nil ?_
        refine qw_then ?_
        refine cw_clean [7, 8, 9, 10, 11, 15, 17, 18, 19, 20, 78] (ws' := [(7, .bool true), (8, .slice (some ⟨bs, os, none⟩) k1 c1), (9, .int .i64 (pk10 : Int)), (10, .int .i64 (((nk11 : Nat) : Int) : Int)), (11, .slice (some ⟨gR1, 0, none⟩) rk13 rc14), (15, .int .i64 (ov44 : Int)), (17, .bool ovb), (18, .int .i64 (((r : Nat) : Int) : Int)), (19, .int .i64 (sm : Int)), (20, .int .i64 (((j : Nat) : Int) : Int)), (78, .bool true)]) (by kernel_rfl) (fun L => ?_)
        refine cw_t (by kernel_rfl) ?_
        refine cw_skip ?_
        refine qw_then ?_
        refine cw_seq ?_
        refine cw_block ?_
        refine cw_seq ?_
        refine cw_plain ?_
        refine pl_take (.slice (some ⟨gR1, 0, none⟩) rk13 rc14) rfl (by kernel_rfl) (by kernel_rfl) (by kernel_rfl) (by kernel_rfl) ?_
        refine pl_take (.int .i64 (((r : Nat) : Int) : Int)) rfl (by kernel_rfl) (by kernel_rfl) (by kernel_rfl) (by kernel_rfl) ?_
        refine pl_take (.pointer (some ⟨gR1, r, none⟩)) rfl (by kernel_rfl) (by kernel_rfl) (by kernel_rfl) (ex_index (p := .slice (some ⟨gR1, 0, none⟩) rk13 rc14) (i := .int .i64 ((r : Nat) : Int)) rfl (by kernel_rfl) (by kernel_rfl) (ix39z (k := r) (by omega))) ?_
        refine pl_take (.slice (some ⟨(fbR1 r), 0, none⟩) ((snN (Mem.rowsR l) r).length) ((fcR1 r))) rfl (by kernel_rfl) (by kernel_rfl) (by kernel_rfl) (ex_load rfl (by kernel_rfl) (ld56 ((hX18.cell qR50)))) ?_
        refine pl_take (.int .i64 (((j : Nat) : Int) : Int)) rfl (by kernel_rfl) (by kernel_rfl) (by kernel_rfl) (by kernel_rfl) ?_
        refine pl_take (.pointer (some ⟨(fbR1 r), j, none⟩)) rfl (by kernel_rfl) (by kernel_rfl) (by kernel_rfl) (ex_index (p := .slice (some ⟨(fbR1 r), 0, none⟩) ((snN (Mem.rowsR l) r).length) ((fcR1 r))) (i := .int .i64 ((j : Nat) : Int)) rfl (by kernel_rfl) (by kernel_rfl) (ix56z (k := j) (by omega))) ?_
        refine pl_take (.int .i64 (((Mem.natN (snN (Mem.rowsR l) r) j : Nat) : Int) : Int)) rfl (by kernel_rfl) (by kernel_rfl) (by kernel_rfl) (ex_load rfl (by kernel_rfl) (ld3 ((hX18.cell qe54)))) ?_
        refine pl_take (.int .i64 (((Mem.natN (snN (Mem.rowsR l) r) j : Nat) : Int) : Int)) rfl (by kernel_rfl) (by kernel_rfl) (by kernel_rfl) (by kernel_rfl) ?_
        refine pl_nil ?_
        refine qw_then ?_
        refine cw_clean [7, 8, 9, 10, 11, 15, 17, 18, 19, 20, 21] (ws' := [(7, .bool true), (8, .slice (some ⟨bs, os, none⟩) k1 c1), (9, .int .i64 (pk10 : Int)), (10, .int .i64 (((nk11 : Nat) : Int) : Int)), (11, .slice (some ⟨gR1, 0, none⟩) rk13 rc14), (15, .int .i64 (ov44 : Int)), (17, .bool ovb), (18, .int .i64 (((r : Nat) : Int) : Int)), (19, .int .i64 (sm : Int)), (20, .int .i64 (((j : Nat) : Int) : Int)), (21, .int .i64 (((Mem.natN (snN (Mem.rowsR l) r) j : Nat) : Int) : Int))]) (by kernel_rfl) (fun L => ?_)
        refine cw_seq ?_
        refine cw_seq ?_
        refine cw_plain ?_
        refine pl_take (.int .i64 (((Mem.natN (snN (Mem.rowsR l) r) j : Nat) : Int) : Int)) rfl (by kernel_rfl) (by kernel_rfl) (by kernel_rfl) (by kernel_rfl) ?_
        refine pl_take (.bool false) rfl (by kernel_rfl) (by kernel_rfl) (by kernel_rfl) (ev_ndec (show _ = Result.ok (Next.value (Value.bool (decide ((((Mem.natN (snN (Mem.rowsR l) r) j : Nat) : Int) : Int) < (0 : Int))))) _ from by kernel_rfl) (by omega)) ?_
        refine pl_take (.bool false) rfl (by kernel_rfl) (by kernel_rfl) (by kernel_rfl) (by kernel_rfl) ?_
        refine pl_take (.int .i64 (((Mem.natN (snN (Mem.rowsR l) r) j : Nat) : Int) : Int)) rfl (by kernel_rfl) (by kernel_rfl) (by kernel_rfl) (by kernel_rfl) ?_
        refine pl_take (.slice (some ⟨bs, os, none⟩) k1 c1) rfl (by kernel_rfl) (by kernel_rfl) (by kernel_rfl) (by kernel_rfl) ?_
        refine pl_take (.int .i64 (((k1 : Nat) : Int) : Int)) rfl (by kernel_rfl) (by kernel_rfl) (by kernel_rfl) (by kernel_rfl) ?_
        refine pl_take (.bool false) rfl (by kernel_rfl) (by kernel_rfl) (by kernel_rfl) (ev_ndec (show _ = Result.ok (Next.value (Value.bool (decide ((((Mem.natN (snN (Mem.rowsR l) r) j : Nat) : Int) : Int) ≥ (((k1 : Nat) : Int) : Int))))) _ from by kernel_rfl) (by omega)) ?_
        refine pl_take (.bool false) rfl (by kernel_rfl) (by kernel_rfl) (by kernel_rfl) (by kernel_rfl) ?_
        refine pl_nil ?_
        refine qw_then ?_
        refine cw_clean [7, 8, 9, 10, 11, 15, 17, 18, 19, 20, 21, 95] (ws' := [(7, .bool true), (8, .slice (some ⟨bs, os, none⟩) k1 c1), (9, .int .i64 (pk10 : Int)), (10, .int .i64 (((nk11 : Nat) : Int) : Int)), (11, .slice (some ⟨gR1, 0, none⟩) rk13 rc14), (15, .int .i64 (ov44 : Int)), (17, .bool ovb), (18, .int .i64 (((r : Nat) : Int) : Int)), (19, .int .i64 (sm : Int)), (20, .int .i64 (((j : Nat) : Int) : Int)), (21, .int .i64 (((Mem.natN (snN (Mem.rowsR l) r) j : Nat) : Int) : Int)), (95, .bool false)]) (by kernel_rfl) (fun L => ?_)
        refine cw_f (by kernel_rfl) ?_
        refine cw_skip ?_
        refine qw_then ?_
        refine cw_seq ?_
        by_cases hbt : nk11 / 2 ^ (Mem.natN (snN (Mem.rowsR l) r) j) % 2 = 1
        ·
          rw [show Mem.bitB nk11 (Mem.natN (snN (Mem.rowsR l) r) j) = true from decide_eq_true hbt] at hpn
          replace hpn : Mem.pickS l (Mem.bitB nk11) (snN (Mem.rowsR l) r) (j + 1) = Mem.pickS l (Mem.bitB nk11) (snN (Mem.rowsR l) r) j + Mem.unitAt l (Mem.natN (snN (Mem.rowsR l) r) j) := hpn
          rw [hua] at hpn
          refine cw_plain ?_
          refine pl_take (.int .i64 (((nk11 : Nat) : Int) : Int)) rfl (by kernel_rfl) (by kernel_rfl) (by kernel_rfl) (by kernel_rfl) ?_
          refine pl_take (.int .i64 (((Mem.natN (snN (Mem.rowsR l) r) j : Nat) : Int) : Int)) rfl (by kernel_rfl) (by kernel_rfl) (by kernel_rfl) (by kernel_rfl) ?_
          refine pl_take (.int .i64 (((nk11 / 2 ^ (Mem.natN (snN (Mem.rowsR l) r) j) : Nat) : Int) : Int)) rfl (by kernel_rfl) (by kernel_rfl) (by kernel_rfl) (ex_bin rfl (by kernel_rfl) (by kernel_rfl) (bin_shr (by omega))) ?_
          refine pl_take (.int .i64 ((((nk11 / 2 ^ (Mem.natN (snN (Mem.rowsR l) r) j)) % 2 : Nat) : Int) : Int)) rfl (by kernel_rfl) (by kernel_rfl) (by kernel_rfl) (ex_bin (a := ((nk11 / 2 ^ (Mem.natN (snN (Mem.rowsR l) r) j) : Nat) : Int)) (b := ((2 : Nat) : Int)) rfl (by kernel_rfl) (by kernel_rfl) (bin_rem (by omega))) ?_
          refine pl_take (.bool true) rfl (by kernel_rfl) (by kernel_rfl) (by kernel_rfl) (ev_eq (show _ = Result.ok (Next.value (Value.bool (((((nk11 / 2 ^ (Mem.natN (snN (Mem.rowsR l) r) j)) % 2 : Nat) : Int) : Int) == (1 : Int)))) _ from by kernel_rfl) (by omega)) ?_
          refine pl_nil ?_
          refine qw_then ?_
          refine cw_clean [7, 8, 9, 10, 11, 15, 17, 18, 19, 20, 21, 100] (ws' := [(7, .bool true), (8, .slice (some ⟨bs, os, none⟩) k1 c1), (9, .int .i64 (pk10 : Int)), (10, .int .i64 (((nk11 : Nat) : Int) : Int)), (11, .slice (some ⟨gR1, 0, none⟩) rk13 rc14), (15, .int .i64 (ov44 : Int)), (17, .bool ovb), (18, .int .i64 (((r : Nat) : Int) : Int)), (19, .int .i64 (sm : Int)), (20, .int .i64 (((j : Nat) : Int) : Int)), (21, .int .i64 (((Mem.natN (snN (Mem.rowsR l) r) j : Nat) : Int) : Int)), (100, .bool true)]) (by kernel_rfl) (fun L => ?_)
          refine cw_t (by kernel_rfl) ?_
          refine cw_plain ?_
          refine pl_take (.int .i64 (sm : Int)) rfl (by kernel_rfl) (by kernel_rfl) (by kernel_rfl) (by kernel_rfl) ?_
          refine pl_take (.slice (some ⟨bs, os, none⟩) k1 c1) rfl (by kernel_rfl) (by kernel_rfl) (by kernel_rfl) (by kernel_rfl) ?_
          refine pl_take (.int .i64 (((Mem.natN (snN (Mem.rowsR l) r) j : Nat) : Int) : Int)) rfl (by kernel_rfl) (by kernel_rfl) (by kernel_rfl) (by kernel_rfl) ?_
          refine pl_take (.pointer (some ⟨bs, os + (Mem.natN (snN (Mem.rowsR l) r) j) * 4, none⟩)) rfl (by kernel_rfl) (by kernel_rfl) (by kernel_rfl) (ex_index (p := .slice (some ⟨bs, os, none⟩) k1 c1) (i := .int .i64 ((Mem.natN (snN (Mem.rowsR l) r) j : Nat) : Int)) rfl (by kernel_rfl) (by kernel_rfl) (ix27 (k := Mem.natN (snN (Mem.rowsR l) r) j) (by omega))) ?_
          refine pl_take (.pointer (some ⟨bs, os + (Mem.natN (snN (Mem.rowsR l) r) j) * 4 + 1, none⟩)) rfl (by kernel_rfl) (by kernel_rfl) (by kernel_rfl) (by kernel_rfl) ?_
          refine pl_take (.int .i64 ((stN l (Mem.natN (snN (Mem.rowsR l) r) j)).un : Int)) rfl (by kernel_rfl) (by kernel_rfl) (by kernel_rfl) (ex_load rfl (by kernel_rfl) (ld3 ((hX9.cell q57)))) ?_
          refine pl_take (.int .i64 (sm + ((stN l (Mem.natN (snN (Mem.rowsR l) r) j)).un) : Int)) rfl (by kernel_rfl) (by kernel_rfl) (by kernel_rfl) (ev_wrap (by kernel_rfl) (by omega) (by omega)) ?_
          refine pl_take (.int .i64 (sm + ((stN l (Mem.natN (snN (Mem.rowsR l) r) j)).un) : Int)) rfl (by kernel_rfl) (by kernel_rfl) (by kernel_rfl) (by kernel_rfl) ?_
          refine pl_nil ?_
          refine qw_block ?_
          refine qw_then ?_
          refine cw_clean [7, 8, 9, 10, 11, 15, 17, 18, 19, 20] (ws' := [(7, .bool true), (8, .slice (some ⟨bs, os, none⟩) k1 c1), (9, .int .i64 (pk10 : Int)), (10, .int .i64 (((nk11 : Nat) : Int) : Int)), (11, .slice (some ⟨gR1, 0, none⟩) rk13 rc14), (15, .int .i64 (ov44 : Int)), (17, .bool ovb), (18, .int .i64 (((r : Nat) : Int) : Int)), (19, .int .i64 (sm + ((stN l (Mem.natN (snN (Mem.rowsR l) r) j)).un) : Int)), (20, .int .i64 (((j : Nat) : Int) : Int))]) (by kernel_rfl) (fun L => ?_)
          refine cw_plain ?_
          refine pl_take (.int .i64 (((j : Nat) : Int) : Int)) rfl (by kernel_rfl) (by kernel_rfl) (by kernel_rfl) (by kernel_rfl) ?_
          refine pl_take (.int .i64 (((j + 1 : Nat) : Int) : Int)) rfl (by kernel_rfl) (by kernel_rfl) (by kernel_rfl) (ev_wrap (by kernel_rfl) (by omega) (by omega)) ?_
          refine pl_take (.int .i64 (((j + 1 : Nat) : Int) : Int)) rfl (by kernel_rfl) (by kernel_rfl) (by kernel_rfl) (by kernel_rfl) ?_
          refine pl_nil ?_
          refine qw_round [7, 8, 9, 10, 11, 15, 17, 18, 19, 20] (ws' := [(7, .bool true), (8, .slice (some ⟨bs, os, none⟩) k1 c1), (9, .int .i64 (pk10 : Int)), (10, .int .i64 (((nk11 : Nat) : Int) : Int)), (11, .slice (some ⟨gR1, 0, none⟩) rk13 rc14), (15, .int .i64 (ov44 : Int)), (17, .bool ovb), (18, .int .i64 (((r : Nat) : Int) : Int)), (19, .int .i64 (sm + ((stN l (Mem.natN (snN (Mem.rowsR l) r) j)).un) : Int)), (20, .int .i64 (((j + 1 : Nat) : Int) : Int))]) (by kernel_rfl) _ ?_ ⟨(j + 1), sm + ((stN l (Mem.natN (snN (Mem.rowsR l) r) j)).un), rfl, rfl, hs51, hE, hX9, hX18, hX43, by omega, by omega⟩
          omega
        ·
          rw [show Mem.bitB nk11 (Mem.natN (snN (Mem.rowsR l) r) j) = false from decide_eq_false hbt] at hpn
          replace hpn : Mem.pickS l (Mem.bitB nk11) (snN (Mem.rowsR l) r) (j + 1) = Mem.pickS l (Mem.bitB nk11) (snN (Mem.rowsR l) r) j + 0 := hpn
          refine cw_plain ?_
          refine pl_take (.int .i64 (((nk11 : Nat) : Int) : Int)) rfl (by kernel_rfl) (by kernel_rfl) (by kernel_rfl) (by kernel_rfl) ?_
          refine pl_take (.int .i64 (((Mem.natN (snN (Mem.rowsR l) r) j : Nat) : Int) : Int)) rfl (by kernel_rfl) (by kernel_rfl) (by kernel_rfl) (by kernel_rfl) ?_
          refine pl_take (.int .i64 (((nk11 / 2 ^ (Mem.natN (snN (Mem.rowsR l) r) j) : Nat) : Int) : Int)) rfl (by kernel_rfl) (by kernel_rfl) (by kernel_rfl) (ex_bin rfl (by kernel_rfl) (by kernel_rfl) (bin_shr (by omega))) ?_
          refine pl_take (.int .i64 ((((nk11 / 2 ^ (Mem.natN (snN (Mem.rowsR l) r) j)) % 2 : Nat) : Int) : Int)) rfl (by kernel_rfl) (by kernel_rfl) (by kernel_rfl) (ex_bin (a := ((nk11 / 2 ^ (Mem.natN (snN (Mem.rowsR l) r) j) : Nat) : Int)) (b := ((2 : Nat) : Int)) rfl (by kernel_rfl) (by kernel_rfl) (bin_rem (by omega))) ?_
          refine pl_take (.bool false) rfl (by kernel_rfl) (by kernel_rfl) (by kernel_rfl) (ev_neq (show _ = Result.ok (Next.value (Value.bool (((((nk11 / 2 ^ (Mem.natN (snN (Mem.rowsR l) r) j)) % 2 : Nat) : Int) : Int) == (1 : Int)))) _ from by kernel_rfl) (by omega)) ?_
          refine pl_nil ?_
          refine qw_then ?_
          refine cw_clean [7, 8, 9, 10, 11, 15, 17, 18, 19, 20, 21, 100] (ws' := [(7, .bool true), (8, .slice (some ⟨bs, os, none⟩) k1 c1), (9, .int .i64 (pk10 : Int)), (10, .int .i64 (((nk11 : Nat) : Int) : Int)), (11, .slice (some ⟨gR1, 0, none⟩) rk13 rc14), (15, .int .i64 (ov44 : Int)), (17, .bool ovb), (18, .int .i64 (((r : Nat) : Int) : Int)), (19, .int .i64 (sm : Int)), (20, .int .i64 (((j : Nat) : Int) : Int)), (21, .int .i64 (((Mem.natN (snN (Mem.rowsR l) r) j : Nat) : Int) : Int)), (100, .bool false)]) (by kernel_rfl) (fun L => ?_)
          refine cw_f (by kernel_rfl) ?_
          refine cw_skip ?_
          refine qw_block ?_
          refine qw_then ?_
          refine cw_plain ?_
          refine pl_take (.int .i64 (((j : Nat) : Int) : Int)) rfl (by kernel_rfl) (by kernel_rfl) (by kernel_rfl) (by kernel_rfl) ?_
          refine pl_take (.int .i64 (((j + 1 : Nat) : Int) : Int)) rfl (by kernel_rfl) (by kernel_rfl) (by kernel_rfl) (ev_wrap (by kernel_rfl) (by omega) (by omega)) ?_
          refine pl_take (.int .i64 (((j + 1 : Nat) : Int) : Int)) rfl (by kernel_rfl) (by kernel_rfl) (by kernel_rfl) (by kernel_rfl) ?_
          refine pl_nil ?_
          refine qw_round [7, 8, 9, 10, 11, 15, 17, 18, 19, 20] (ws' := [(7, .bool true), (8, .slice (some ⟨bs, os, none⟩) k1 c1), (9, .int .i64 (pk10 : Int)), (10, .int .i64 (((nk11 : Nat) : Int) : Int)), (11, .slice (some ⟨gR1, 0, none⟩) rk13 rc14), (15, .int .i64 (ov44 : Int)), (17, .bool ovb), (18, .int .i64 (((r : Nat) : Int) : Int)), (19, .int .i64 (sm : Int)), (20, .int .i64 (((j + 1 : Nat) : Int) : Int))]) (by kernel_rfl) _ ?_ ⟨(j + 1), sm, rfl, rfl, hs51, hE, hX9, hX18, hX43, by omega, by omega⟩
          omega
      ·
        have hrs9 : Mem.rowS l (Mem.bitB nk11) r = sm := by rw [hsm, show j = (snN (Mem.rowsR l) r).length by omega]; rfl
        refine cw_seq ?_
        refine cw_seq ?_
        refine cw_plain ?_
        refine pl_take (.int .i64 (((j : Nat) : Int) : Int)) rfl (by kernel_rfl) (by kernel_rfl) (by kernel_rfl) (by kernel_rfl) ?_
        refine pl_take (.slice (some ⟨gR1, 0, none⟩) rk13 rc14) rfl (by kernel_rfl) (by kernel_rfl) (by kernel_rfl) (by kernel_rfl) ?_
        refine pl_take (.int .i64 (((r : Nat) : Int) : Int)) rfl (by kernel_rfl) (by kernel_rfl) (by kernel_rfl) (by kernel_rfl) ?_
        refine pl_take (.pointer (some ⟨gR1, r, none⟩)) rfl (by kernel_rfl) (by kernel_rfl) (by kernel_rfl) (ex_index (p := .slice (some ⟨gR1, 0, none⟩) rk13 rc14) (i := .int .i64 ((r : Nat) : Int)) rfl (by kernel_rfl) (by kernel_rfl) (ix39z (k := r) (by omega))) ?_
        refine pl_take (.slice (some ⟨(fbR1 r), 0, none⟩) ((snN (Mem.rowsR l) r).length) ((fcR1 r))) rfl (by kernel_rfl) (by kernel_rfl) (by kernel_rfl) (ex_load rfl (by kernel_rfl) (ld56 ((hX18.cell qR50)))) ?_
        refine pl_take (.int .i64 ((((snN (Mem.rowsR l) r).length : Nat) : Int) : Int)) rfl (by kernel_rfl) (by kernel_rfl) (by kernel_rfl) (by kernel_rfl) ?_
        refine pl_take (.bool false) rfl (by kernel_rfl) (by kernel_rfl) (by kernel_rfl) (ev_ndec (show _ = Result.ok (Next.value (Value.bool (decide ((((j : Nat) : Int) : Int) < ((((snN (Mem.rowsR l) r).length : Nat) : Int) : Int))))) _ from by kernel_rfl) (by omega)) ?_
        refine pl_nil ?_
        refine qw_then ?_
        refine cw_clean [7, 8, 9, 10, 11, 15, 17, 18, 19, 20, 78] (ws' := [(7, .bool true), (8, .slice a1 k1 c1), (9, .int .i64 (pk10 : Int)), (10, .int .i64 (((nk11 : Nat) : Int) : Int)), (11, .slice (some ⟨gR1, 0, none⟩) rk13 rc14), (15, .int .i64 (ov44 : Int)), (17, .bool ovb), (18, .int .i64 (((r : Nat) : Int) : Int)), (19, .int .i64 (sm : Int)), (20, .int .i64 (((j : Nat) : Int) : Int)), (78, .bool false)]) (by kernel_rfl) (fun L => ?_)
        refine cw_f (by kernel_rfl) ?_
        refine cw_exit ?_
        refine qw_then_exit ?_
        refine qw_then_exit ?_
        refine qw_block_out ?_
        refine qw_then ?_
        cases ovb
        ·
          refine cw_plain ?_
          refine pl_take (.bool false) rfl (by kernel_rfl) (by kernel_rfl) (by kernel_rfl) (by kernel_rfl) ?_
          refine pl_take (.bool false) rfl (by kernel_rfl) (by kernel_rfl) (by kernel_rfl) (by kernel_rfl) ?_
          refine pl_take (.int .i64 (sm : Int)) rfl (by kernel_rfl) (by kernel_rfl) (by kernel_rfl) (by kernel_rfl) ?_
          refine pl_take (.int .i64 (pk10 : Int)) rfl (by kernel_rfl) (by kernel_rfl) (by kernel_rfl) (by kernel_rfl) ?_
          by_cases hc60 : (sm : Int) > (pk10 : Int)
          ·
            refine pl_take (.bool true) rfl (by kernel_rfl) (by kernel_rfl) (by kernel_rfl) (ev_dec (show _ = Result.ok (Next.value (Value.bool (decide ((sm : Int) > (pk10 : Int))))) _ from by kernel_rfl) (hc60)) ?_
            refine pl_take (.bool true) rfl (by kernel_rfl) (by kernel_rfl) (by kernel_rfl) (by kernel_rfl) ?_
            refine pl_take (.bool true) rfl (by kernel_rfl) (by kernel_rfl) (by kernel_rfl) (by kernel_rfl) ?_
            refine pl_nil ?_
            refine qw_block ?_
            refine qw_then ?_
            refine cw_clean [7, 8, 9, 10, 11, 15, 17, 18] (ws' := [(7, .bool true), (8, .slice a1 k1 c1), (9, .int .i64 (pk10 : Int)), (10, .int .i64 (((nk11 : Nat) : Int) : Int)), (11, .slice (some ⟨gR1, 0, none⟩) rk13 rc14), (15, .int .i64 (ov44 : Int)), (17, .bool true), (18, .int .i64 (((r : Nat) : Int) : Int))]) (by kernel_rfl) (fun L => ?_)
            refine cw_plain ?_
            refine pl_take (.int .i64 (((r : Nat) : Int) : Int)) rfl (by kernel_rfl) (by kernel_rfl) (by kernel_rfl) (by kernel_rfl) ?_
            refine pl_take (.int .i64 (((r + 1 : Nat) : Int) : Int)) rfl (by kernel_rfl) (by kernel_rfl) (by kernel_rfl) (ev_wrap (by kernel_rfl) (by omega) (by omega)) ?_
            refine pl_take (.int .i64 (((r + 1 : Nat) : Int) : Int)) rfl (by kernel_rfl) (by kernel_rfl) (by kernel_rfl) (by kernel_rfl) ?_
            refine pl_nil ?_
            refine qw_round [7, 8, 9, 10, 11, 15, 17, 18] (ws' := [(7, .bool true), (8, .slice a1 k1 c1), (9, .int .i64 (pk10 : Int)), (10, .int .i64 (((nk11 : Nat) : Int) : Int)), (11, .slice (some ⟨gR1, 0, none⟩) rk13 rc14), (15, .int .i64 (ov44 : Int)), (17, .bool true), (18, .int .i64 (((r + 1 : Nat) : Int) : Int))]) (by kernel_rfl) _ ?_ ⟨(r + 1), true, rfl, rfl, (Nat.le_trans hs47 hs51), hE, hX9, hX18, hX43, by omega, by rw [Mem.ovU_next, ← hov, hrs9, decide_eq_true (by omega)]; rfl⟩
            omega
          ·
            refine pl_take (.bool false) rfl (by kernel_rfl) (by kernel_rfl) (by kernel_rfl) (ev_ndec (show _ = Result.ok (Next.value (Value.bool (decide ((sm : Int) > (pk10 : Int))))) _ from by kernel_rfl) (hc60)) ?_
            refine pl_take (.bool false) rfl (by kernel_rfl) (by kernel_rfl) (by kernel_rfl) (by kernel_rfl) ?_
            refine pl_take (.bool false) rfl (by kernel_rfl) (by kernel_rfl) (by kernel_rfl) (by kernel_rfl) ?_
            refine pl_nil ?_
            refine qw_block ?_
            refine qw_then ?_
            refine cw_clean [7, 8, 9, 10, 11, 15, 17, 18] (ws' := [(7, .bool true), (8, .slice a1 k1 c1), (9, .int .i64 (pk10 : Int)), (10, .int .i64 (((nk11 : Nat) : Int) : Int)), (11, .slice (some ⟨gR1, 0, none⟩) rk13 rc14), (15, .int .i64 (ov44 : Int)), (17, .bool false), (18, .int .i64 (((r : Nat) : Int) : Int))]) (by kernel_rfl) (fun L => ?_)
            refine cw_plain ?_
            refine pl_take (.int .i64 (((r : Nat) : Int) : Int)) rfl (by kernel_rfl) (by kernel_rfl) (by kernel_rfl) (by kernel_rfl) ?_
            refine pl_take (.int .i64 (((r + 1 : Nat) : Int) : Int)) rfl (by kernel_rfl) (by kernel_rfl) (by kernel_rfl) (ev_wrap (by kernel_rfl) (by omega) (by omega)) ?_
            refine pl_take (.int .i64 (((r + 1 : Nat) : Int) : Int)) rfl (by kernel_rfl) (by kernel_rfl) (by kernel_rfl) (by kernel_rfl) ?_
            refine pl_nil ?_
            refine qw_round [7, 8, 9, 10, 11, 15, 17, 18] (ws' := [(7, .bool true), (8, .slice a1 k1 c1), (9, .int .i64 (pk10 : Int)), (10, .int .i64 (((nk11 : Nat) : Int) : Int)), (11, .slice (some ⟨gR1, 0, none⟩) rk13 rc14), (15, .int .i64 (ov44 : Int)), (17, .bool false), (18, .int .i64 (((r + 1 : Nat) : Int) : Int))]) (by kernel_rfl) _ ?_ ⟨(r + 1), false, rfl, rfl, (Nat.le_trans hs47 hs51), hE, hX9, hX18, hX43, by omega, by rw [Mem.ovU_next, ← hov, hrs9, decide_eq_false (by omega)]; rfl⟩
            omega
        ·
          refine cw_plain ?_
          refine pl_take (.bool true) rfl (by kernel_rfl) (by kernel_rfl) (by kernel_rfl) (by kernel_rfl) ?_
          refine pl_take (.bool true) rfl (by kernel_rfl) (by kernel_rfl) (by kernel_rfl) (by kernel_rfl) ?_
          refine pl_skip rfl (by kernel_rfl) (by kernel_rfl) (by kernel_rfl) ?_
          refine pl_skip rfl (by kernel_rfl) (by kernel_rfl) (by kernel_rfl) ?_
          refine pl_skip rfl (by kernel_rfl) (by kernel_rfl) (by kernel_rfl) ?_
          refine pl_take (.bool true) rfl (by kernel_rfl) (by kernel_rfl) (by kernel_rfl) (by kernel_rfl) ?_
          refine pl_take (.bool true) rfl (by kernel_rfl) (by kernel_rfl) (by kernel_rfl) (by kernel_rfl) ?_
          refine pl_nil ?_
          refine qw_block ?_
          refine qw_then ?_
          refine cw_clean [7, 8, 9, 10, 11, 15, 17, 18] (ws' := [(7, .bool true), (8, .slice a1 k1 c1), (9, .int .i64 (pk10 : Int)), (10, .int .i64 (((nk11 : Nat) : Int) : Int)), (11, .slice (some ⟨gR1, 0, none⟩) rk13 rc14), (15, .int .i64 (ov44 : Int)), (17, .bool true), (18, .int .i64 (((r : Nat) : Int) : Int))]) (by kernel_rfl) (fun L => ?_)
          refine cw_plain ?_
          refine pl_take (.int .i64 (((r : Nat) : Int) : Int)) rfl (by kernel_rfl) (by kernel_rfl) (by kernel_rfl) (by kernel_rfl) ?_
          refine pl_take (.int .i64 (((r + 1 : Nat) : Int) : Int)) rfl (by kernel_rfl) (by kernel_rfl) (by kernel_rfl) (ev_wrap (by kernel_rfl) (by omega) (by omega)) ?_
          refine pl_take (.int .i64 (((r + 1 : Nat) : Int) : Int)) rfl (by kernel_rfl) (by kernel_rfl) (by kernel_rfl) (by kernel_rfl) ?_
          refine pl_nil ?_
          refine qw_round [7, 8, 9, 10, 11, 15, 17, 18] (ws' := [(7, .bool true), (8, .slice a1 k1 c1), (9, .int .i64 (pk10 : Int)), (10, .int .i64 (((nk11 : Nat) : Int) : Int)), (11, .slice (some ⟨gR1, 0, none⟩) rk13 rc14), (15, .int .i64 (ov44 : Int)), (17, .bool true), (18, .int .i64 (((r + 1 : Nat) : Int) : Int))]) (by kernel_rfl) _ ?_ ⟨(r + 1), true, rfl, rfl, (Nat.le_trans hs47 hs51), hE, hX9, hX18, hX43, by omega, by rw [Mem.ovU_next, ← hov]; rfl⟩
          omega
    ·
      have hin2 : r = rk13 := by omega
      rw [hin2] at hov
      refine cw_seq ?_
      refine cw_seq ?_
      refine cw_plain ?_
      refine pl_take (.int .i64 (((r : Nat) : Int) : Int)) rfl (by kernel_rfl) (by kernel_rfl) (by kernel_rfl) (by kernel_rfl) ?_
      refine pl_take (.slice ra12 rk13 rc14) rfl (by kernel_rfl) (by kernel_rfl) (by kernel_rfl) (by kernel_rfl) ?_
      refine pl_take (.int .i64 (((rk13 : Nat) : Int) : Int)) rfl (by kernel_rfl) (by kernel_rfl) (by kernel_rfl) (by kernel_rfl) ?_
      refine pl_take (.bool false) rfl (by kernel_rfl) (by kernel_rfl) (by kernel_rfl) (ev_ndec (show _ = Result.ok (Next.value (Value.bool (decide ((((r : Nat) : Int) : Int) < (((rk13 : Nat) : Int) : Int))))) _ from by kernel_rfl) (by omega)) ?_
      refine pl_nil ?_
      refine qw_then ?_
      refine cw_f (by kernel_rfl) ?_
      refine cw_exit ?_
      refine qw_then_exit ?_
      refine qw_then_exit ?_
      refine qw_block_out ?_
      refine qw_then ?_
      refine cw_seq ?_
      cases ovb
      ·
        rw [← hov] at hfin
        refine cw_plain ?_
        refine pl_take (.bool true) rfl (by kernel_rfl) (by kernel_rfl) (by kernel_rfl) (by kernel_rfl) ?_
        refine pl_take (.bool true) rfl (by kernel_rfl) (by kernel_rfl) (by kernel_rfl) (by kernel_rfl) ?_
        refine pl_take (.bool false) rfl (by kernel_rfl) (by kernel_rfl) (by kernel_rfl) (by kernel_rfl) ?_
        refine pl_take (.int .i64 (ov44 : Int)) rfl (by kernel_rfl) (by kernel_rfl) (by kernel_rfl) (by kernel_rfl) ?_
        refine pl_take (.bool false) rfl (by kernel_rfl) (by kernel_rfl) (by kernel_rfl) (ev_ndec (show _ = Result.ok (Next.value (Value.bool (decide ((ov44 : Int) ≥ (0 : Int))))) _ from by kernel_rfl) (of_decide_eq_false hfin.symm)) ?_
        refine pl_take (.bool true) rfl (by kernel_rfl) (by kernel_rfl) (by kernel_rfl) (by kernel_rfl) ?_
        refine pl_take (.bool true) rfl (by kernel_rfl) (by kernel_rfl) (by kernel_rfl) (by kernel_rfl) ?_
        refine pl_take (.bool true) rfl (by kernel_rfl) (by kernel_rfl) (by kernel_rfl) (by kernel_rfl) ?_
        refine pl_nil ?_
        refine qw_then ?_
        refine cw_clean [6] (ws' := [(6, .bool true)]) (by kernel_rfl) (fun L => ?_)
        refine cw_ret ?_
        refine qw_ret [.bool true] rfl ⟨(by kernel_rfl), trivial⟩ ?_
        exact ⟨rfl, hE⟩
      ·
        rw [← hov] at hfin
        refine cw_plain ?_
        refine pl_take (.bool true) rfl (by kernel_rfl) (by kernel_rfl) (by kernel_rfl) (by kernel_rfl) ?_
        refine pl_take (.bool true) rfl (by kernel_rfl) (by kernel_rfl) (by kernel_rfl) (by kernel_rfl) ?_
        refine pl_take (.bool true) rfl (by kernel_rfl) (by kernel_rfl) (by kernel_rfl) (by kernel_rfl) ?_
        refine pl_take (.int .i64 (ov44 : Int)) rfl (by kernel_rfl) (by kernel_rfl) (by kernel_rfl) (by kernel_rfl) ?_
        refine pl_take (.bool true) rfl (by kernel_rfl) (by kernel_rfl) (by kernel_rfl) (ev_dec (show _ = Result.ok (Next.value (Value.bool (decide ((ov44 : Int) ≥ (0 : Int))))) _ from by kernel_rfl) (of_decide_eq_true hfin.symm)) ?_
        refine pl_take (.bool true) rfl (by kernel_rfl) (by kernel_rfl) (by kernel_rfl) (by kernel_rfl) ?_
        refine pl_take (.bool true) rfl (by kernel_rfl) (by kernel_rfl) (by kernel_rfl) (by kernel_rfl) ?_
        refine pl_take (.bool true) rfl (by kernel_rfl) (by kernel_rfl) (by kernel_rfl) (by kernel_rfl) ?_
        refine pl_nil ?_
        refine qw_then ?_
        refine cw_clean [6] (ws' := [(6, .bool true)]) (by kernel_rfl) (fun L => ?_)
        refine cw_ret ?_
        refine qw_ret [.bool true] rfl ⟨(by kernel_rfl), trivial⟩ ?_
        exact ⟨rfl, hE⟩

end Go.Proofs.Ytnbjjddfcondlaa

/- The statement MemoryChosen: for every input the law returns true, and every argument reads as it read before; the two tables of package math/bits that the row lists are tied to the program's text. -/
namespace Go.Proofs.Ytnbjjddfcondlaa
open Go.ChangeShapes Go.WideShapes Go.ChangeAt Go.RowKit

set_option maxRecDepth 100000 in
theorem MemoryChosen_lifted (os : Os) (started : os.Started) (H : Type) (enc : TypeId × Value → H) :
    ReturnsInHanded {} Try.checked os 7 .any (Rows.memoryChosenSpec.pre6 enc Try.prog Try.f7 Rows.memoryChosenRow.domain false)
      (Rows.memoryChosenSpec.post enc Try.prog Try.f7 false true false false) := by
  refine returnsInHanded_of_change_sized (C := Try.checked) own started (by kernel_rfl) Try.func7
    (ChangeSpec.witness6 (enc := enc) (C := Try.checked) false ⟨#[], #[.slice none 0 0, .int .i64 0, .int .i64 0], []⟩ 8 (by kernel_rfl) (by kernel_rfl) (by kernel_rfl) (by kernel_rfl)) ?_
  intro W base args ds gs before hval0 hW _ hsz _
  have hval : ∀ (j : Nat) t v, Try.f7.params[j]? = some t → args[j]? = some v → Value.okWide Try.prog W .any base t v := hval0
  have hW' := hW
  obtain ⟨p, q, hA0, hV, rfl, hfz, hnd⟩ := hW
  have hA : DataW.TrodAll enc Try.prog W 0 (fun _ => true) true Try.f7.params.toList args.toList ds p := hA0
  rw [Try.params7] at hA hval
  obtain ⟨v0, vs0, d0, ds0, p0, q0, hargs, rfl, rfl, h0, r0⟩ := trodAll_cons hA
  obtain ⟨v1, vs1, d1, ds1, p1, q1, rfl, rfl, rfl, h1, r1⟩ := trodAll_cons r0
  obtain ⟨v2, vs2, d2, ds2, p2, q2, rfl, rfl, rfl, h2, r2⟩ := trodAll_cons r1
  obtain ⟨rfl, rfl, rfl⟩ := trodAll_nil r2
  obtain rfl : args = #[v0, v1, v2] := by cases args; simp_all
  obtain ⟨rfl, rfl⟩ := trodVars_none hV
  have k0 := h0
  have lt0 : ∀ x ∈ p0, x.block < W.heap.size := by obtain ⟨m, hm⟩ := k0; exact DataW.trod_lt m _ _ _ hm
  have op0 := open_tris (hval 0 _ v0 rfl rfl) h0
  obtain ⟨a1, rfl, rfl, rfl, w1⟩ := open_int Try.underlying3 (hval 1 3 v1 rfl rfl) h1
  obtain ⟨a2, rfl, rfl, rfl, w2⟩ := open_int Try.underlying3 (hval 2 3 v2 rfl rfl) h2
  clear hA0 hval0
  refine (MemoryChosen_walk W v0 op0 a1 (isI_of_wf w1) a2 (isI_of_wf w2)).mono fun e W' ⟨he, hE⟩ => ?_
  subst he
  have bel : Below W.heap.size W W' := hE
  exact ⟨_, rfl, _, _, _, [], _, [], hW', trodAll_mk1 (shut_bool Try.underlying4 _), (trodAll_cons_mk (Below.trod laidOut (by kernel_rfl) (of_decide_eq_true (by kernel_rfl)) k0 bel lt0) (trodAll_cons_mk (shut_int Try.underlying3 w1) (trodAll_cons_mk (shut_int Try.underlying3 w2) trodAll_mk0))), rfl, bel.frame _, fun h => by cases h⟩

theorem MemoryChosen_over : Rows.MemoryChosenSaid :=
  OpenClaim.holds_of_wide 7 Try.f7 rfl rfl rfl rfl rfl rfl rfl ⟨rfl, rfl, rfl, rfl, rfl⟩ rfl rfl rfl rfl rfl (by kernel_rfl) Try.func7 (by kernel_rfl)
    (of_decide_eq_true (by kernel_rfl)) (by unfold Func.isWrapper; first | (rw [if_pos (by decide +kernel)]; kernel_rfl) | (rw [if_neg (by decide +kernel)]; exact ⟨rfl, rfl⟩))
    (fun os started H enc _ => MemoryChosen_lifted os started H enc)

theorem MemoryChosen_holds : Rows.MemoryChosenSaid := MemoryChosen_over
#print axioms MemoryChosen_holds
end Go.Proofs.Ytnbjjddfcondlaa
