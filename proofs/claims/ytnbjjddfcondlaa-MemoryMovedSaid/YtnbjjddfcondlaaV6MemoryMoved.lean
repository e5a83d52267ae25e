/- The statement MemoryMoved: for every input that the row lists, the law returns true, and every argument reads as it read before. -/
import Derived.Test.YtnbjjddfcondlaaV5MemoryMoved
/- The walk of MemoryMoved. -/
namespace Go.Proofs.Ytnbjjddfcondlaa
open Go.RowKit

set_option maxRecDepth 1000000 in
set_option maxHeartbeats 4000000 in
theorem MemoryMoved_walk (w : World) (v0 : Value) (op0 : Tris w v0) (i1 : Int) (hi1 : IsI i1) (i2 : Int) (hi2 : IsI i2) (i3 : Int) (hi3 : IsI i3) (i4 : Int) (hi4 : IsI i4) : Calls Try.prog 9 #[v0, .int .i64 i1, .int .i64 i2, .int .i64 i3, .int .i64 i4] w fun e w' => e = .returned (.bool true) ∧ Ext w w' := by
  obtain ⟨a0, n0, c0, q, rfl, hnc, hcm, hT⟩ := op0
  refine calls_cw 308 [(4, .int .i64 (i4 : Int)), (3, .int .i64 (i3 : Int)), (2, .int .i64 (i2 : Int)), (1, .int .i64 (i1 : Int)), (0, .slice a0 n0 c0)] Try.func9 rfl Try.ntmps9 (by kernel_rfl) (by kernel_rfl) (fun L => ?_)
  have hE : Ext w w := Ext.refl w
  refine cw_seq ?_
  refine cw_plain ?_
  refine pl_take (.bool false) rfl (by kernel_rfl) (by kernel_rfl) (by kernel_rfl) (by kernel_rfl) ?_
  refine pl_nil ?_
  refine qw_then ?_
  refine cw_seq ?_
  refine cw_plain ?_
  refine pl_step rfl (by kernel_rfl) (by kernel_rfl) (by kernel_rfl) (sn_call (f := 10) (args := #[]) (by kernel_rfl) ((sane_c _).mono ?_))
  rintro e w5 ⟨rfl, hb⟩
  replace hE := hE.trans hb
  have hs6 := hb.size
  clear hb
  refine ⟨_, rfl, ?_⟩
  refine pl_take (.bool true) rfl (by kernel_rfl) (by kernel_rfl) (by kernel_rfl) (by kernel_rfl) ?_
  refine pl_nil ?_
  refine qw_then ?_
  refine cw_seq ?_
  refine cw_seq ?_
  refine cw_plain ?_
  refine pl_take (.bool true) rfl (by kernel_rfl) (by kernel_rfl) (by kernel_rfl) (by kernel_rfl) ?_
  refine pl_take (.bool false) rfl (by kernel_rfl) (by kernel_rfl) (by kernel_rfl) (by kernel_rfl) ?_
  refine pl_nil ?_
  refine qw_then ?_
  refine cw_f (by kernel_rfl) ?_
  refine cw_skip ?_
  refine qw_then ?_
  refine cw_seq ?_
  refine cw_plain ?_
  refine pl_take (.slice a0 n0 c0) rfl (by kernel_rfl) (by kernel_rfl) (by kernel_rfl) (by kernel_rfl) ?_
  refine pl_step rfl (by kernel_rfl) (by kernel_rfl) (by kernel_rfl) (sn_call (f := 11) (args := #[.slice a0 n0 c0]) (by kernel_rfl) ((Made_y _ _ hT hE).mono ?_))
  rintro e w7 ⟨a1, k1, c1, l, rfl, hk12, hkc, hLm, hok, hbd, him, hb⟩
  replace hE := hE.trans hb
  have hs8 := hb.size
  clear hb
  have hll := hLm.1; have hu := Mem.okL_u hok; have hf := Mem.okL_f hok
  have hX9 : Ext w7 w7 := Ext.refl _
  obtain ⟨bs, os, ha, hbl, hx⟩ := hLm.parts
  refine ⟨_, rfl, ?_⟩
  refine pl_take (.slice a1 k1 c1) rfl (by kernel_rfl) (by kernel_rfl) (by kernel_rfl) (by kernel_rfl) ?_
  refine pl_nil ?_
  refine qw_then ?_
  refine cw_seq ?_
  refine cw_plain ?_
  refine pl_take (.int .i64 (i1 : Int)) rfl (by kernel_rfl) (by kernel_rfl) (by kernel_rfl) (by kernel_rfl) ?_
  refine pl_take (.slice a1 k1 c1) rfl (by kernel_rfl) (by kernel_rfl) (by kernel_rfl) (by kernel_rfl) ?_
  refine pl_take (.int .i64 (((k1 : Nat) : Int) : Int)) rfl (by kernel_rfl) (by kernel_rfl) (by kernel_rfl) (by kernel_rfl) ?_
  refine pl_take (.int .i64 (((k1 + 1 : Nat) : Int) : Int)) rfl (by kernel_rfl) (by kernel_rfl) (by kernel_rfl) (ev_wrap (by kernel_rfl) (by omega) (by omega)) ?_
  refine pl_step rfl (by kernel_rfl) (by kernel_rfl) (by kernel_rfl) (sn_call (f := 12) (args := #[.int .i64 (i1 : Int), .int .i64 (((k1 + 1 : Nat) : Int) : Int)]) (by kernel_rfl) ((pickvN_c i1 (k1 + 1) _ hi1 (by omega) (by omega)).mono ?_))
  rintro e w' ⟨nk10, rfl, hqnk10, rfl⟩
  refine ⟨_, rfl, ?_⟩
  refine pl_take (.int .i64 (((nk10 : Nat) : Int) : Int)) rfl (by kernel_rfl) (by kernel_rfl) (by kernel_rfl) (by kernel_rfl) ?_
  refine pl_nil ?_
  refine qw_then ?_
  refine cw_clean [2, 3, 4, 11, 12, 13] (ws' := [(2, .int .i64 (i2 : Int)), (3, .int .i64 (i3 : Int)), (4, .int .i64 (i4 : Int)), (11, .bool true), (12, .slice a1 k1 c1), (13, .int .i64 (((nk10 : Nat) : Int) : Int))]) (by kernel_rfl) (fun L => ?_)
  refine cw_seq ?_
  refine cw_plain ?_
  refine pl_take (.int .i64 (i2 : Int)) rfl (by kernel_rfl) (by kernel_rfl) (by kernel_rfl) (by kernel_rfl) ?_
  refine pl_step rfl (by kernel_rfl) (by kernel_rfl) (by kernel_rfl) (sn_call (f := 12) (args := #[.int .i64 (i2 : Int), .int .i64 5000]) (by kernel_rfl) ((pickv_c i2 5000 _ hi2 (by omega) (by omega)).mono ?_))
  rintro e w' ⟨pk11, rfl, hqpk11, rfl⟩
  refine ⟨_, rfl, ?_⟩
  refine pl_take (.int .i64 (pk11 : Int)) rfl (by kernel_rfl) (by kernel_rfl) (by kernel_rfl) (by kernel_rfl) ?_
  refine pl_nil ?_
  refine qw_then ?_
  refine cw_seq ?_
  refine cw_plain ?_
  refine pl_take (.int .i64 (i4 : Int)) rfl (by kernel_rfl) (by kernel_rfl) (by kernel_rfl) (by kernel_rfl) ?_
  refine pl_step rfl (by kernel_rfl) (by kernel_rfl) (by kernel_rfl) (sn_call (f := 12) (args := #[.int .i64 (i4 : Int), .int .i64 170]) (by kernel_rfl) ((pickv_c i4 170 _ hi4 (by omega) (by omega)).mono ?_))
  rintro e w' ⟨pk12, rfl, hqpk12, rfl⟩
  refine ⟨_, rfl, ?_⟩
  refine pl_take (.int .i64 (pk12 : Int)) rfl (by kernel_rfl) (by kernel_rfl) (by kernel_rfl) (by kernel_rfl) ?_
  refine pl_nil ?_
  refine qw_then ?_
  refine cw_seq ?_
  refine cw_plain ?_
  refine pl_take (.int .i64 (i3 : Int)) rfl (by kernel_rfl) (by kernel_rfl) (by kernel_rfl) (by kernel_rfl) ?_
  refine pl_step rfl (by kernel_rfl) (by kernel_rfl) (by kernel_rfl) (sn_call (f := 12) (args := #[.int .i64 (i3 : Int), .int .i64 300]) (by kernel_rfl) ((pickv_c i3 300 _ hi3 (by omega) (by omega)).mono ?_))
  rintro e w' ⟨pk13, rfl, hqpk13, rfl⟩
  refine ⟨_, rfl, ?_⟩
  refine pl_take (.int .i64 (pk13 : Int)) rfl (by kernel_rfl) (by kernel_rfl) (by kernel_rfl) (by kernel_rfl) ?_
  refine pl_nil ?_
  refine qw_then ?_
  refine cw_clean [11, 12, 13, 14, 15, 16] (ws' := [(11, .bool true), (12, .slice a1 k1 c1), (13, .int .i64 (((nk10 : Nat) : Int) : Int)), (14, .int .i64 (pk11 : Int)), (15, .int .i64 (pk12 : Int)), (16, .int .i64 (pk13 : Int))]) (by kernel_rfl) (fun L => ?_)
  refine cw_seq ?_
  refine cw_plain ?_
  refine pl_take (.slice none 0 0) rfl (by kernel_rfl) (by kernel_rfl) (by kernel_rfl) (by kernel_rfl) ?_
  refine pl_nil ?_
  refine qw_then ?_
  refine cw_seq ?_
  refine cw_seq ?_
  refine cw_plain ?_
  refine pl_take (.int .i64 0) rfl (by kernel_rfl) (by kernel_rfl) (by kernel_rfl) (by kernel_rfl) ?_
  refine pl_nil ?_
  refine qw_then ?_
  refine cw_block ?_
  refine cw_loop [11, 12, 13, 14, 15, 16, 17, 18] (fun ws' wr m => ∃ i : Nat, ∃ a9 : Option Addr, ∃ c9 : Nat, ws' = [(11, .bool true), (12, .slice a1 k1 c1), (13, .int .i64 (((nk10 : Nat) : Int) : Int)), (14, .int .i64 (pk11 : Int)), (15, .int .i64 (pk12 : Int)), (16, .int .i64 (pk13 : Int)), (17, .slice a9 i c9), (18, .int .i64 (((i : Nat) : Int) : Int))] ∧ m = k1 - i ∧ w7.heap.size ≤ wr.heap.size ∧ Ext w wr ∧ Ext w7 wr ∧ OwnL stR w7.heap.size 26 4 (.slice a9 i c9) wr (Mem.mvL l k1 nk10 pk11 i) ∧ i ≤ k1) (ws0 := [(11, .bool true), (12, .slice a1 k1 c1), (13, .int .i64 (((nk10 : Nat) : Int) : Int)), (14, .int .i64 (pk11 : Int)), (15, .int .i64 (pk12 : Int)), (16, .int .i64 (pk13 : Int)), (17, .slice none 0 0), (18, .int .i64 0)]) (by kernel_rfl) _ ⟨0, none, 0, rfl, rfl, Nat.le_refl _, hE, hX9, OwnL.nil _ _ _ _ _, Nat.zero_le _⟩ ?_
  clear hE hX9
  rintro m16 L ws w15 ⟨i, a9, c9, rfl, rfl, hs14, hE, hX9, own9, hi⟩
  by_cases hlt : i < k1
  ·
    have hmd : (i + nk10) % k1 < k1 := Nat.mod_lt _ (by omega)
    have hbk9 := own9.lt
    have hbx := hbd _ (stN_mem (show (i + nk10) % k1 < l.length by omega))
    obtain rfl := ha (by omega)
    obtain ⟨q17, q18, q19, q20⟩ := hx ((i + nk10) % k1) hmd
    refine cw_seq ?_
    refine cw_seq ?_
    refine cw_plain ?_
    refine pl_take (.int .i64 (((i : Nat) : Int) : Int)) rfl (by kernel_rfl) (by kernel_rfl) (by kernel_rfl) (by kernel_rfl) ?_
    refine pl_take (.slice (some ⟨bs, os, none⟩) k1 c1) rfl (by kernel_rfl) (by kernel_rfl) (by kernel_rfl) (by kernel_rfl) ?_
    refine pl_take (.int .i64 (((k1 : Nat) : Int) : Int)) rfl (by kernel_rfl) (by kernel_rfl) (by kernel_rfl) (by kernel_rfl) ?_
    refine pl_take (.bool true) rfl (by kernel_rfl) (by kernel_rfl) (by kernel_rfl) (ev_dec (show _ = Result.ok (Next.value (Value.bool (decide ((((i : Nat) : Int) : Int) < (((k1 : Nat) : Int) : Int))))) _ from by kernel_rfl) (by omega)) ?_
    refine pl_nil ?_
    refine qw_then ?_
    refine cw_t (by kernel_rfl) ?_
    refine cw_skip ?_
    refine qw_then ?_
    refine cw_seq ?_
    refine cw_block ?_
    refine cw_seq ?_
    refine cw_plain ?_
    refine pl_take (.slice (some ⟨bs, os, none⟩) k1 c1) rfl (by kernel_rfl) (by kernel_rfl) (by kernel_rfl) (by kernel_rfl) ?_
    refine pl_take (.int .i64 (((i : Nat) : Int) : Int)) rfl (by kernel_rfl) (by kernel_rfl) (by kernel_rfl) (by kernel_rfl) ?_
    refine pl_take (.int .i64 (((nk10 : Nat) : Int) : Int)) rfl (by kernel_rfl) (by kernel_rfl) (by kernel_rfl) (by kernel_rfl) ?_
    refine pl_take (.int .i64 (((i + nk10 : Nat) : Int) : Int)) rfl (by kernel_rfl) (by kernel_rfl) (by kernel_rfl) (ev_wrap (by kernel_rfl) (by omega) (by omega)) ?_
    refine pl_take (.slice (some ⟨bs, os, none⟩) k1 c1) rfl (by kernel_rfl) (by kernel_rfl) (by kernel_rfl) (by kernel_rfl) ?_
    refine pl_take (.int .i64 (((k1 : Nat) : Int) : Int)) rfl (by kernel_rfl) (by kernel_rfl) (by kernel_rfl) (by kernel_rfl) ?_
    refine pl_take (.int .i64 ((((i + nk10) % k1 : Nat) : Int) : Int)) rfl (by kernel_rfl) (by kernel_rfl) (by kernel_rfl) (ex_bin (a := ((i + nk10 : Nat) : Int)) (b := ((k1 : Nat) : Int)) rfl (by kernel_rfl) (by kernel_rfl) (bin_rem (by omega))) ?_
    refine pl_take (.pointer (some ⟨bs, os + ((i + nk10) % k1) * 4, none⟩)) rfl (by kernel_rfl) (by kernel_rfl) (by kernel_rfl) (ex_index (p := .slice (some ⟨bs, os, none⟩) k1 c1) (i := .int .i64 (((i + nk10) % k1 : Nat) : Int)) rfl (by kernel_rfl) (by kernel_rfl) (ix27 (k := (i + nk10) % k1) (by omega))) ?_
    refine pl_take (.agg #[.int .i64 ((stN l ((i + nk10) % k1)).im : Int), .int .i64 ((stN l ((i + nk10) % k1)).un : Int), .int .i64 ((stN l ((i + nk10) % k1)).fr : Int), .int .i64 ((stN l ((i + nk10) % k1)).to : Int)]) rfl (by kernel_rfl) (by kernel_rfl) (by kernel_rfl) (ex_load rfl (by kernel_rfl) (ld26 ((hX9.cell q17)) ((hX9.cell q18)) ((hX9.cell q19)) ((hX9.cell q20)))) ?_
    refine pl_step rfl (by kernel_rfl) (by kernel_rfl) (by kernel_rfl) (sn_new (us := #[.int .i64 0, .int .i64 0, .int .i64 0, .int .i64 0]) (t := 26) (by kernel_rfl) ?_)
    intro O21 X22 hO hOs hb hbx
    have hzO21 := hO; have hyO21 := hOs; clear hO hOs
    have bO21_0 : BoxAt X22 O21 0 (.int .i64 0) := hbx 0 _ rfl
    have bO21_1 : BoxAt X22 O21 1 (.int .i64 0) := hbx 1 _ rfl
    have bO21_2 : BoxAt X22 O21 2 (.int .i64 0) := hbx 2 _ rfl
    have bO21_3 : BoxAt X22 O21 3 (.int .i64 0) := hbx 3 _ rfl
    clear hbx
    replace hE := hE.trans hb
    replace hX9 := hX9.trans hb
    replace own9 := own9.ext hb
    have hs23 := hb.size
    clear hb
    have lt24 := bO21_0.lt
    refine pl_put rfl (by kernel_rfl) (by kernel_rfl) (sn_setK4 (O := O21) (j := 0) (v0 := .int .i64 ((stN l ((i + nk10) % k1)).im : Int)) (v1 := .int .i64 ((stN l ((i + nk10) % k1)).un : Int)) (v2 := .int .i64 ((stN l ((i + nk10) % k1)).fr : Int)) (v3 := .int .i64 ((stN l ((i + nk10) % k1)).to : Int)) (ex_store (p := .pointer (some ⟨O21, 0, none⟩)) (v := .agg #[.int .i64 ((stN l ((i + nk10) % k1)).im : Int), .int .i64 ((stN l ((i + nk10) % k1)).un : Int), .int .i64 ((stN l ((i + nk10) % k1)).fr : Int), .int .i64 ((stN l ((i + nk10) % k1)).to : Int)]) rfl (by kernel_rfl) (by kernel_rfl) (st26 bO21_0.1 bO21_0.2 bO21_1.1 bO21_1.2 bO21_2.1 bO21_2.2 bO21_3.1 bO21_3.2)) bO21_0 bO21_1 bO21_2 bO21_3 ?_)
    intro X25 ho hv0 hv1 hv2 hv3 hk
    replace hE := ho.ext hE (Nat.le_trans (Nat.le_trans hs6 (Nat.le_trans hs8 hs14)) (Nat.le_of_eq hzO21))
    replace hX9 := ho.ext hX9 (Nat.le_trans hs14 (Nat.le_of_eq hzO21))
    replace own9 := own9.turn ho (own_not2 hbk9 (Nat.le_of_eq hzO21)) (fun _ _ _ h => by rw [h.2]; exact fun b hb => by cases hb)
    have hs26 : X22.heap.size ≤ X25.heap.size := Nat.le_of_eq ho.size.symm
    clear ho hk bO21_0 bO21_1 bO21_2 bO21_3
    have bO21_0 := hv0; clear hv0
    have bO21_1 := hv1; clear hv1
    have bO21_2 := hv2; clear hv2
    have bO21_3 := hv3; clear hv3
    refine pl_nil ?_
    refine qw_then ?_
    refine cw_clean [11, 12, 13, 14, 15, 16, 17, 18, 19] (ws' := [(11, .bool true), (12, .slice (some ⟨bs, os, none⟩) k1 c1), (13, .int .i64 (((nk10 : Nat) : Int) : Int)), (14, .int .i64 (pk11 : Int)), (15, .int .i64 (pk12 : Int)), (16, .int .i64 (pk13 : Int)), (17, .slice a9 i c9), (18, .int .i64 (((i : Nat) : Int) : Int)), (19, .pointer (some ⟨O21, 0, none⟩))]) (by kernel_rfl) (fun L => ?_)
    refine cw_seq ?_
    refine cw_plain ?_
    refine pl_take (.pointer (some ⟨O21, 2, none⟩)) rfl (by kernel_rfl) (by kernel_rfl) (by kernel_rfl) (by kernel_rfl) ?_
    refine pl_take (.pointer (some ⟨O21, 2, none⟩)) rfl (by kernel_rfl) (by kernel_rfl) (by kernel_rfl) (by kernel_rfl) ?_
    refine pl_take (.int .i64 ((stN l ((i + nk10) % k1)).fr : Int)) rfl (by kernel_rfl) (by kernel_rfl) (by kernel_rfl) (ex_load rfl (by kernel_rfl) (ld3 (bO21_2.1))) ?_
    refine pl_take (.int .i64 (pk11 : Int)) rfl (by kernel_rfl) (by kernel_rfl) (by kernel_rfl) (by kernel_rfl) ?_
    refine pl_take (.int .i64 (((stN l ((i + nk10) % k1)).fr) + pk11 : Int)) rfl (by kernel_rfl) (by kernel_rfl) (by kernel_rfl) (ev_wrap (by kernel_rfl) (by omega) (by omega)) ?_
    refine pl_take (.pointer (some ⟨O21, 2, none⟩)) rfl (by kernel_rfl) (by kernel_rfl) (by kernel_rfl) (by kernel_rfl) ?_
    refine pl_take (.pointer (some ⟨O21, 2, none⟩)) rfl (by kernel_rfl) (by kernel_rfl) (by kernel_rfl) (by kernel_rfl) ?_
    refine pl_put rfl (by kernel_rfl) (by kernel_rfl) (sn_set (O := O21) (j := 2) (v := .int .i64 (((stN l ((i + nk10) % k1)).fr) + pk11 : Int)) (ex_store (p := .pointer (some ⟨O21, 2, none⟩)) (v := .int .i64 (((stN l ((i + nk10) % k1)).fr) + pk11 : Int)) rfl (by kernel_rfl) (by kernel_rfl) (st3 bO21_2.1 bO21_2.2)) bO21_2 ?_)
    intro X27 ho hv0 hk
    replace hE := ho.ext hE (Nat.le_trans (Nat.le_trans hs6 (Nat.le_trans hs8 hs14)) (Nat.le_of_eq hzO21))
    replace hX9 := ho.ext hX9 (Nat.le_trans hs14 (Nat.le_of_eq hzO21))
    replace own9 := own9.turn ho (own_not2 hbk9 (Nat.le_of_eq hzO21)) (fun _ _ _ h => by rw [h.2]; exact fun b hb => by cases hb)
    replace bO21_0 := hk 0 _ (by omega) bO21_0
    replace bO21_1 := hk 1 _ (by omega) bO21_1
    replace bO21_3 := hk 3 _ (by omega) bO21_3
    have hs28 : X25.heap.size ≤ X27.heap.size := Nat.le_of_eq ho.size.symm
    clear ho hk bO21_2
    have bO21_2 := hv0; clear hv0
    refine pl_nil ?_
    refine qw_then ?_
    refine cw_clean [11, 12, 13, 14, 15, 16, 17, 18, 19] (ws' := [(11, .bool true), (12, .slice (some ⟨bs, os, none⟩) k1 c1), (13, .int .i64 (((nk10 : Nat) : Int) : Int)), (14, .int .i64 (pk11 : Int)), (15, .int .i64 (pk12 : Int)), (16, .int .i64 (pk13 : Int)), (17, .slice a9 i c9), (18, .int .i64 (((i : Nat) : Int) : Int)), (19, .pointer (some ⟨O21, 0, none⟩))]) (by kernel_rfl) (fun L => ?_)
    refine cw_seq ?_
    refine cw_plain ?_
    refine pl_take (.pointer (some ⟨O21, 2, none⟩)) rfl (by kernel_rfl) (by kernel_rfl) (by kernel_rfl) (by kernel_rfl) ?_
    refine pl_take (.pointer (some ⟨O21, 3, none⟩)) rfl (by kernel_rfl) (by kernel_rfl) (by kernel_rfl) (by kernel_rfl) ?_
    refine pl_take (.int .i64 ((stN l ((i + nk10) % k1)).to : Int)) rfl (by kernel_rfl) (by kernel_rfl) (by kernel_rfl) (ex_load rfl (by kernel_rfl) (ld3 (bO21_3.1))) ?_
    refine pl_take (.int .i64 (pk11 : Int)) rfl (by kernel_rfl) (by kernel_rfl) (by kernel_rfl) (by kernel_rfl) ?_
    refine pl_take (.int .i64 (((stN l ((i + nk10) % k1)).to) + pk11 : Int)) rfl (by kernel_rfl) (by kernel_rfl) (by kernel_rfl) (ev_wrap (by kernel_rfl) (by omega) (by omega)) ?_
    refine pl_take (.pointer (some ⟨O21, 2, none⟩)) rfl (by kernel_rfl) (by kernel_rfl) (by kernel_rfl) (by kernel_rfl) ?_
    refine pl_take (.pointer (some ⟨O21, 3, none⟩)) rfl (by kernel_rfl) (by kernel_rfl) (by kernel_rfl) (by kernel_rfl) ?_
    refine pl_put rfl (by kernel_rfl) (by kernel_rfl) (sn_set (O := O21) (j := 3) (v := .int .i64 (((stN l ((i + nk10) % k1)).to) + pk11 : Int)) (ex_store (p := .pointer (some ⟨O21, 3, none⟩)) (v := .int .i64 (((stN l ((i + nk10) % k1)).to) + pk11 : Int)) rfl (by kernel_rfl) (by kernel_rfl) (st3 bO21_3.1 bO21_3.2)) bO21_3 ?_)
    intro X29 ho hv0 hk
    replace hE := ho.ext hE (Nat.le_trans (Nat.le_trans hs6 (Nat.le_trans hs8 hs14)) (Nat.le_of_eq hzO21))
    replace hX9 := ho.ext hX9 (Nat.le_trans hs14 (Nat.le_of_eq hzO21))
    replace own9 := own9.turn ho (own_not2 hbk9 (Nat.le_of_eq hzO21)) (fun _ _ _ h => by rw [h.2]; exact fun b hb => by cases hb)
    replace bO21_0 := hk 0 _ (by omega) bO21_0
    replace bO21_1 := hk 1 _ (by omega) bO21_1
    replace bO21_2 := hk 2 _ (by omega) bO21_2
    have hs30 : X27.heap.size ≤ X29.heap.size := Nat.le_of_eq ho.size.symm
    clear ho hk bO21_3
    have bO21_3 := hv0; clear hv0
    refine pl_nil ?_
    refine qw_then ?_
    refine cw_clean [11, 12, 13, 14, 15, 16, 17, 18, 19] (ws' := [(11, .bool true), (12, .slice (some ⟨bs, os, none⟩) k1 c1), (13, .int .i64 (((nk10 : Nat) : Int) : Int)), (14, .int .i64 (pk11 : Int)), (15, .int .i64 (pk12 : Int)), (16, .int .i64 (pk13 : Int)), (17, .slice a9 i c9), (18, .int .i64 (((i : Nat) : Int) : Int)), (19, .pointer (some ⟨O21, 0, none⟩))]) (by kernel_rfl) (fun L => ?_)
    refine cw_plain ?_
    refine pl_take (.slice a9 i c9) rfl (by kernel_rfl) (by kernel_rfl) (by kernel_rfl) (by kernel_rfl) ?_
    refine pl_take (.agg #[.int .i64 ((stN l ((i + nk10) % k1)).im : Int), .int .i64 ((stN l ((i + nk10) % k1)).un : Int), .int .i64 (((stN l ((i + nk10) % k1)).fr) + pk11 : Int), .int .i64 (((stN l ((i + nk10) % k1)).to) + pk11 : Int)]) rfl (by kernel_rfl) (by kernel_rfl) (by kernel_rfl) (ex_load rfl (by kernel_rfl) (ld26 (bO21_0.1) (bO21_1.1) (bO21_2.1) (bO21_3.1))) ?_
    refine pl_step rfl (by kernel_rfl) (by kernel_rfl) (by kernel_rfl) (sn_newS (us := #[.int .i64 ((stN l ((i + nk10) % k1)).im : Int), .int .i64 ((stN l ((i + nk10) % k1)).un : Int), .int .i64 (((stN l ((i + nk10) % k1)).fr) + pk11 : Int), .int .i64 (((stN l ((i + nk10) % k1)).to) + pk11 : Int)]) (t := 26) (k := 1) (c := 1) (by kernel_rfl) ?_)
    intro O31 X32 hO hOs hb hbx
    have hzO31 := hO; have hyO31 := hOs; clear hO hOs
    have bO31_0 : BoxAt X32 O31 0 (.int .i64 ((stN l ((i + nk10) % k1)).im : Int)) := hbx 0 _ rfl
    have bO31_1 : BoxAt X32 O31 1 (.int .i64 ((stN l ((i + nk10) % k1)).un : Int)) := hbx 1 _ rfl
    have bO31_2 : BoxAt X32 O31 2 (.int .i64 (((stN l ((i + nk10) % k1)).fr) + pk11 : Int)) := hbx 2 _ rfl
    have bO31_3 : BoxAt X32 O31 3 (.int .i64 (((stN l ((i + nk10) % k1)).to) + pk11 : Int)) := hbx 3 _ rfl
    clear hbx
    replace hE := hE.trans hb
    replace hX9 := hX9.trans hb
    replace own9 := own9.ext hb
    replace bO21_0 := BoxAt.ext hb bO21_0
    replace bO21_1 := BoxAt.ext hb bO21_1
    replace bO21_2 := BoxAt.ext hb bO21_2
    replace bO21_3 := BoxAt.ext hb bO21_3
    have hs33 := hb.size
    clear hb
    have lt34 := bO31_0.lt
    have hbs45 := own9.base
    obtain ⟨g35, cap36, w37, hrun38, own39, hgr40, hgb41⟩ := own_app1k (P := Try.prog) (ty := 27) stT (own9) (Nat.le_trans hs14 (Nat.le_trans hs23 (Nat.le_trans hs26 (Nat.le_trans hs28 (Nat.le_trans hs30 hs33))))) (k := i) (Mem.mvL_len l k1 nk10 pk11 i) (O := O31) (c := 1) (x := (Mem.shift pk11 (stN l ((i + nk10) % k1)))) (d := [.int .i64 ((stN l ((i + nk10) % k1)).im : Int), .int .i64 ((stN l ((i + nk10) % k1)).un : Int), .int .i64 (((stN l ((i + nk10) % k1)).fr) + pk11 : Int), .int .i64 (((stN l ((i + nk10) % k1)).to) + pk11 : Int)]) (F := []) rfl (cells4 (bO31_0.1) (bO31_1.1) (bO31_2.1) (bO31_3.1)) (by simp [Value.oneCell']) (⟨rfl, rfl⟩) (fun b hb => by cases hb) (by omega) (by omega)
    refine pl_step rfl (by kernel_rfl) (by kernel_rfl) (by kernel_rfl) (sn_eff (v := .slice (some ⟨g35, 0, none⟩) (i + 1) cap36) (w' := w37) (ex_append rfl (by kernel_rfl) (by kernel_rfl) hrun38) ?_)
    replace bO21_0 := BoxAt.grownR bO21_0 hgb41 (own_not2 hbk9 (Nat.le_of_eq hzO21))
    replace bO21_1 := BoxAt.grownR bO21_1 hgb41 (own_not2 hbk9 (Nat.le_of_eq hzO21))
    replace bO21_2 := BoxAt.grownR bO21_2 hgb41 (own_not2 hbk9 (Nat.le_of_eq hzO21))
    replace bO21_3 := BoxAt.grownR bO21_3 hgb41 (own_not2 hbk9 (Nat.le_of_eq hzO21))
    replace bO31_0 := BoxAt.grownR bO31_0 hgb41 (own_not2 hbk9 (Nat.le_trans (Nat.le_trans hs23 (Nat.le_trans hs26 (Nat.le_trans hs28 hs30))) (Nat.le_of_eq hzO31)))
    replace bO31_1 := BoxAt.grownR bO31_1 hgb41 (own_not2 hbk9 (Nat.le_trans (Nat.le_trans hs23 (Nat.le_trans hs26 (Nat.le_trans hs28 hs30))) (Nat.le_of_eq hzO31)))
    replace bO31_2 := BoxAt.grownR bO31_2 hgb41 (own_not2 hbk9 (Nat.le_trans (Nat.le_trans hs23 (Nat.le_trans hs26 (Nat.le_trans hs28 hs30))) (Nat.le_of_eq hzO31)))
    replace bO31_3 := BoxAt.grownR bO31_3 hgb41 (own_not2 hbk9 (Nat.le_trans (Nat.le_trans hs23 (Nat.le_trans hs26 (Nat.le_trans hs28 hs30))) (Nat.le_of_eq hzO31)))
    replace hE := hgr40.ext _ hE (Nat.le_trans hs6 hs8)
    replace hX9 := hgr40.ext _ hX9 (Nat.le_refl _)
    have hs42 := hgr40.size
    have hl43 := own39.base g35 rfl; have hh44 := own39.lt g35 rfl
    refine pl_take (.slice (some ⟨g35, 0, none⟩) (i + 1) cap36) rfl (by kernel_rfl) (by kernel_rfl) (by kernel_rfl) (by kernel_rfl) ?_
    refine pl_nil ?_
    refine qw_block ?_
    refine qw_then ?_
    refine cw_plain ?_
    refine pl_take (.int .i64 (((i : Nat) : Int) : Int)) rfl (by kernel_rfl) (by kernel_rfl) (by kernel_rfl) (by kernel_rfl) ?_
    refine pl_take (.int .i64 (((i + 1 : Nat) : Int) : Int)) rfl (by kernel_rfl) (by kernel_rfl) (by kernel_rfl) (ev_wrap (by kernel_rfl) (by omega) (by omega)) ?_
    refine pl_take (.int .i64 (((i + 1 : Nat) : Int) : Int)) rfl (by kernel_rfl) (by kernel_rfl) (by kernel_rfl) (by kernel_rfl) ?_
    refine pl_nil ?_
    refine qw_round [11, 12, 13, 14, 15, 16, 17, 18] (ws' := [(11, .bool true), (12, .slice (some ⟨bs, os, none⟩) k1 c1), (13, .int .i64 (((nk10 : Nat) : Int) : Int)), (14, .int .i64 (pk11 : Int)), (15, .int .i64 (pk12 : Int)), (16, .int .i64 (pk13 : Int)), (17, .slice (some ⟨g35, 0, none⟩) (i + 1) cap36), (18, .int .i64 (((i + 1 : Nat) : Int) : Int))]) (by kernel_rfl) _ ?_ ⟨(i + 1), (some ⟨g35, 0, none⟩), cap36, rfl, rfl, (Nat.le_trans hs14 (Nat.le_trans hs23 (Nat.le_trans hs26 (Nat.le_trans hs28 (Nat.le_trans hs30 (Nat.le_trans hs33 hs42)))))), hE, hX9, (by rw [Mem.mvL_next]; exact own39), by omega⟩
    omega
  ·
    have hin : i = k1 := by omega
    refine cw_seq ?_
    refine cw_seq ?_
    refine cw_plain ?_
    refine pl_take (.int .i64 (((i : Nat) : Int) : Int)) rfl (by kernel_rfl) (by kernel_rfl) (by kernel_rfl) (by kernel_rfl) ?_
    refine pl_take (.slice a1 k1 c1) rfl (by kernel_rfl) (by kernel_rfl) (by kernel_rfl) (by kernel_rfl) ?_
    refine pl_take (.int .i64 (((k1 : Nat) : Int) : Int)) rfl (by kernel_rfl) (by kernel_rfl) (by kernel_rfl) (by kernel_rfl) ?_
    refine pl_take (.bool false) rfl (by kernel_rfl) (by kernel_rfl) (by kernel_rfl) (ev_ndec (show _ = Result.ok (Next.value (Value.bool (decide ((((i : Nat) : Int) : Int) < (((k1 : Nat) : Int) : Int))))) _ from by kernel_rfl) (by omega)) ?_
    refine pl_nil ?_
    refine qw_then ?_
    refine cw_f (by kernel_rfl) ?_
    refine cw_exit ?_
    refine qw_then_exit ?_
    refine qw_then_exit ?_
    refine qw_block_out ?_
    refine qw_then ?_
    refine cw_seq ?_
    have hM : StsAt w15 a9 i (Mem.mvL l k1 nk10 pk11 k1) := own_sts (by rw [show Mem.mvL l k1 nk10 pk11 k1 = Mem.mvL l k1 nk10 pk11 i by rw [hin]]; exact own9) (by rw [hin]; exact Mem.mvL_len _ _ _ _ _) (by omega)
    have hok2 : Mem.okL (Mem.mvL l k1 nk10 pk11 k1) = true := Mem.mv_ok hll (by omega) hok (by omega) (fun x hx => (hbd x hx).2.2.2)
    have hMv : Mem.Mv l (Mem.mvL l k1 nk10 pk11 k1) pk11 nk10 := Mem.mv_is hll (by omega)
    have hml : (Mem.mvL l k1 nk10 pk11 k1).length = k1 := Mem.mvL_len _ _ _ _ _
    have hX47 : Ext w15 w15 := Ext.refl _
    refine cw_plain ?_
    refine pl_take (.slice a1 k1 c1) rfl (by kernel_rfl) (by kernel_rfl) (by kernel_rfl) (by kernel_rfl) ?_
    refine pl_take (.int .i64 (pk12 : Int)) rfl (by kernel_rfl) (by kernel_rfl) (by kernel_rfl) (by kernel_rfl) ?_
    refine pl_step rfl (by kernel_rfl) (by kernel_rfl) (by kernel_rfl) (sn_call (f := 20) (args := #[.slice a1 k1 c1, .int .i64 (pk12 : Int)]) (by kernel_rfl) ((Fill_y pk12 _ _ hLm hX9 hok (by omega) (by omega)).mono ?_))
    rintro e w49 ⟨f48, rfl, hf48, hb⟩
    replace hE := hE.trans hb
    replace hX9 := hX9.trans hb
    replace hX47 := hX47.trans hb
    have hs50 := hb.size
    clear hb
    refine ⟨_, rfl, ?_⟩
    refine pl_take (.tuple #[.int .i64 (f48 : Int), .int .i64 0]) rfl (by kernel_rfl) (by kernel_rfl) (by kernel_rfl) (by kernel_rfl) ?_
    refine pl_take (.int .i64 (f48 : Int)) rfl (by kernel_rfl) (by kernel_rfl) (by kernel_rfl) (by kernel_rfl) ?_
    refine pl_take (.int .i64 0) rfl (by kernel_rfl) (by kernel_rfl) (by kernel_rfl) (by kernel_rfl) ?_
    refine pl_take (.int .i64 (f48 : Int)) rfl (by kernel_rfl) (by kernel_rfl) (by kernel_rfl) (by kernel_rfl) ?_
    refine pl_take (.int .i64 0) rfl (by kernel_rfl) (by kernel_rfl) (by kernel_rfl) (by kernel_rfl) ?_
    refine pl_nil ?_
    refine qw_then ?_
    refine cw_clean [11, 12, 13, 14, 15, 16, 17, 20, 21] (ws' := [(11, .bool true), (12, .slice a1 k1 c1), (13, .int .i64 (((nk10 : Nat) : Int) : Int)), (14, .int .i64 (pk11 : Int)), (15, .int .i64 (pk12 : Int)), (16, .int .i64 (pk13 : Int)), (17, .slice a9 i c9), (20, .int .i64 (f48 : Int)), (21, .int .i64 0)]) (by kernel_rfl) (fun L => ?_)
    refine cw_seq ?_
    refine cw_plain ?_
    refine pl_take (.slice a9 i c9) rfl (by kernel_rfl) (by kernel_rfl) (by kernel_rfl) (by kernel_rfl) ?_
    refine pl_take (.int .i64 (pk12 : Int)) rfl (by kernel_rfl) (by kernel_rfl) (by kernel_rfl) (by kernel_rfl) ?_
    refine pl_take (.int .i64 (pk11 : Int)) rfl (by kernel_rfl) (by kernel_rfl) (by kernel_rfl) (by kernel_rfl) ?_
    refine pl_take (.int .i64 (pk12 + pk11 : Int)) rfl (by kernel_rfl) (by kernel_rfl) (by kernel_rfl) (ev_wrap (by kernel_rfl) (by omega) (by omega)) ?_
    refine pl_step rfl (by kernel_rfl) (by kernel_rfl) (by kernel_rfl) (sn_call (f := 20) (args := #[.slice a9 i c9, .int .i64 (pk12 + pk11 : Int)]) (by kernel_rfl) ((Fill_y (pk12 + pk11) _ _ hM hX47 hok2 (by omega) (by omega)).mono ?_))
    rintro e w52 ⟨f51, rfl, hf51, hb⟩
    replace hE := hE.trans hb
    replace hX9 := hX9.trans hb
    replace hX47 := hX47.trans hb
    have hs53 := hb.size
    clear hb
    refine ⟨_, rfl, ?_⟩
    refine pl_take (.tuple #[.int .i64 (f51 : Int), .int .i64 0]) rfl (by kernel_rfl) (by kernel_rfl) (by kernel_rfl) (by kernel_rfl) ?_
    refine pl_take (.int .i64 (f51 : Int)) rfl (by kernel_rfl) (by kernel_rfl) (by kernel_rfl) (by kernel_rfl) ?_
    refine pl_take (.int .i64 0) rfl (by kernel_rfl) (by kernel_rfl) (by kernel_rfl) (by kernel_rfl) ?_
    refine pl_take (.int .i64 (f51 : Int)) rfl (by kernel_rfl) (by kernel_rfl) (by kernel_rfl) (by kernel_rfl) ?_
    refine pl_take (.int .i64 0) rfl (by kernel_rfl) (by kernel_rfl) (by kernel_rfl) (by kernel_rfl) ?_
    refine pl_nil ?_
    refine qw_then ?_
    refine cw_clean [11, 12, 13, 14, 16, 17, 20, 21, 22, 23] (ws' := [(11, .bool true), (12, .slice a1 k1 c1), (13, .int .i64 (((nk10 : Nat) : Int) : Int)), (14, .int .i64 (pk11 : Int)), (16, .int .i64 (pk13 : Int)), (17, .slice a9 i c9), (20, .int .i64 (f48 : Int)), (21, .int .i64 0), (22, .int .i64 (f51 : Int)), (23, .int .i64 0)]) (by kernel_rfl) (fun L => ?_)
    refine cw_seq ?_
    refine cw_plain ?_
    refine pl_take (.slice a1 k1 c1) rfl (by kernel_rfl) (by kernel_rfl) (by kernel_rfl) (by kernel_rfl) ?_
    refine pl_step rfl (by kernel_rfl) (by kernel_rfl) (by kernel_rfl) (sn_call (f := 13) (args := #[.slice a1 k1 c1]) (by kernel_rfl) ((Most_y _ _ hLm hX9 hok).mono ?_))
    rintro e w56 ⟨b54, t55, rfl, hmb54, hb⟩
    replace hE := hE.trans hb
    replace hX9 := hX9.trans hb
    replace hX47 := hX47.trans hb
    have hs57 := hb.size
    clear hb
    refine ⟨_, rfl, ?_⟩
    refine pl_take (.tuple #[.int .i64 (b54 : Int), .int .i64 (t55 : Int), .int .i64 0]) rfl (by kernel_rfl) (by kernel_rfl) (by kernel_rfl) (by kernel_rfl) ?_
    refine pl_take (.int .i64 (b54 : Int)) rfl (by kernel_rfl) (by kernel_rfl) (by kernel_rfl) (by kernel_rfl) ?_
    refine pl_take (.int .i64 (t55 : Int)) rfl (by kernel_rfl) (by kernel_rfl) (by kernel_rfl) (by kernel_rfl) ?_
    refine pl_take (.int .i64 0) rfl (by kernel_rfl) (by kernel_rfl) (by kernel_rfl) (by kernel_rfl) ?_
    refine pl_take (.int .i64 (b54 : Int)) rfl (by kernel_rfl) (by kernel_rfl) (by kernel_rfl) (by kernel_rfl) ?_
    refine pl_take (.int .i64 (t55 : Int)) rfl (by kernel_rfl) (by kernel_rfl) (by kernel_rfl) (by kernel_rfl) ?_
    refine pl_take (.int .i64 0) rfl (by kernel_rfl) (by kernel_rfl) (by kernel_rfl) (by kernel_rfl) ?_
    refine pl_nil ?_
    refine qw_then ?_
    refine cw_clean [11, 12, 13, 14, 16, 17, 20, 21, 22, 23, 24, 25, 26] (ws' := [(11, .bool true), (12, .slice a1 k1 c1), (13, .int .i64 (((nk10 : Nat) : Int) : Int)), (14, .int .i64 (pk11 : Int)), (16, .int .i64 (pk13 : Int)), (17, .slice a9 i c9), (20, .int .i64 (f48 : Int)), (21, .int .i64 0), (22, .int .i64 (f51 : Int)), (23, .int .i64 0), (24, .int .i64 (b54 : Int)), (25, .int .i64 (t55 : Int)), (26, .int .i64 0)]) (by kernel_rfl) (fun L => ?_)
    refine cw_seq ?_
    refine cw_plain ?_
    refine pl_take (.slice a9 i c9) rfl (by kernel_rfl) (by kernel_rfl) (by kernel_rfl) (by kernel_rfl) ?_
    refine pl_step rfl (by kernel_rfl) (by kernel_rfl) (by kernel_rfl) (sn_call (f := 13) (args := #[.slice a9 i c9]) (by kernel_rfl) ((Most_y _ _ hM hX47 hok2).mono ?_))
    rintro e w60 ⟨b58, t59, rfl, hmb58, hb⟩
    replace hE := hE.trans hb
    replace hX9 := hX9.trans hb
    replace hX47 := hX47.trans hb
    have hs61 := hb.size
    clear hb
    refine ⟨_, rfl, ?_⟩
    refine pl_take (.tuple #[.int .i64 (b58 : Int), .int .i64 (t59 : Int), .int .i64 0]) rfl (by kernel_rfl) (by kernel_rfl) (by kernel_rfl) (by kernel_rfl) ?_
    refine pl_take (.int .i64 (b58 : Int)) rfl (by kernel_rfl) (by kernel_rfl) (by kernel_rfl) (by kernel_rfl) ?_
    refine pl_take (.int .i64 (t59 : Int)) rfl (by kernel_rfl) (by kernel_rfl) (by kernel_rfl) (by kernel_rfl) ?_
    refine pl_take (.int .i64 0) rfl (by kernel_rfl) (by kernel_rfl) (by kernel_rfl) (by kernel_rfl) ?_
    refine pl_take (.int .i64 (b58 : Int)) rfl (by kernel_rfl) (by kernel_rfl) (by kernel_rfl) (by kernel_rfl) ?_
    refine pl_take (.int .i64 (t59 : Int)) rfl (by kernel_rfl) (by kernel_rfl) (by kernel_rfl) (by kernel_rfl) ?_
    refine pl_take (.int .i64 0) rfl (by kernel_rfl) (by kernel_rfl) (by kernel_rfl) (by kernel_rfl) ?_
    refine pl_nil ?_
    refine qw_then ?_
    refine cw_clean [11, 12, 13, 14, 16, 17, 20, 21, 22, 23, 24, 25, 26, 27, 28, 29] (ws' := [(11, .bool true), (12, .slice a1 k1 c1), (13, .int .i64 (((nk10 : Nat) : Int) : Int)), (14, .int .i64 (pk11 : Int)), (16, .int .i64 (pk13 : Int)), (17, .slice a9 i c9), (20, .int .i64 (f48 : Int)), (21, .int .i64 0), (22, .int .i64 (f51 : Int)), (23, .int .i64 0), (24, .int .i64 (b54 : Int)), (25, .int .i64 (t55 : Int)), (26, .int .i64 0), (27, .int .i64 (b58 : Int)), (28, .int .i64 (t59 : Int)), (29, .int .i64 0)]) (by kernel_rfl) (fun L => ?_)
    refine cw_seq ?_
    refine cw_plain ?_
    refine pl_take (.slice a1 k1 c1) rfl (by kernel_rfl) (by kernel_rfl) (by kernel_rfl) (by kernel_rfl) ?_
    refine pl_take (.int .i64 (pk13 : Int)) rfl (by kernel_rfl) (by kernel_rfl) (by kernel_rfl) (by kernel_rfl) ?_
    refine pl_step rfl (by kernel_rfl) (by kernel_rfl) (by kernel_rfl) (sn_call (f := 22) (args := #[.slice a1 k1 c1, .int .i64 (pk13 : Int)]) (by kernel_rfl) ((Over_y pk13 _ _ hLm hX9 hok (by omega) (by omega)).mono ?_))
    rintro e w63 ⟨ov62, rfl, hov62, hb⟩
    replace hE := hE.trans hb
    replace hX9 := hX9.trans hb
    replace hX47 := hX47.trans hb
    have hs64 := hb.size
    clear hb
    refine ⟨_, rfl, ?_⟩
    refine pl_take (.tuple #[.int .i64 (ov62 : Int), .int .i64 0]) rfl (by kernel_rfl) (by kernel_rfl) (by kernel_rfl) (by kernel_rfl) ?_
    refine pl_take (.int .i64 (ov62 : Int)) rfl (by kernel_rfl) (by kernel_rfl) (by kernel_rfl) (by kernel_rfl) ?_
    refine pl_take (.int .i64 0) rfl (by kernel_rfl) (by kernel_rfl) (by kernel_rfl) (by kernel_rfl) ?_
    refine pl_take (.int .i64 (ov62 : Int)) rfl (by kernel_rfl) (by kernel_rfl) (by kernel_rfl) (by kernel_rfl) ?_
    refine pl_take (.int .i64 0) rfl (by kernel_rfl) (by kernel_rfl) (by kernel_rfl) (by kernel_rfl) ?_
    refine pl_nil ?_
    refine qw_then ?_
    refine cw_clean [11, 12, 13, 14, 16, 17, 20, 21, 22, 23, 24, 25, 26, 27, 28, 29, 30, 31] (ws' := [(11, .bool true), (12, .slice a1 k1 c1), (13, .int .i64 (((nk10 : Nat) : Int) : Int)), (14, .int .i64 (pk11 : Int)), (16, .int .i64 (pk13 : Int)), (17, .slice a9 i c9), (20, .int .i64 (f48 : Int)), (21, .int .i64 0), (22, .int .i64 (f51 : Int)), (23, .int .i64 0), (24, .int .i64 (b54 : Int)), (25, .int .i64 (t55 : Int)), (26, .int .i64 0), (27, .int .i64 (b58 : Int)), (28, .int .i64 (t59 : Int)), (29, .int .i64 0), (30, .int .i64 (ov62 : Int)), (31, .int .i64 0)]) (by kernel_rfl) (fun L => ?_)
    refine cw_seq ?_
    refine cw_plain ?_
    refine pl_take (.slice a9 i c9) rfl (by kernel_rfl) (by kernel_rfl) (by kernel_rfl) (by kernel_rfl) ?_
    refine pl_take (.int .i64 (pk13 : Int)) rfl (by kernel_rfl) (by kernel_rfl) (by kernel_rfl) (by kernel_rfl) ?_
    refine pl_step rfl (by kernel_rfl) (by kernel_rfl) (by kernel_rfl) (sn_call (f := 22) (args := #[.slice a9 i c9, .int .i64 (pk13 : Int)]) (by kernel_rfl) ((Over_y pk13 _ _ hM hX47 hok2 (by omega) (by omega)).mono ?_))
    rintro e w66 ⟨ov65, rfl, hov65, hb⟩
    replace hE := hE.trans hb
    replace hX9 := hX9.trans hb
    replace hX47 := hX47.trans hb
    have hs67 := hb.size
    clear hb
    refine ⟨_, rfl, ?_⟩
    refine pl_take (.tuple #[.int .i64 (ov65 : Int), .int .i64 0]) rfl (by kernel_rfl) (by kernel_rfl) (by kernel_rfl) (by kernel_rfl) ?_
    refine pl_take (.int .i64 (ov65 : Int)) rfl (by kernel_rfl) (by kernel_rfl) (by kernel_rfl) (by kernel_rfl) ?_
    refine pl_take (.int .i64 0) rfl (by kernel_rfl) (by kernel_rfl) (by kernel_rfl) (by kernel_rfl) ?_
    refine pl_take (.int .i64 (ov65 : Int)) rfl (by kernel_rfl) (by kernel_rfl) (by kernel_rfl) (by kernel_rfl) ?_
    refine pl_take (.int .i64 0) rfl (by kernel_rfl) (by kernel_rfl) (by kernel_rfl) (by kernel_rfl) ?_
    refine pl_nil ?_
    refine qw_then ?_
    refine cw_clean [11, 12, 13, 14, 17, 20, 21, 22, 23, 24, 25, 26, 27, 28, 29, 30, 31, 32, 33] (ws' := [(11, .bool true), (12, .slice a1 k1 c1), (13, .int .i64 (((nk10 : Nat) : Int) : Int)), (14, .int .i64 (pk11 : Int)), (17, .slice a9 i c9), (20, .int .i64 (f48 : Int)), (21, .int .i64 0), (22, .int .i64 (f51 : Int)), (23, .int .i64 0), (24, .int .i64 (b54 : Int)), (25, .int .i64 (t55 : Int)), (26, .int .i64 0), (27, .int .i64 (b58 : Int)), (28, .int .i64 (t59 : Int)), (29, .int .i64 0), (30, .int .i64 (ov62 : Int)), (31, .int .i64 0), (32, .int .i64 (ov65 : Int)), (33, .int .i64 0)]) (by kernel_rfl) (fun L => ?_)
    refine cw_seq ?_
    refine cw_plain ?_
    refine pl_take (.slice a1 k1 c1) rfl (by kernel_rfl) (by kernel_rfl) (by kernel_rfl) (by kernel_rfl) ?_
    refine pl_step rfl (by kernel_rfl) (by kernel_rfl) (by kernel_rfl) (sn_call (f := 15) (args := #[.slice a1 k1 c1]) (by kernel_rfl) ((Rows_y _ _ hLm hX9 hok).mono ?_))
    rintro e w72 ⟨ra68, rk69, rc70, rfl, hRw71, hb⟩
    replace hE := hE.trans hb
    replace hX9 := hX9.trans hb
    replace hX47 := hX47.trans hb
    have hs73 := hb.size
    clear hb
    have hX74 : Ext w72 w72 := Ext.refl _
    have hlR1 := hRw71.1; have hmR1 := hRw71.2.1
    obtain ⟨gR1, fbR1, fcR1, haR1, hgR1, hcR1, hnR1⟩ := hRw71.parts
    refine ⟨_, rfl, ?_⟩
    refine pl_take (.tuple #[.slice ra68 rk69 rc70, .int .i64 0]) rfl (by kernel_rfl) (by kernel_rfl) (by kernel_rfl) (by kernel_rfl) ?_
    refine pl_take (.slice ra68 rk69 rc70) rfl (by kernel_rfl) (by kernel_rfl) (by kernel_rfl) (by kernel_rfl) ?_
    refine pl_take (.int .i64 0) rfl (by kernel_rfl) (by kernel_rfl) (by kernel_rfl) (by kernel_rfl) ?_
    refine pl_take (.slice ra68 rk69 rc70) rfl (by kernel_rfl) (by kernel_rfl) (by kernel_rfl) (by kernel_rfl) ?_
    refine pl_take (.int .i64 0) rfl (by kernel_rfl) (by kernel_rfl) (by kernel_rfl) (by kernel_rfl) ?_
    refine pl_nil ?_
    refine qw_then ?_
    refine cw_clean [11, 12, 13, 14, 17, 20, 21, 22, 23, 24, 25, 26, 27, 28, 29, 30, 31, 32, 33, 34, 35] (ws' := [(11, .bool true), (12, .slice a1 k1 c1), (13, .int .i64 (((nk10 : Nat) : Int) : Int)), (14, .int .i64 (pk11 : Int)), (17, .slice a9 i c9), (20, .int .i64 (f48 : Int)), (21, .int .i64 0), (22, .int .i64 (f51 : Int)), (23, .int .i64 0), (24, .int .i64 (b54 : Int)), (25, .int .i64 (t55 : Int)), (26, .int .i64 0), (27, .int .i64 (b58 : Int)), (28, .int .i64 (t59 : Int)), (29, .int .i64 0), (30, .int .i64 (ov62 : Int)), (31, .int .i64 0), (32, .int .i64 (ov65 : Int)), (33, .int .i64 0), (34, .slice ra68 rk69 rc70), (35, .int .i64 0)]) (by kernel_rfl) (fun L => ?_)
    refine cw_seq ?_
    refine cw_plain ?_
    refine pl_take (.slice a9 i c9) rfl (by kernel_rfl) (by kernel_rfl) (by kernel_rfl) (by kernel_rfl) ?_
    refine pl_step rfl (by kernel_rfl) (by kernel_rfl) (by kernel_rfl) (sn_call (f := 15) (args := #[.slice a9 i c9]) (by kernel_rfl) ((Rows_y _ _ hM hX47 hok2).mono ?_))
    rintro e w79 ⟨ra75, rk76, rc77, rfl, hRw78, hb⟩
    replace hE := hE.trans hb
    replace hX9 := hX9.trans hb
    replace hX47 := hX47.trans hb
    replace hX74 := hX74.trans hb
    have hs80 := hb.size
    clear hb
    have hX81 : Ext w79 w79 := Ext.refl _
    have hlR2 := hRw78.1; have hmR2 := hRw78.2.1
    obtain ⟨gR2, fbR2, fcR2, haR2, hgR2, hcR2, hnR2⟩ := hRw78.parts
    refine ⟨_, rfl, ?_⟩
    refine pl_take (.tuple #[.slice ra75 rk76 rc77, .int .i64 0]) rfl (by kernel_rfl) (by kernel_rfl) (by kernel_rfl) (by kernel_rfl) ?_
    refine pl_take (.slice ra75 rk76 rc77) rfl (by kernel_rfl) (by kernel_rfl) (by kernel_rfl) (by kernel_rfl) ?_
    refine pl_take (.int .i64 0) rfl (by kernel_rfl) (by kernel_rfl) (by kernel_rfl) (by kernel_rfl) ?_
    refine pl_take (.slice ra75 rk76 rc77) rfl (by kernel_rfl) (by kernel_rfl) (by kernel_rfl) (by kernel_rfl) ?_
    refine pl_take (.int .i64 0) rfl (by kernel_rfl) (by kernel_rfl) (by kernel_rfl) (by kernel_rfl) ?_
    refine pl_nil ?_
    refine qw_then ?_
    refine cw_clean [11, 12, 13, 14, 20, 21, 22, 23, 24, 25, 26, 27, 28, 29, 30, 31, 32, 33, 34, 35, 36, 37] (ws' := [(11, .bool true), (12, .slice a1 k1 c1), (13, .int .i64 (((nk10 : Nat) : Int) : Int)), (14, .int .i64 (pk11 : Int)), (20, .int .i64 (f48 : Int)), (21, .int .i64 0), (22, .int .i64 (f51 : Int)), (23, .int .i64 0), (24, .int .i64 (b54 : Int)), (25, .int .i64 (t55 : Int)), (26, .int .i64 0), (27, .int .i64 (b58 : Int)), (28, .int .i64 (t59 : Int)), (29, .int .i64 0), (30, .int .i64 (ov62 : Int)), (31, .int .i64 0), (32, .int .i64 (ov65 : Int)), (33, .int .i64 0), (34, .slice ra68 rk69 rc70), (35, .int .i64 0), (36, .slice ra75 rk76 rc77), (37, .int .i64 0)]) (by kernel_rfl) (fun L => ?_)
    refine cw_seq ?_
    refine cw_seq ?_
    have hf1 := hMv.fill (pk12 + pk11); rw [Int.add_sub_cancel, hf48, hf51] at hf1
    obtain ⟨hm1, hm2⟩ := hMv.most hmb54 hmb58
    obtain ⟨hp1, hp2⟩ := hMv.over hf hov62 hov65
    have hrl := hMv.rlen; rw [hlR1, hlR2] at hrl
    have hpl := Mem.over_bd (c := 99) (by omega) hov62 (fun x hx => (hbd x hx).2.1)
    have hwl := Mem.most_bd (c := 99) (by omega) hmb54 (fun x hx => (hbd x hx).2.1)
    clear hok2
    refine cw_plain ?_
    refine pl_take (.int .i64 0) rfl (by kernel_rfl) (by kernel_rfl) (by kernel_rfl) (by kernel_rfl) ?_
    refine pl_take (.bool false) rfl (by kernel_rfl) (by kernel_rfl) (by kernel_rfl) (by kernel_rfl) ?_
    refine pl_take (.bool false) rfl (by kernel_rfl) (by kernel_rfl) (by kernel_rfl) (by kernel_rfl) ?_
    refine pl_take (.int .i64 0) rfl (by kernel_rfl) (by kernel_rfl) (by kernel_rfl) (by kernel_rfl) ?_
    refine pl_take (.bool false) rfl (by kernel_rfl) (by kernel_rfl) (by kernel_rfl) (by kernel_rfl) ?_
    refine pl_take (.bool false) rfl (by kernel_rfl) (by kernel_rfl) (by kernel_rfl) (by kernel_rfl) ?_
    refine pl_take (.bool false) rfl (by kernel_rfl) (by kernel_rfl) (by kernel_rfl) (by kernel_rfl) ?_
    refine pl_take (.int .i64 0) rfl (by kernel_rfl) (by kernel_rfl) (by kernel_rfl) (by kernel_rfl) ?_
    refine pl_take (.bool false) rfl (by kernel_rfl) (by kernel_rfl) (by kernel_rfl) (by kernel_rfl) ?_
    refine pl_take (.bool false) rfl (by kernel_rfl) (by kernel_rfl) (by kernel_rfl) (by kernel_rfl) ?_
    refine pl_take (.bool false) rfl (by kernel_rfl) (by kernel_rfl) (by kernel_rfl) (by kernel_rfl) ?_
    refine pl_take (.int .i64 0) rfl (by kernel_rfl) (by kernel_rfl) (by kernel_rfl) (by kernel_rfl) ?_
    refine pl_take (.bool false) rfl (by kernel_rfl) (by kernel_rfl) (by kernel_rfl) (by kernel_rfl) ?_
    refine pl_take (.bool false) rfl (by kernel_rfl) (by kernel_rfl) (by kernel_rfl) (by kernel_rfl) ?_
    refine pl_take (.bool false) rfl (by kernel_rfl) (by kernel_rfl) (by kernel_rfl) (by kernel_rfl) ?_
    refine pl_take (.int .i64 0) rfl (by kernel_rfl) (by kernel_rfl) (by kernel_rfl) (by kernel_rfl) ?_
    refine pl_take (.bool false) rfl (by kernel_rfl) (by kernel_rfl) (by kernel_rfl) (by kernel_rfl) ?_
    refine pl_take (.bool false) rfl (by kernel_rfl) (by kernel_rfl) (by kernel_rfl) (by kernel_rfl) ?_
    refine pl_take (.bool false) rfl (by kernel_rfl) (by kernel_rfl) (by kernel_rfl) (by kernel_rfl) ?_
    refine pl_take (.int .i64 0) rfl (by kernel_rfl) (by kernel_rfl) (by kernel_rfl) (by kernel_rfl) ?_
    refine pl_take (.bool false) rfl (by kernel_rfl) (by kernel_rfl) (by kernel_rfl) (by kernel_rfl) ?_
    refine pl_take (.bool false) rfl (by kernel_rfl) (by kernel_rfl) (by kernel_rfl) (by kernel_rfl) ?_
    refine pl_take (.bool false) rfl (by kernel_rfl) (by kernel_rfl) (by kernel_rfl) (by kernel_rfl) ?_
    refine pl_take (.int .i64 0) rfl (by kernel_rfl) (by kernel_rfl) (by kernel_rfl) (by kernel_rfl) ?_
    refine pl_take (.bool false) rfl (by kernel_rfl) (by kernel_rfl) (by kernel_rfl) (by kernel_rfl) ?_
    refine pl_take (.bool false) rfl (by kernel_rfl) (by kernel_rfl) (by kernel_rfl) (by kernel_rfl) ?_
    refine pl_take (.bool false) rfl (by kernel_rfl) (by kernel_rfl) (by kernel_rfl) (by kernel_rfl) ?_
    refine pl_take (.int .i64 0) rfl (by kernel_rfl) (by kernel_rfl) (by kernel_rfl) (by kernel_rfl) ?_
    refine pl_take (.bool false) rfl (by kernel_rfl) (by kernel_rfl) (by kernel_rfl) (by kernel_rfl) ?_
    refine pl_take (.bool false) rfl (by kernel_rfl) (by kernel_rfl) (by kernel_rfl) (by kernel_rfl) ?_
    refine pl_take (.bool false) rfl (by kernel_rfl) (by kernel_rfl) (by kernel_rfl) (by kernel_rfl) ?_
    refine pl_take (.int .i64 (f48 : Int)) rfl (by kernel_rfl) (by kernel_rfl) (by kernel_rfl) (by kernel_rfl) ?_
    refine pl_take (.int .i64 (f51 : Int)) rfl (by kernel_rfl) (by kernel_rfl) (by kernel_rfl) (by kernel_rfl) ?_
    refine pl_take (.bool false) rfl (by kernel_rfl) (by kernel_rfl) (by kernel_rfl) (ev_nne (show _ = Result.ok (Next.value (Value.bool ((f48 : Int) != (f51 : Int)))) _ from by kernel_rfl) (by omega)) ?_
    refine pl_take (.bool false) rfl (by kernel_rfl) (by kernel_rfl) (by kernel_rfl) (by kernel_rfl) ?_
    refine pl_take (.bool false) rfl (by kernel_rfl) (by kernel_rfl) (by kernel_rfl) (by kernel_rfl) ?_
    refine pl_take (.int .i64 (b54 : Int)) rfl (by kernel_rfl) (by kernel_rfl) (by kernel_rfl) (by kernel_rfl) ?_
    refine pl_take (.int .i64 (b58 : Int)) rfl (by kernel_rfl) (by kernel_rfl) (by kernel_rfl) (by kernel_rfl) ?_
    refine pl_take (.bool false) rfl (by kernel_rfl) (by kernel_rfl) (by kernel_rfl) (ev_nne (show _ = Result.ok (Next.value (Value.bool ((b54 : Int) != (b58 : Int)))) _ from by kernel_rfl) (by omega)) ?_
    refine pl_take (.bool false) rfl (by kernel_rfl) (by kernel_rfl) (by kernel_rfl) (by kernel_rfl) ?_
    refine pl_take (.bool false) rfl (by kernel_rfl) (by kernel_rfl) (by kernel_rfl) (by kernel_rfl) ?_
    refine pl_take (.slice ra68 rk69 rc70) rfl (by kernel_rfl) (by kernel_rfl) (by kernel_rfl) (by kernel_rfl) ?_
    refine pl_take (.int .i64 (((rk69 : Nat) : Int) : Int)) rfl (by kernel_rfl) (by kernel_rfl) (by kernel_rfl) (by kernel_rfl) ?_
    refine pl_take (.slice ra75 rk76 rc77) rfl (by kernel_rfl) (by kernel_rfl) (by kernel_rfl) (by kernel_rfl) ?_
    refine pl_take (.int .i64 (((rk76 : Nat) : Int) : Int)) rfl (by kernel_rfl) (by kernel_rfl) (by kernel_rfl) (by kernel_rfl) ?_
    refine pl_take (.bool false) rfl (by kernel_rfl) (by kernel_rfl) (by kernel_rfl) (ev_nne (show _ = Result.ok (Next.value (Value.bool ((((rk69 : Nat) : Int) : Int) != (((rk76 : Nat) : Int) : Int)))) _ from by kernel_rfl) (by omega)) ?_
    refine pl_take (.bool false) rfl (by kernel_rfl) (by kernel_rfl) (by kernel_rfl) (by kernel_rfl) ?_
    refine pl_nil ?_
    refine qw_then ?_
    refine cw_clean [11, 12, 13, 14, 25, 28, 30, 32, 34, 36, 186] (ws' := [(11, .bool true), (12, .slice a1 k1 c1), (13, .int .i64 (((nk10 : Nat) : Int) : Int)), (14, .int .i64 (pk11 : Int)), (25, .int .i64 (t55 : Int)), (28, .int .i64 (t59 : Int)), (30, .int .i64 (ov62 : Int)), (32, .int .i64 (ov65 : Int)), (34, .slice ra68 rk69 rc70), (36, .slice ra75 rk76 rc77), (186, .bool false)]) (by kernel_rfl) (fun L => ?_)
    refine cw_f (by kernel_rfl) ?_
    refine cw_skip ?_
    refine qw_then ?_
    refine cw_seq ?_
    refine cw_seq ?_
    refine cw_plain ?_
    refine pl_take (.slice a1 k1 c1) rfl (by kernel_rfl) (by kernel_rfl) (by kernel_rfl) (by kernel_rfl) ?_
    refine pl_take (.int .i64 (((k1 : Nat) : Int) : Int)) rfl (by kernel_rfl) (by kernel_rfl) (by kernel_rfl) (by kernel_rfl) ?_
    by_cases hc82 : (((k1 : Nat) : Int) : Int) > (0 : Int)
    ·
      refine pl_take (.bool true) rfl (by kernel_rfl) (by kernel_rfl) (by kernel_rfl) (ev_dec (show _ = Result.ok (Next.value (Value.bool (decide ((((k1 : Nat) : Int) : Int) > (0 : Int))))) _ from by kernel_rfl) (hc82)) ?_
      refine pl_take (.bool true) rfl (by kernel_rfl) (by kernel_rfl) (by kernel_rfl) (by kernel_rfl) ?_
      refine pl_take (.int .i64 (t55 : Int)) rfl (by kernel_rfl) (by kernel_rfl) (by kernel_rfl) (by kernel_rfl) ?_
      refine pl_take (.int .i64 (pk11 : Int)) rfl (by kernel_rfl) (by kernel_rfl) (by kernel_rfl) (by kernel_rfl) ?_
      refine pl_take (.int .i64 (t55 + pk11 : Int)) rfl (by kernel_rfl) (by kernel_rfl) (by kernel_rfl) (ev_wrap (by kernel_rfl) (by omega) (by omega)) ?_
      refine pl_take (.int .i64 (t59 : Int)) rfl (by kernel_rfl) (by kernel_rfl) (by kernel_rfl) (by kernel_rfl) ?_
      refine pl_take (.bool false) rfl (by kernel_rfl) (by kernel_rfl) (by kernel_rfl) (ev_nne (show _ = Result.ok (Next.value (Value.bool ((t55 + pk11 : Int) != (t59 : Int)))) _ from by kernel_rfl) (hm2 (by omega))) ?_
      refine pl_take (.bool false) rfl (by kernel_rfl) (by kernel_rfl) (by kernel_rfl) (by kernel_rfl) ?_
      refine pl_take (.bool false) rfl (by kernel_rfl) (by kernel_rfl) (by kernel_rfl) (by kernel_rfl) ?_
      refine pl_take (.int .i64 (ov62 : Int)) rfl (by kernel_rfl) (by kernel_rfl) (by kernel_rfl) (by kernel_rfl) ?_
      by_cases hc83 : (ov62 : Int) < (0 : Int)
      ·
        refine pl_take (.bool true) rfl (by kernel_rfl) (by kernel_rfl) (by kernel_rfl) (ev_dec (show _ = Result.ok (Next.value (Value.bool (decide ((ov62 : Int) < (0 : Int))))) _ from by kernel_rfl) (hc83)) ?_
        refine pl_take (.int .i64 (ov65 : Int)) rfl (by kernel_rfl) (by kernel_rfl) (by kernel_rfl) (by kernel_rfl) ?_
        refine pl_take (.bool true) rfl (by kernel_rfl) (by kernel_rfl) (by kernel_rfl) (ev_dec (show _ = Result.ok (Next.value (Value.bool (decide ((ov65 : Int) < (0 : Int))))) _ from by kernel_rfl) (by omega)) ?_
        refine pl_take (.bool false) rfl (by kernel_rfl) (by kernel_rfl) (by kernel_rfl) (by kernel_rfl) ?_
        refine pl_take (.bool false) rfl (by kernel_rfl) (by kernel_rfl) (by kernel_rfl) (by kernel_rfl) ?_
        refine pl_take (.bool false) rfl (by kernel_rfl) (by kernel_rfl) (by kernel_rfl) (by kernel_rfl) ?_
        refine pl_take (.int .i64 (ov62 : Int)) rfl (by kernel_rfl) (by kernel_rfl) (by kernel_rfl) (by kernel_rfl) ?_
        refine pl_take (.bool false) rfl (by kernel_rfl) (by kernel_rfl) (by kernel_rfl) (ev_ndec (show _ = Result.ok (Next.value (Value.bool (decide ((ov62 : Int) ≥ (0 : Int))))) _ from by kernel_rfl) (by omega)) ?_
        refine pl_take (.bool false) rfl (by kernel_rfl) (by kernel_rfl) (by kernel_rfl) (by kernel_rfl) ?_
        refine pl_skip rfl (by kernel_rfl) (by kernel_rfl) (by kernel_rfl) ?_
        refine pl_skip rfl (by kernel_rfl) (by kernel_rfl) (by kernel_rfl) ?_
        refine pl_skip rfl (by kernel_rfl) (by kernel_rfl) (by kernel_rfl) ?_
        refine pl_skip rfl (by kernel_rfl) (by kernel_rfl) (by kernel_rfl) ?_
        refine pl_skip rfl (by kernel_rfl) (by kernel_rfl) (by kernel_rfl) ?_
        refine pl_take (.bool false) rfl (by kernel_rfl) (by kernel_rfl) (by kernel_rfl) (by kernel_rfl) ?_
        refine pl_take (.bool false) rfl (by kernel_rfl) (by kernel_rfl) (by kernel_rfl) (by kernel_rfl) ?_
        refine pl_nil ?_
        refine qw_then ?_
        refine cw_clean [11, 12, 13, 34, 36, 214] (ws' := [(11, .bool true), (12, .slice a1 k1 c1), (13, .int .i64 (((nk10 : Nat) : Int) : Int)), (34, .slice ra68 rk69 rc70), (36, .slice ra75 rk76 rc77), (214, .bool false)]) (by kernel_rfl) (fun L => ?_)
        refine cw_f (by kernel_rfl) ?_
        refine cw_skip ?_
        refine qw_then ?_
        refine cw_seq ?_
        refine cw_seq ?_
        refine cw_plain ?_
        refine pl_take (.int .i64 0) rfl (by kernel_rfl) (by kernel_rfl) (by kernel_rfl) (by kernel_rfl) ?_
        refine pl_nil ?_
        refine qw_then ?_
        refine cw_block ?_
        refine cw_loop [11, 12, 13, 34, 36, 38] (fun ws' wr m => ∃ r : Nat, ws' = [(11, .bool true), (12, .slice a1 k1 c1), (13, .int .i64 (((nk10 : Nat) : Int) : Int)), (34, .slice ra68 rk69 rc70), (36, .slice ra75 rk76 rc77), (38, .int .i64 (((r : Nat) : Int) : Int))] ∧ m = rk69 - r ∧ w79.heap.size ≤ wr.heap.size ∧ Ext w wr ∧ Ext w7 wr ∧ Ext w15 wr ∧ Ext w72 wr ∧ Ext w79 wr ∧ r ≤ rk69) (ws0 := [(11, .bool true), (12, .slice a1 k1 c1), (13, .int .i64 (((nk10 : Nat) : Int) : Int)), (34, .slice ra68 rk69 rc70), (36, .slice ra75 rk76 rc77), (38, .int .i64 0)]) (by kernel_rfl) _ ⟨0, rfl, rfl, Nat.le_refl _, hE, hX9, hX47, hX74, hX81, Nat.zero_le _⟩ ?_
        clear hE hX9 hX47 hX74 hX81
        rintro m86 L ws w85 ⟨r, rfl, rfl, hs84, hE, hX9, hX47, hX74, hX81, hr⟩
        by_cases hlt : r < rk69
        ·
          obtain rfl := haR1 (by omega)
          have qR87 := hcR1 r (by omega)
          have hrl88 : (snN (Mem.rowsR l) r).length ≤ (l).length := Mem.row_len r
          obtain rfl := haR2 (by omega)
          have qR89 := hcR2 r (by omega)
          have hrl90 : (snN (Mem.rowsR (Mem.mvL l k1 nk10 pk11 k1)) r).length ≤ (Mem.mvL l k1 nk10 pk11 k1).length := Mem.row_len r
          obtain ⟨t9, he1, he2⟩ := hMv.row (r := r) (by omega)
          have hbt := hMv.bits (by omega) t9
          rw [← he1, ← he2, hll] at hbt
          have hk0 : 0 < k1 := by
            obtain ⟨s9, hs9, _⟩ := Mem.row_is (l := l) (i := r) (by omega)
            obtain ⟨x, hx, _⟩ := Mem.mem_begs.1 hs9
            rw [← hll]; exact List.length_pos_of_mem hx
          refine cw_seq ?_
          refine cw_seq ?_
          refine cw_plain ?_
          refine pl_take (.int .i64 (((r : Nat) : Int) : Int)) rfl (by kernel_rfl) (by kernel_rfl) (by kernel_rfl) (by kernel_rfl) ?_
          refine pl_take (.slice (some ⟨gR1, 0, none⟩) rk69 rc70) rfl (by kernel_rfl) (by kernel_rfl) (by kernel_rfl) (by kernel_rfl) ?_
          refine pl_take (.int .i64 (((rk69 : Nat) : Int) : Int)) rfl (by kernel_rfl) (by kernel_rfl) (by kernel_rfl) (by kernel_rfl) ?_
          refine pl_take (.bool true) rfl (by kernel_rfl) (by kernel_rfl) (by kernel_rfl) (ev_dec (show _ = Result.ok (Next.value (Value.bool (decide ((((r : Nat) : Int) : Int) < (((rk69 : Nat) : Int) : Int))))) _ from by kernel_rfl) (by omega)) ?_
          refine pl_nil ?_
          refine qw_then ?_
          refine cw_t (by kernel_rfl) ?_
          refine cw_skip ?_
          refine qw_then ?_
          refine cw_seq ?_
          refine cw_block ?_
          refine cw_seq ?_
          refine cw_plain ?_
          refine pl_take (.int .i64 0) rfl (by kernel_rfl) (by kernel_rfl) (by kernel_rfl) (by kernel_rfl) ?_
          refine pl_nil ?_
          refine qw_then ?_
          refine cw_seq ?_
          refine cw_plain ?_
          refine pl_take (.int .i64 0) rfl (by kernel_rfl) (by kernel_rfl) (by kernel_rfl) (by kernel_rfl) ?_
          refine pl_nil ?_
          refine qw_then ?_
          refine cw_seq ?_
          refine cw_seq ?_
          refine cw_plain ?_
          refine pl_take (.int .i64 0) rfl (by kernel_rfl) (by kernel_rfl) (by kernel_rfl) (by kernel_rfl) ?_
          refine pl_nil ?_
          refine qw_then ?_
          refine cw_block ?_
          refine cw_loop [11, 12, 13, 34, 36, 38, 39, 40, 41] (fun ws' wr m => ∃ j : Nat, ∃ zb : Nat, ws' = [(11, .bool true), (12, .slice a1 k1 c1), (13, .int .i64 (((nk10 : Nat) : Int) : Int)), (34, .slice (some ⟨gR1, 0, none⟩) rk69 rc70), (36, .slice (some ⟨gR2, 0, none⟩) rk76 rc77), (38, .int .i64 (((r : Nat) : Int) : Int)), (39, .int .i64 (((zb : Nat) : Int) : Int)), (40, .int .i64 0), (41, .int .i64 (((j : Nat) : Int) : Int))] ∧ m = (snN (Mem.rowsR l) r).length - j ∧ w85.heap.size ≤ wr.heap.size ∧ Ext w wr ∧ Ext w7 wr ∧ Ext w15 wr ∧ Ext w72 wr ∧ Ext w79 wr ∧ j ≤ (snN (Mem.rowsR l) r).length ∧ zb = Mem.bitsOf ((snN (Mem.rowsR l) r).take j)) (ws0 := [(11, .bool true), (12, .slice a1 k1 c1), (13, .int .i64 (((nk10 : Nat) : Int) : Int)), (34, .slice (some ⟨gR1, 0, none⟩) rk69 rc70), (36, .slice (some ⟨gR2, 0, none⟩) rk76 rc77), (38, .int .i64 (((r : Nat) : Int) : Int)), (39, .int .i64 0), (40, .int .i64 0), (41, .int .i64 0)]) (by kernel_rfl) _ ⟨0, 0, rfl, rfl, Nat.le_refl _, hE, hX9, hX47, hX74, hX81, Nat.zero_le _, rfl⟩ ?_
          clear hE hX9 hX47 hX74 hX81
          rintro m93 L ws w92 ⟨j, zb, rfl, rfl, hs91, hE, hX9, hX47, hX74, hX81, hj, hzb⟩
          by_cases hlt : j < (snN (Mem.rowsR l) r).length
          ·
            have qe94 := (hnR1 r (by omega)).2 j _ (Mem.natN_at hlt)
            have hnl95 := Mem.row_lt (l := l) (i := r) (by omega) hlt
            have hbl := Mem.row_bits (l := l) (by omega) (r := r) (by omega) j
            rw [← hzb] at hbl
            refine cw_seq ?_
            refine cw_seq ?_
            refine cw_plain ?_
            refine pl_take (.int .i64 (((j : Nat) : Int) : Int)) rfl (by kernel_rfl) (by kernel_rfl) (by kernel_rfl) (by kernel_rfl) ?_
            refine pl_take (.slice (some ⟨gR1, 0, none⟩) rk69 rc70) rfl (by kernel_rfl) (by kernel_rfl) (by kernel_rfl) (by kernel_rfl) ?_
            refine pl_take (.int .i64 (((r : Nat) : Int) : Int)) rfl (by kernel_rfl) (by kernel_rfl) (by kernel_rfl) (by kernel_rfl) ?_
            refine pl_take (.pointer (some ⟨gR1, r, none⟩)) rfl (by kernel_rfl) (by kernel_rfl) (by kernel_rfl) (ex_index (p := .slice (some ⟨gR1, 0, none⟩) rk69 rc70) (i := .int .i64 ((r : Nat) : Int)) rfl (by kernel_rfl) (by kernel_rfl) (ix39z (k := r) (by omega))) ?_
            refine pl_take (.slice (some ⟨(fbR1 r), 0, none⟩) ((snN (Mem.rowsR l) r).length) ((fcR1 r))) rfl (by kernel_rfl) (by kernel_rfl) (by kernel_rfl) (ex_load rfl (by kernel_rfl) (ld56 ((hX74.cell qR87)))) ?_
            refine pl_take (.int .i64 ((((snN (Mem.rowsR l) r).length : Nat) : Int) : Int)) rfl (by kernel_rfl) (by kernel_rfl) (by kernel_rfl) (by kernel_rfl) ?_
            refine pl_take (.bool true) rfl (by kernel_rfl) (by kernel_rfl) (by kernel_rfl) (ev_dec (show _ = Result.ok (Next.value (Value.bool (decide ((((j : Nat) : Int) : Int) < ((((snN (Mem.rowsR l) r).length : Nat) : Int) : Int))))) _ from by kernel_rfl) (by omega)) ?_
            refine pl_nil ?_
            refine qw_then ?_
            refine cw_clean [11, 12, 13, 34, 36, 38, 39, 40, 41, 227] (ws' := [(11, .bool true), (12, .slice a1 k1 c1), (13, .int .i64 (((nk10 : Nat) : Int) : Int)), (34, .slice (some ⟨gR1, 0, none⟩) rk69 rc70), (36, .slice (some ⟨gR2, 0, none⟩) rk76 rc77), (38, .int .i64 (((r : Nat) : Int) : Int)), (39, .int .i64 (((zb : Nat) : Int) : Int)), (40, .int .i64 0), (41, .int .i64 (((j : Nat) : Int) : Int)), (227, .bool true)]) (by kernel_rfl) (fun L => ?_)
            refine cw_t (by kernel_rfl) ?_
            refine cw_skip ?_
            refine qw_then ?_
            refine cw_seq ?_
            refine cw_block ?_
            refine cw_seq ?_
            refine cw_seq ?_
            refine cw_plain ?_
            refine pl_take (.slice (some ⟨gR1, 0, none⟩) rk69 rc70) rfl (by kernel_rfl) (by kernel_rfl) (by kernel_rfl) (by kernel_rfl) ?_
            refine pl_take (.int .i64 (((r : Nat) : Int) : Int)) rfl (by kernel_rfl) (by kernel_rfl) (by kernel_rfl) (by kernel_rfl) ?_
            refine pl_take (.pointer (some ⟨gR1, r, none⟩)) rfl (by kernel_rfl) (by kernel_rfl) (by kernel_rfl) (ex_index (p := .slice (some ⟨gR1, 0, none⟩) rk69 rc70) (i := .int .i64 ((r : Nat) : Int)) rfl (by kernel_rfl) (by kernel_rfl) (ix39z (k := r) (by omega))) ?_
            refine pl_take (.slice (some ⟨(fbR1 r), 0, none⟩) ((snN (Mem.rowsR l) r).length) ((fcR1 r))) rfl (by kernel_rfl) (by kernel_rfl) (by kernel_rfl) (ex_load rfl (by kernel_rfl) (ld56 ((hX74.cell qR87)))) ?_
            refine pl_take (.int .i64 (((j : Nat) : Int) : Int)) rfl (by kernel_rfl) (by kernel_rfl) (by kernel_rfl) (by kernel_rfl) ?_
            refine pl_take (.pointer (some ⟨(fbR1 r), j, none⟩)) rfl (by kernel_rfl) (by kernel_rfl) (by kernel_rfl) (ex_index (p := .slice (some ⟨(fbR1 r), 0, none⟩) ((snN (Mem.rowsR l) r).length) ((fcR1 r))) (i := .int .i64 ((j : Nat) : Int)) rfl (by kernel_rfl) (by kernel_rfl) (ix56z (k := j) (by omega))) ?_
            refine pl_take (.int .i64 (((Mem.natN (snN (Mem.rowsR l) r) j : Nat) : Int) : Int)) rfl (by kernel_rfl) (by kernel_rfl) (by kernel_rfl) (ex_load rfl (by kernel_rfl) (ld3 ((hX74.cell qe94)))) ?_
            refine pl_take (.bool false) rfl (by kernel_rfl) (by kernel_rfl) (by kernel_rfl) (ev_ndec (show _ = Result.ok (Next.value (Value.bool (decide ((((Mem.natN (snN (Mem.rowsR l) r) j : Nat) : Int) : Int) < (0 : Int))))) _ from by kernel_rfl) (by omega)) ?_
            refine pl_take (.bool false) rfl (by kernel_rfl) (by kernel_rfl) (by kernel_rfl) (by kernel_rfl) ?_
            refine pl_take (.slice (some ⟨gR1, 0, none⟩) rk69 rc70) rfl (by kernel_rfl) (by kernel_rfl) (by kernel_rfl) (by kernel_rfl) ?_
            refine pl_take (.int .i64 (((r : Nat) : Int) : Int)) rfl (by kernel_rfl) (by kernel_rfl) (by kernel_rfl) (by kernel_rfl) ?_
            refine pl_take (.pointer (some ⟨gR1, r, none⟩)) rfl (by kernel_rfl) (by kernel_rfl) (by kernel_rfl) (ex_index (p := .slice (some ⟨gR1, 0, none⟩) rk69 rc70) (i := .int .i64 ((r : Nat) : Int)) rfl (by kernel_rfl) (by kernel_rfl) (ix39z (k := r) (by omega))) ?_
            refine pl_take (.slice (some ⟨(fbR1 r), 0, none⟩) ((snN (Mem.rowsR l) r).length) ((fcR1 r))) rfl (by kernel_rfl) (by kernel_rfl) (by kernel_rfl) (ex_load rfl (by kernel_rfl) (ld56 ((hX74.cell qR87)))) ?_
            refine pl_take (.int .i64 (((j : Nat) : Int) : Int)) rfl (by kernel_rfl) (by kernel_rfl) (by kernel_rfl) (by kernel_rfl) ?_
            refine pl_take (.pointer (some ⟨(fbR1 r), j, none⟩)) rfl (by kernel_rfl) (by kernel_rfl) (by kernel_rfl) (ex_index (p := .slice (some ⟨(fbR1 r), 0, none⟩) ((snN (Mem.rowsR l) r).length) ((fcR1 r))) (i := .int .i64 ((j : Nat) : Int)) rfl (by kernel_rfl) (by kernel_rfl) (ix56z (k := j) (by omega))) ?_
            refine pl_take (.int .i64 (((Mem.natN (snN (Mem.rowsR l) r) j : Nat) : Int) : Int)) rfl (by kernel_rfl) (by kernel_rfl) (by kernel_rfl) (ex_load rfl (by kernel_rfl) (ld3 ((hX74.cell qe94)))) ?_
            refine pl_take (.slice a1 k1 c1) rfl (by kernel_rfl) (by kernel_rfl) (by kernel_rfl) (by kernel_rfl) ?_
            refine pl_take (.int .i64 (((k1 : Nat) : Int) : Int)) rfl (by kernel_rfl) (by kernel_rfl) (by kernel_rfl) (by kernel_rfl) ?_
            refine pl_take (.bool false) rfl (by kernel_rfl) (by kernel_rfl) (by kernel_rfl) (ev_ndec (show _ = Result.ok (Next.value (Value.bool (decide ((((Mem.natN (snN (Mem.rowsR l) r) j : Nat) : Int) : Int) ≥ (((k1 : Nat) : Int) : Int))))) _ from by kernel_rfl) (by omega)) ?_
            refine pl_take (.bool false) rfl (by kernel_rfl) (by kernel_rfl) (by kernel_rfl) (by kernel_rfl) ?_
            refine pl_nil ?_
            refine qw_then ?_
            refine cw_clean [11, 12, 13, 34, 36, 38, 39, 40, 41, 249] (ws' := [(11, .bool true), (12, .slice a1 k1 c1), (13, .int .i64 (((nk10 : Nat) : Int) : Int)), (34, .slice (some ⟨gR1, 0, none⟩) rk69 rc70), (36, .slice (some ⟨gR2, 0, none⟩) rk76 rc77), (38, .int .i64 (((r : Nat) : Int) : Int)), (39, .int .i64 (((zb : Nat) : Int) : Int)), (40, .int .i64 0), (41, .int .i64 (((j : Nat) : Int) : Int)), (249, .bool false)]) (by kernel_rfl) (fun L => ?_)
            refine cw_f (by kernel_rfl) ?_
            refine cw_skip ?_
            refine qw_then ?_
            refine cw_plain ?_
            refine pl_take (.int .i64 (((zb : Nat) : Int) : Int)) rfl (by kernel_rfl) (by kernel_rfl) (by kernel_rfl) (by kernel_rfl) ?_
            refine pl_take (.slice (some ⟨gR1, 0, none⟩) rk69 rc70) rfl (by kernel_rfl) (by kernel_rfl) (by kernel_rfl) (by kernel_rfl) ?_
            refine pl_take (.int .i64 (((r : Nat) : Int) : Int)) rfl (by kernel_rfl) (by kernel_rfl) (by kernel_rfl) (by kernel_rfl) ?_
            refine pl_take (.pointer (some ⟨gR1, r, none⟩)) rfl (by kernel_rfl) (by kernel_rfl) (by kernel_rfl) (ex_index (p := .slice (some ⟨gR1, 0, none⟩) rk69 rc70) (i := .int .i64 ((r : Nat) : Int)) rfl (by kernel_rfl) (by kernel_rfl) (ix39z (k := r) (by omega))) ?_
            refine pl_take (.slice (some ⟨(fbR1 r), 0, none⟩) ((snN (Mem.rowsR l) r).length) ((fcR1 r))) rfl (by kernel_rfl) (by kernel_rfl) (by kernel_rfl) (ex_load rfl (by kernel_rfl) (ld56 ((hX74.cell qR87)))) ?_
            refine pl_take (.int .i64 (((j : Nat) : Int) : Int)) rfl (by kernel_rfl) (by kernel_rfl) (by kernel_rfl) (by kernel_rfl) ?_
            refine pl_take (.pointer (some ⟨(fbR1 r), j, none⟩)) rfl (by kernel_rfl) (by kernel_rfl) (by kernel_rfl) (ex_index (p := .slice (some ⟨(fbR1 r), 0, none⟩) ((snN (Mem.rowsR l) r).length) ((fcR1 r))) (i := .int .i64 ((j : Nat) : Int)) rfl (by kernel_rfl) (by kernel_rfl) (ix56z (k := j) (by omega))) ?_
            refine pl_take (.int .i64 (((Mem.natN (snN (Mem.rowsR l) r) j : Nat) : Int) : Int)) rfl (by kernel_rfl) (by kernel_rfl) (by kernel_rfl) (ex_load rfl (by kernel_rfl) (ld3 ((hX74.cell qe94)))) ?_
            refine pl_take (.int .i64 (((2 ^ (Mem.natN (snN (Mem.rowsR l) r) j) : Nat) : Int) : Int)) rfl (by kernel_rfl) (by kernel_rfl) (by kernel_rfl) (ex_bin rfl (by kernel_rfl) (by kernel_rfl) (bin_shl1 (by omega))) ?_
            refine pl_take (.int .i64 (((zb ||| (2 ^ (Mem.natN (snN (Mem.rowsR l) r) j)) : Nat) : Int) : Int)) rfl (by kernel_rfl) (by kernel_rfl) (by kernel_rfl) (ev_int (show _ = Result.ok (Next.value (Value.int .i64 (bits .or .i64 ((zb : Nat) : Int) ((2 ^ (Mem.natN (snN (Mem.rowsR l) r) j) : Nat) : Int)))) _ from by kernel_rfl) (or_i64 _ _ (by omega) (by have : 2 ^ (Mem.natN (snN (Mem.rowsR l) r) j) < 2 ^ 48 := Nat.pow_lt_pow_right (by decide) (by omega); omega))) ?_
            refine pl_take (.int .i64 (((zb ||| (2 ^ (Mem.natN (snN (Mem.rowsR l) r) j)) : Nat) : Int) : Int)) rfl (by kernel_rfl) (by kernel_rfl) (by kernel_rfl) (by kernel_rfl) ?_
            refine pl_nil ?_
            refine qw_block ?_
            refine qw_then ?_
            refine cw_clean [11, 12, 13, 34, 36, 38, 39, 40, 41] (ws' := [(11, .bool true), (12, .slice a1 k1 c1), (13, .int .i64 (((nk10 : Nat) : Int) : Int)), (34, .slice (some ⟨gR1, 0, none⟩) rk69 rc70), (36, .slice (some ⟨gR2, 0, none⟩) rk76 rc77), (38, .int .i64 (((r : Nat) : Int) : Int)), (39, .int .i64 (((zb ||| (2 ^ (Mem.natN (snN (Mem.rowsR l) r) j)) : Nat) : Int) : Int)), (40, .int .i64 0), (41, .int .i64 (((j : Nat) : Int) : Int))]) (by kernel_rfl) (fun L => ?_)
            refine cw_plain ?_
            refine pl_take (.int .i64 (((j : Nat) : Int) : Int)) rfl (by kernel_rfl) (by kernel_rfl) (by kernel_rfl) (by kernel_rfl) ?_
            refine pl_take (.int .i64 (((j + 1 : Nat) : Int) : Int)) rfl (by kernel_rfl) (by kernel_rfl) (by kernel_rfl) (ev_wrap (by kernel_rfl) (by omega) (by omega)) ?_
            refine pl_take (.int .i64 (((j + 1 : Nat) : Int) : Int)) rfl (by kernel_rfl) (by kernel_rfl) (by kernel_rfl) (by kernel_rfl) ?_
            refine pl_nil ?_
            refine qw_round [11, 12, 13, 34, 36, 38, 39, 40, 41] (ws' := [(11, .bool true), (12, .slice a1 k1 c1), (13, .int .i64 (((nk10 : Nat) : Int) : Int)), (34, .slice (some ⟨gR1, 0, none⟩) rk69 rc70), (36, .slice (some ⟨gR2, 0, none⟩) rk76 rc77), (38, .int .i64 (((r : Nat) : Int) : Int)), (39, .int .i64 (((zb ||| (2 ^ (Mem.natN (snN (Mem.rowsR l) r) j)) : Nat) : Int) : Int)), (40, .int .i64 0), (41, .int .i64 (((j + 1 : Nat) : Int) : Int))]) (by kernel_rfl) _ ?_ ⟨(j + 1), zb ||| (2 ^ (Mem.natN (snN (Mem.rowsR l) r) j)), rfl, rfl, hs91, hE, hX9, hX47, hX74, hX81, by omega, (by rw [Mem.natN_take hlt, Mem.bitsOf_snoc, ← hzb])⟩
            omega
          ·
            have hz9 : zb = Mem.bitsOf (snN (Mem.rowsR l) r) := by rw [hzb, show j = (snN (Mem.rowsR l) r).length by omega, List.take_length]
            refine cw_seq ?_
            refine cw_seq ?_
            refine cw_plain ?_
            refine pl_take (.int .i64 (((j : Nat) : Int) : Int)) rfl (by kernel_rfl) (by kernel_rfl) (by kernel_rfl) (by kernel_rfl) ?_
            refine pl_take (.slice (some ⟨gR1, 0, none⟩) rk69 rc70) rfl (by kernel_rfl) (by kernel_rfl) (by kernel_rfl) (by kernel_rfl) ?_
            refine pl_take (.int .i64 (((r : Nat) : Int) : Int)) rfl (by kernel_rfl) (by kernel_rfl) (by kernel_rfl) (by kernel_rfl) ?_
            refine pl_take (.pointer (some ⟨gR1, r, none⟩)) rfl (by kernel_rfl) (by kernel_rfl) (by kernel_rfl) (ex_index (p := .slice (some ⟨gR1, 0, none⟩) rk69 rc70) (i := .int .i64 ((r : Nat) : Int)) rfl (by kernel_rfl) (by kernel_rfl) (ix39z (k := r) (by omega))) ?_
            refine pl_take (.slice (some ⟨(fbR1 r), 0, none⟩) ((snN (Mem.rowsR l) r).length) ((fcR1 r))) rfl (by kernel_rfl) (by kernel_rfl) (by kernel_rfl) (ex_load rfl (by kernel_rfl) (ld56 ((hX74.cell qR87)))) ?_
            refine pl_take (.int .i64 ((((snN (Mem.rowsR l) r).length : Nat) : Int) : Int)) rfl (by kernel_rfl) (by kernel_rfl) (by kernel_rfl) (by kernel_rfl) ?_
            refine pl_take (.bool false) rfl (by kernel_rfl) (by kernel_rfl) (by kernel_rfl) (ev_ndec (show _ = Result.ok (Next.value (Value.bool (decide ((((j : Nat) : Int) : Int) < ((((snN (Mem.rowsR l) r).length : Nat) : Int) : Int))))) _ from by kernel_rfl) (by omega)) ?_
            refine pl_nil ?_
            refine qw_then ?_
            refine cw_clean [11, 12, 13, 34, 36, 38, 39, 40, 41, 227] (ws' := [(11, .bool true), (12, .slice a1 k1 c1), (13, .int .i64 (((nk10 : Nat) : Int) : Int)), (34, .slice (some ⟨gR1, 0, none⟩) rk69 rc70), (36, .slice (some ⟨gR2, 0, none⟩) rk76 rc77), (38, .int .i64 (((r : Nat) : Int) : Int)), (39, .int .i64 (((zb : Nat) : Int) : Int)), (40, .int .i64 0), (41, .int .i64 (((j : Nat) : Int) : Int)), (227, .bool false)]) (by kernel_rfl) (fun L => ?_)
            refine cw_f (by kernel_rfl) ?_
            refine cw_exit ?_
            refine qw_then_exit ?_
            refine qw_then_exit ?_
            refine qw_block_out ?_
            refine qw_then ?_
            refine cw_seq ?_
            refine cw_seq ?_
            refine cw_plain ?_
            refine pl_take (.int .i64 0) rfl (by kernel_rfl) (by kernel_rfl) (by kernel_rfl) (by kernel_rfl) ?_
            refine pl_nil ?_
            refine qw_then ?_
            refine cw_block ?_
            refine cw_loop [11, 12, 13, 34, 36, 38, 39, 40, 42] (fun ws' wr m => ∃ z : Nat, ∃ yb : Nat, ws' = [(11, .bool true), (12, .slice a1 k1 c1), (13, .int .i64 (((nk10 : Nat) : Int) : Int)), (34, .slice (some ⟨gR1, 0, none⟩) rk69 rc70), (36, .slice (some ⟨gR2, 0, none⟩) rk76 rc77), (38, .int .i64 (((r : Nat) : Int) : Int)), (39, .int .i64 (((zb : Nat) : Int) : Int)), (40, .int .i64 (((yb : Nat) : Int) : Int)), (42, .int .i64 (((z : Nat) : Int) : Int))] ∧ m = (snN (Mem.rowsR (Mem.mvL l k1 nk10 pk11 k1)) r).length - z ∧ w92.heap.size ≤ wr.heap.size ∧ Ext w wr ∧ Ext w7 wr ∧ Ext w15 wr ∧ Ext w72 wr ∧ Ext w79 wr ∧ z ≤ (snN (Mem.rowsR (Mem.mvL l k1 nk10 pk11 k1)) r).length ∧ yb = Mem.bitsOf (((snN (Mem.rowsR (Mem.mvL l k1 nk10 pk11 k1)) r).take z).map (fun j => (j + nk10) % k1))) (ws0 := [(11, .bool true), (12, .slice a1 k1 c1), (13, .int .i64 (((nk10 : Nat) : Int) : Int)), (34, .slice (some ⟨gR1, 0, none⟩) rk69 rc70), (36, .slice (some ⟨gR2, 0, none⟩) rk76 rc77), (38, .int .i64 (((r : Nat) : Int) : Int)), (39, .int .i64 (((zb : Nat) : Int) : Int)), (40, .int .i64 0), (42, .int .i64 0)]) (by kernel_rfl) _ ⟨0, 0, rfl, rfl, Nat.le_refl _, hE, hX9, hX47, hX74, hX81, Nat.zero_le _, rfl⟩ ?_
            clear hE hX9 hX47 hX74 hX81
            rintro m98 L ws w97 ⟨z, yb, rfl, rfl, hs96, hE, hX9, hX47, hX74, hX81, hz, hyb⟩
            by_cases hlt : z < (snN (Mem.rowsR (Mem.mvL l k1 nk10 pk11 k1)) r).length
            ·
              have qe99 := (hnR2 r (by omega)).2 z _ (Mem.natN_at hlt)
              have hnl100 := Mem.row_lt (l := Mem.mvL l k1 nk10 pk11 k1) (i := r) (by omega) hlt
              have hmd : (Mem.natN (snN (Mem.rowsR (Mem.mvL l k1 nk10 pk11 k1)) r) z + nk10) % k1 < k1 := Nat.mod_lt _ (by omega)
              have hbl := Mem.map_bits (s := (snN (Mem.rowsR (Mem.mvL l k1 nk10 pk11 k1)) r).take z) (k := nk10) (L := k1) (by omega) (by omega)
              rw [← hyb] at hbl
              refine cw_seq ?_
              refine cw_seq ?_
              refine cw_plain ?_
              refine pl_take (.int .i64 (((z : Nat) : Int) : Int)) rfl (by kernel_rfl) (by kernel_rfl) (by kernel_rfl) (by kernel_rfl) ?_
              refine pl_take (.slice (some ⟨gR2, 0, none⟩) rk76 rc77) rfl (by kernel_rfl) (by kernel_rfl) (by kernel_rfl) (by kernel_rfl) ?_
              refine pl_take (.int .i64 (((r : Nat) : Int) : Int)) rfl (by kernel_rfl) (by kernel_rfl) (by kernel_rfl) (by kernel_rfl) ?_
              refine pl_take (.pointer (some ⟨gR2, r, none⟩)) rfl (by kernel_rfl) (by kernel_rfl) (by kernel_rfl) (ex_index (p := .slice (some ⟨gR2, 0, none⟩) rk76 rc77) (i := .int .i64 ((r : Nat) : Int)) rfl (by kernel_rfl) (by kernel_rfl) (ix39z (k := r) (by omega))) ?_
              refine pl_take (.slice (some ⟨(fbR2 r), 0, none⟩) ((snN (Mem.rowsR (Mem.mvL l k1 nk10 pk11 k1)) r).length) ((fcR2 r))) rfl (by kernel_rfl) (by kernel_rfl) (by kernel_rfl) (ex_load rfl (by kernel_rfl) (ld56 ((hX81.cell qR89)))) ?_
              refine pl_take (.int .i64 ((((snN (Mem.rowsR (Mem.mvL l k1 nk10 pk11 k1)) r).length : Nat) : Int) : Int)) rfl (by kernel_rfl) (by kernel_rfl) (by kernel_rfl) (by kernel_rfl) ?_
              refine pl_take (.bool true) rfl (by kernel_rfl) (by kernel_rfl) (by kernel_rfl) (ev_dec (show _ = Result.ok (Next.value (Value.bool (decide ((((z : Nat) : Int) : Int) < ((((snN (Mem.rowsR (Mem.mvL l k1 nk10 pk11 k1)) r).length : Nat) : Int) : Int))))) _ from by kernel_rfl) (by omega)) ?_
              refine pl_nil ?_
              refine qw_then ?_
              refine cw_clean [11, 12, 13, 34, 36, 38, 39, 40, 42, 266] (ws' := [(11, .bool true), (12, .slice a1 k1 c1), (13, .int .i64 (((nk10 : Nat) : Int) : Int)), (34, .slice (some ⟨gR1, 0, none⟩) rk69 rc70), (36, .slice (some ⟨gR2, 0, none⟩) rk76 rc77), (38, .int .i64 (((r : Nat) : Int) : Int)), (39, .int .i64 (((zb : Nat) : Int) : Int)), (40, .int .i64 (((yb : Nat) : Int) : Int)), (42, .int .i64 (((z : Nat) : Int) : Int)), (266, .bool true)]) (by kernel_rfl) (fun L => ?_)
              refine cw_t (by kernel_rfl) ?_
              refine cw_skip ?_
              refine qw_then ?_
              refine cw_seq ?_
              refine cw_block ?_
              refine cw_seq ?_
              refine cw_seq ?_
              refine cw_plain ?_
              refine pl_take (.slice (some ⟨gR2, 0, none⟩) rk76 rc77) rfl (by kernel_rfl) (by kernel_rfl) (by kernel_rfl) (by kernel_rfl) ?_
              refine pl_take (.int .i64 (((r : Nat) : Int) : Int)) rfl (by kernel_rfl) (by kernel_rfl) (by kernel_rfl) (by kernel_rfl) ?_
              refine pl_take (.pointer (some ⟨gR2, r, none⟩)) rfl (by kernel_rfl) (by kernel_rfl) (by kernel_rfl) (ex_index (p := .slice (some ⟨gR2, 0, none⟩) rk76 rc77) (i := .int .i64 ((r : Nat) : Int)) rfl (by kernel_rfl) (by kernel_rfl) (ix39z (k := r) (by omega))) ?_
              refine pl_take (.slice (some ⟨(fbR2 r), 0, none⟩) ((snN (Mem.rowsR (Mem.mvL l k1 nk10 pk11 k1)) r).length) ((fcR2 r))) rfl (by kernel_rfl) (by kernel_rfl) (by kernel_rfl) (ex_load rfl (by kernel_rfl) (ld56 ((hX81.cell qR89)))) ?_
              refine pl_take (.int .i64 (((z : Nat) : Int) : Int)) rfl (by kernel_rfl) (by kernel_rfl) (by kernel_rfl) (by kernel_rfl) ?_
              refine pl_take (.pointer (some ⟨(fbR2 r), z, none⟩)) rfl (by kernel_rfl) (by kernel_rfl) (by kernel_rfl) (ex_index (p := .slice (some ⟨(fbR2 r), 0, none⟩) ((snN (Mem.rowsR (Mem.mvL l k1 nk10 pk11 k1)) r).length) ((fcR2 r))) (i := .int .i64 ((z : Nat) : Int)) rfl (by kernel_rfl) (by kernel_rfl) (ix56z (k := z) (by omega))) ?_
              refine pl_take (.int .i64 (((Mem.natN (snN (Mem.rowsR (Mem.mvL l k1 nk10 pk11 k1)) r) z : Nat) : Int) : Int)) rfl (by kernel_rfl) (by kernel_rfl) (by kernel_rfl) (ex_load rfl (by kernel_rfl) (ld3 ((hX81.cell qe99)))) ?_
              refine pl_take (.bool false) rfl (by kernel_rfl) (by kernel_rfl) (by kernel_rfl) (ev_ndec (show _ = Result.ok (Next.value (Value.bool (decide ((((Mem.natN (snN (Mem.rowsR (Mem.mvL l k1 nk10 pk11 k1)) r) z : Nat) : Int) : Int) < (0 : Int))))) _ from by kernel_rfl) (by omega)) ?_
              refine pl_take (.bool false) rfl (by kernel_rfl) (by kernel_rfl) (by kernel_rfl) (by kernel_rfl) ?_
              refine pl_take (.slice (some ⟨gR2, 0, none⟩) rk76 rc77) rfl (by kernel_rfl) (by kernel_rfl) (by kernel_rfl) (by kernel_rfl) ?_
              refine pl_take (.int .i64 (((r : Nat) : Int) : Int)) rfl (by kernel_rfl) (by kernel_rfl) (by kernel_rfl) (by kernel_rfl) ?_
              refine pl_take (.pointer (some ⟨gR2, r, none⟩)) rfl (by kernel_rfl) (by kernel_rfl) (by kernel_rfl) (ex_index (p := .slice (some ⟨gR2, 0, none⟩) rk76 rc77) (i := .int .i64 ((r : Nat) : Int)) rfl (by kernel_rfl) (by kernel_rfl) (ix39z (k := r) (by omega))) ?_
              refine pl_take (.slice (some ⟨(fbR2 r), 0, none⟩) ((snN (Mem.rowsR (Mem.mvL l k1 nk10 pk11 k1)) r).length) ((fcR2 r))) rfl (by kernel_rfl) (by kernel_rfl) (by kernel_rfl) (ex_load rfl (by kernel_rfl) (ld56 ((hX81.cell qR89)))) ?_
              refine pl_take (.int .i64 (((z : Nat) : Int) : Int)) rfl (by kernel_rfl) (by kernel_rfl) (by kernel_rfl) (by kernel_rfl) ?_
              refine pl_take (.pointer (some ⟨(fbR2 r), z, none⟩)) rfl (by kernel_rfl) (by kernel_rfl) (by kernel_rfl) (ex_index (p := .slice (some ⟨(fbR2 r), 0, none⟩) ((snN (Mem.rowsR (Mem.mvL l k1 nk10 pk11 k1)) r).length) ((fcR2 r))) (i := .int .i64 ((z : Nat) : Int)) rfl (by kernel_rfl) (by kernel_rfl) (ix56z (k := z) (by omega))) ?_
              refine pl_take (.int .i64 (((Mem.natN (snN (Mem.rowsR (Mem.mvL l k1 nk10 pk11 k1)) r) z : Nat) : Int) : Int)) rfl (by kernel_rfl) (by kernel_rfl) (by kernel_rfl) (ex_load rfl (by kernel_rfl) (ld3 ((hX81.cell qe99)))) ?_
              refine pl_take (.slice a1 k1 c1) rfl (by kernel_rfl) (by kernel_rfl) (by kernel_rfl) (by kernel_rfl) ?_
              refine pl_take (.int .i64 (((k1 : Nat) : Int) : Int)) rfl (by kernel_rfl) (by kernel_rfl) (by kernel_rfl) (by kernel_rfl) ?_
              refine pl_take (.bool false) rfl (by kernel_rfl) (by kernel_rfl) (by kernel_rfl) (ev_ndec (show _ = Result.ok (Next.value (Value.bool (decide ((((Mem.natN (snN (Mem.rowsR (Mem.mvL l k1 nk10 pk11 k1)) r) z : Nat) : Int) : Int) ≥ (((k1 : Nat) : Int) : Int))))) _ from by kernel_rfl) (by omega)) ?_
              refine pl_take (.bool false) rfl (by kernel_rfl) (by kernel_rfl) (by kernel_rfl) (by kernel_rfl) ?_
              refine pl_nil ?_
              refine qw_then ?_
              refine cw_clean [11, 12, 13, 34, 36, 38, 39, 40, 42, 288] (ws' := [(11, .bool true), (12, .slice a1 k1 c1), (13, .int .i64 (((nk10 : Nat) : Int) : Int)), (34, .slice (some ⟨gR1, 0, none⟩) rk69 rc70), (36, .slice (some ⟨gR2, 0, none⟩) rk76 rc77), (38, .int .i64 (((r : Nat) : Int) : Int)), (39, .int .i64 (((zb : Nat) : Int) : Int)), (40, .int .i64 (((yb : Nat) : Int) : Int)), (42, .int .i64 (((z : Nat) : Int) : Int)), (288, .bool false)]) (by kernel_rfl) (fun L => ?_)
              refine cw_f (by kernel_rfl) ?_
              refine cw_skip ?_
              refine qw_then ?_
              refine cw_plain ?_
              refine pl_take (.int .i64 (((yb : Nat) : Int) : Int)) rfl (by kernel_rfl) (by kernel_rfl) (by kernel_rfl) (by kernel_rfl) ?_
              refine pl_take (.slice (some ⟨gR2, 0, none⟩) rk76 rc77) rfl (by kernel_rfl) (by kernel_rfl) (by kernel_rfl) (by kernel_rfl) ?_
              refine pl_take (.int .i64 (((r : Nat) : Int) : Int)) rfl (by kernel_rfl) (by kernel_rfl) (by kernel_rfl) (by kernel_rfl) ?_
              refine pl_take (.pointer (some ⟨gR2, r, none⟩)) rfl (by kernel_rfl) (by kernel_rfl) (by kernel_rfl) (ex_index (p := .slice (some ⟨gR2, 0, none⟩) rk76 rc77) (i := .int .i64 ((r : Nat) : Int)) rfl (by kernel_rfl) (by kernel_rfl) (ix39z (k := r) (by omega))) ?_
              refine pl_take (.slice (some ⟨(fbR2 r), 0, none⟩) ((snN (Mem.rowsR (Mem.mvL l k1 nk10 pk11 k1)) r).length) ((fcR2 r))) rfl (by kernel_rfl) (by kernel_rfl) (by kernel_rfl) (ex_load rfl (by kernel_rfl) (ld56 ((hX81.cell qR89)))) ?_
              refine pl_take (.int .i64 (((z : Nat) : Int) : Int)) rfl (by kernel_rfl) (by kernel_rfl) (by kernel_rfl) (by kernel_rfl) ?_
              refine pl_take (.pointer (some ⟨(fbR2 r), z, none⟩)) rfl (by kernel_rfl) (by kernel_rfl) (by kernel_rfl) (ex_index (p := .slice (some ⟨(fbR2 r), 0, none⟩) ((snN (Mem.rowsR (Mem.mvL l k1 nk10 pk11 k1)) r).length) ((fcR2 r))) (i := .int .i64 ((z : Nat) : Int)) rfl (by kernel_rfl) (by kernel_rfl) (ix56z (k := z) (by omega))) ?_
              refine pl_take (.int .i64 (((Mem.natN (snN (Mem.rowsR (Mem.mvL l k1 nk10 pk11 k1)) r) z : Nat) : Int) : Int)) rfl (by kernel_rfl) (by kernel_rfl) (by kernel_rfl) (ex_load rfl (by kernel_rfl) (ld3 ((hX81.cell qe99)))) ?_
              refine pl_take (.int .i64 (((nk10 : Nat) : Int) : Int)) rfl (by kernel_rfl) (by kernel_rfl) (by kernel_rfl) (by kernel_rfl) ?_
              refine pl_take (.int .i64 ((((Mem.natN (snN (Mem.rowsR (Mem.mvL l k1 nk10 pk11 k1)) r) z) + nk10 : Nat) : Int) : Int)) rfl (by kernel_rfl) (by kernel_rfl) (by kernel_rfl) (ev_wrap (by kernel_rfl) (by omega) (by omega)) ?_
              refine pl_take (.slice a1 k1 c1) rfl (by kernel_rfl) (by kernel_rfl) (by kernel_rfl) (by kernel_rfl) ?_
              refine pl_take (.int .i64 (((k1 : Nat) : Int) : Int)) rfl (by kernel_rfl) (by kernel_rfl) (by kernel_rfl) (by kernel_rfl) ?_
              refine pl_take (.int .i64 (((((Mem.natN (snN (Mem.rowsR (Mem.mvL l k1 nk10 pk11 k1)) r) z) + nk10) % k1 : Nat) : Int) : Int)) rfl (by kernel_rfl) (by kernel_rfl) (by kernel_rfl) (ex_bin (a := (((Mem.natN (snN (Mem.rowsR (Mem.mvL l k1 nk10 pk11 k1)) r) z) + nk10 : Nat) : Int)) (b := ((k1 : Nat) : Int)) rfl (by kernel_rfl) (by kernel_rfl) (bin_rem (by omega))) ?_
              refine pl_take (.int .i64 (((2 ^ (((Mem.natN (snN (Mem.rowsR (Mem.mvL l k1 nk10 pk11 k1)) r) z) + nk10) % k1) : Nat) : Int) : Int)) rfl (by kernel_rfl) (by kernel_rfl) (by kernel_rfl) (ex_bin rfl (by kernel_rfl) (by kernel_rfl) (bin_shl1 (by omega))) ?_
              refine pl_take (.int .i64 (((yb ||| (2 ^ ((Mem.natN (snN (Mem.rowsR (Mem.mvL l k1 nk10 pk11 k1)) r) z + nk10) % k1)) : Nat) : Int) : Int)) rfl (by kernel_rfl) (by kernel_rfl) (by kernel_rfl) (ev_int (show _ = Result.ok (Next.value (Value.int .i64 (bits .or .i64 ((yb : Nat) : Int) ((2 ^ ((Mem.natN (snN (Mem.rowsR (Mem.mvL l k1 nk10 pk11 k1)) r) z + nk10) % k1) : Nat) : Int)))) _ from by kernel_rfl) (or_i64 _ _ (by omega) (by have : 2 ^ ((Mem.natN (snN (Mem.rowsR (Mem.mvL l k1 nk10 pk11 k1)) r) z + nk10) % k1) < 2 ^ 48 := Nat.pow_lt_pow_right (by decide) (by omega); omega))) ?_
              refine pl_take (.int .i64 (((yb ||| (2 ^ ((Mem.natN (snN (Mem.rowsR (Mem.mvL l k1 nk10 pk11 k1)) r) z + nk10) % k1)) : Nat) : Int) : Int)) rfl (by kernel_rfl) (by kernel_rfl) (by kernel_rfl) (by kernel_rfl) ?_
              refine pl_nil ?_
              refine qw_block ?_
              refine qw_then ?_
              refine cw_clean [11, 12, 13, 34, 36, 38, 39, 40, 42] (ws' := [(11, .bool true), (12, .slice a1 k1 c1), (13, .int .i64 (((nk10 : Nat) : Int) : Int)), (34, .slice (some ⟨gR1, 0, none⟩) rk69 rc70), (36, .slice (some ⟨gR2, 0, none⟩) rk76 rc77), (38, .int .i64 (((r : Nat) : Int) : Int)), (39, .int .i64 (((zb : Nat) : Int) : Int)), (40, .int .i64 (((yb ||| (2 ^ ((Mem.natN (snN (Mem.rowsR (Mem.mvL l k1 nk10 pk11 k1)) r) z + nk10) % k1)) : Nat) : Int) : Int)), (42, .int .i64 (((z : Nat) : Int) : Int))]) (by kernel_rfl) (fun L => ?_)
              refine cw_plain ?_
              refine pl_take (.int .i64 (((z : Nat) : Int) : Int)) rfl (by kernel_rfl) (by kernel_rfl) (by kernel_rfl) (by kernel_rfl) ?_
              refine pl_take (.int .i64 (((z + 1 : Nat) : Int) : Int)) rfl (by kernel_rfl) (by kernel_rfl) (by kernel_rfl) (ev_wrap (by kernel_rfl) (by omega) (by omega)) ?_
              refine pl_take (.int .i64 (((z + 1 : Nat) : Int) : Int)) rfl (by kernel_rfl) (by kernel_rfl) (by kernel_rfl) (by kernel_rfl) ?_
              refine pl_nil ?_
              refine qw_round [11, 12, 13, 34, 36, 38, 39, 40, 42] (ws' := [(11, .bool true), (12, .slice a1 k1 c1), (13, .int .i64 (((nk10 : Nat) : Int) : Int)), (34, .slice (some ⟨gR1, 0, none⟩) rk69 rc70), (36, .slice (some ⟨gR2, 0, none⟩) rk76 rc77), (38, .int .i64 (((r : Nat) : Int) : Int)), (39, .int .i64 (((zb : Nat) : Int) : Int)), (40, .int .i64 (((yb ||| (2 ^ ((Mem.natN (snN (Mem.rowsR (Mem.mvL l k1 nk10 pk11 k1)) r) z + nk10) % k1)) : Nat) : Int) : Int)), (42, .int .i64 (((z + 1 : Nat) : Int) : Int))]) (by kernel_rfl) _ ?_ ⟨(z + 1), yb ||| (2 ^ ((Mem.natN (snN (Mem.rowsR (Mem.mvL l k1 nk10 pk11 k1)) r) z + nk10) % k1)), rfl, rfl, hs96, hE, hX9, hX47, hX74, hX81, by omega, (by rw [Mem.natN_take hlt, List.map_append, List.map_cons, List.map_nil, Mem.bitsOf_snoc, ← hyb])⟩
              omega
            ·
              have hy9 : yb = zb := by rw [hyb, show z = (snN (Mem.rowsR (Mem.mvL l k1 nk10 pk11 k1)) r).length by omega, List.take_length, hz9]; exact hbt.symm
              refine cw_seq ?_
              refine cw_seq ?_
              refine cw_plain ?_
              refine pl_take (.int .i64 (((z : Nat) : Int) : Int)) rfl (by kernel_rfl) (by kernel_rfl) (by kernel_rfl) (by kernel_rfl) ?_
              refine pl_take (.slice (some ⟨gR2, 0, none⟩) rk76 rc77) rfl (by kernel_rfl) (by kernel_rfl) (by kernel_rfl) (by kernel_rfl) ?_
              refine pl_take (.int .i64 (((r : Nat) : Int) : Int)) rfl (by kernel_rfl) (by kernel_rfl) (by kernel_rfl) (by kernel_rfl) ?_
              refine pl_take (.pointer (some ⟨gR2, r, none⟩)) rfl (by kernel_rfl) (by kernel_rfl) (by kernel_rfl) (ex_index (p := .slice (some ⟨gR2, 0, none⟩) rk76 rc77) (i := .int .i64 ((r : Nat) : Int)) rfl (by kernel_rfl) (by kernel_rfl) (ix39z (k := r) (by omega))) ?_
              refine pl_take (.slice (some ⟨(fbR2 r), 0, none⟩) ((snN (Mem.rowsR (Mem.mvL l k1 nk10 pk11 k1)) r).length) ((fcR2 r))) rfl (by kernel_rfl) (by kernel_rfl) (by kernel_rfl) (ex_load rfl (by kernel_rfl) (ld56 ((hX81.cell qR89)))) ?_
              refine pl_take (.int .i64 ((((snN (Mem.rowsR (Mem.mvL l k1 nk10 pk11 k1)) r).length : Nat) : Int) : Int)) rfl (by kernel_rfl) (by kernel_rfl) (by kernel_rfl) (by kernel_rfl) ?_
              refine pl_take (.bool false) rfl (by kernel_rfl) (by kernel_rfl) (by kernel_rfl) (ev_ndec (show _ = Result.ok (Next.value (Value.bool (decide ((((z : Nat) : Int) : Int) < ((((snN (Mem.rowsR (Mem.mvL l k1 nk10 pk11 k1)) r).length : Nat) : Int) : Int))))) _ from by kernel_rfl) (by omega)) ?_
              refine pl_nil ?_
              refine qw_then ?_
              refine cw_clean [11, 12, 13, 34, 36, 38, 39, 40, 42, 266] (ws' := [(11, .bool true), (12, .slice a1 k1 c1), (13, .int .i64 (((nk10 : Nat) : Int) : Int)), (34, .slice (some ⟨gR1, 0, none⟩) rk69 rc70), (36, .slice (some ⟨gR2, 0, none⟩) rk76 rc77), (38, .int .i64 (((r : Nat) : Int) : Int)), (39, .int .i64 (((zb : Nat) : Int) : Int)), (40, .int .i64 (((yb : Nat) : Int) : Int)), (42, .int .i64 (((z : Nat) : Int) : Int)), (266, .bool false)]) (by kernel_rfl) (fun L => ?_)
              refine cw_f (by kernel_rfl) ?_
              refine cw_exit ?_
              refine qw_then_exit ?_
              refine qw_then_exit ?_
              refine qw_block_out ?_
              refine qw_then ?_
              refine cw_seq ?_
              refine cw_plain ?_
              refine pl_take (.int .i64 (((zb : Nat) : Int) : Int)) rfl (by kernel_rfl) (by kernel_rfl) (by kernel_rfl) (by kernel_rfl) ?_
              refine pl_take (.int .i64 (((yb : Nat) : Int) : Int)) rfl (by kernel_rfl) (by kernel_rfl) (by kernel_rfl) (by kernel_rfl) ?_
              refine pl_take (.bool false) rfl (by kernel_rfl) (by kernel_rfl) (by kernel_rfl) (ev_nne (show _ = Result.ok (Next.value (Value.bool ((((zb : Nat) : Int) : Int) != (((yb : Nat) : Int) : Int)))) _ from by kernel_rfl) (by omega)) ?_
              refine pl_nil ?_
              refine qw_then ?_
              refine cw_f (by kernel_rfl) ?_
              refine cw_skip ?_
              refine qw_block ?_
              refine qw_then ?_
              refine cw_plain ?_
              refine pl_take (.int .i64 (((r : Nat) : Int) : Int)) rfl (by kernel_rfl) (by kernel_rfl) (by kernel_rfl) (by kernel_rfl) ?_
              refine pl_take (.int .i64 (((r + 1 : Nat) : Int) : Int)) rfl (by kernel_rfl) (by kernel_rfl) (by kernel_rfl) (ev_wrap (by kernel_rfl) (by omega) (by omega)) ?_
              refine pl_take (.int .i64 (((r + 1 : Nat) : Int) : Int)) rfl (by kernel_rfl) (by kernel_rfl) (by kernel_rfl) (by kernel_rfl) ?_
              refine pl_nil ?_
              refine qw_round [11, 12, 13, 34, 36, 38] (ws' := [(11, .bool true), (12, .slice a1 k1 c1), (13, .int .i64 (((nk10 : Nat) : Int) : Int)), (34, .slice (some ⟨gR1, 0, none⟩) rk69 rc70), (36, .slice (some ⟨gR2, 0, none⟩) rk76 rc77), (38, .int .i64 (((r + 1 : Nat) : Int) : Int))]) (by kernel_rfl) _ ?_ ⟨(r + 1), rfl, rfl, (Nat.le_trans hs84 (Nat.le_trans hs91 hs96)), hE, hX9, hX47, hX74, hX81, by omega⟩
              omega
        ·
          refine cw_seq ?_
          refine cw_seq ?_
          refine cw_plain ?_
          refine pl_take (.int .i64 (((r : Nat) : Int) : Int)) rfl (by kernel_rfl) (by kernel_rfl) (by kernel_rfl) (by kernel_rfl) ?_
          refine pl_take (.slice ra68 rk69 rc70) rfl (by kernel_rfl) (by kernel_rfl) (by kernel_rfl) (by kernel_rfl) ?_
          refine pl_take (.int .i64 (((rk69 : Nat) : Int) : Int)) rfl (by kernel_rfl) (by kernel_rfl) (by kernel_rfl) (by kernel_rfl) ?_
          refine pl_take (.bool false) rfl (by kernel_rfl) (by kernel_rfl) (by kernel_rfl) (ev_ndec (show _ = Result.ok (Next.value (Value.bool (decide ((((r : Nat) : Int) : Int) < (((rk69 : Nat) : Int) : Int))))) _ from by kernel_rfl) (by omega)) ?_
          refine pl_nil ?_
          refine qw_then ?_
          refine cw_f (by kernel_rfl) ?_
          refine cw_exit ?_
          refine qw_then_exit ?_
          refine qw_then_exit ?_
          refine qw_block_out ?_
          refine qw_then ?_
          refine cw_seq ?_
          refine cw_plain ?_
          refine pl_take (.bool true) rfl (by kernel_rfl) (by kernel_rfl) (by kernel_rfl) (by kernel_rfl) ?_
          refine pl_take (.bool true) rfl (by kernel_rfl) (by kernel_rfl) (by kernel_rfl) (by kernel_rfl) ?_
          refine pl_nil ?_
          refine qw_then ?_
          refine cw_ret ?_
          refine qw_ret [.bool true] rfl ⟨(by kernel_rfl), trivial⟩ ?_
          exact ⟨rfl, hE⟩
      ·
        refine pl_take (.bool false) rfl (by kernel_rfl) (by kernel_rfl) (by kernel_rfl) (ev_ndec (show _ = Result.ok (Next.value (Value.bool (decide ((ov62 : Int) < (0 : Int))))) _ from by kernel_rfl) (hc83)) ?_
        refine pl_take (.int .i64 (ov65 : Int)) rfl (by kernel_rfl) (by kernel_rfl) (by kernel_rfl) (by kernel_rfl) ?_
        refine pl_take (.bool false) rfl (by kernel_rfl) (by kernel_rfl) (by kernel_rfl) (ev_ndec (show _ = Result.ok (Next.value (Value.bool (decide ((ov65 : Int) < (0 : Int))))) _ from by kernel_rfl) (by omega)) ?_
        refine pl_take (.bool false) rfl (by kernel_rfl) (by kernel_rfl) (by kernel_rfl) (by kernel_rfl) ?_
        refine pl_take (.bool false) rfl (by kernel_rfl) (by kernel_rfl) (by kernel_rfl) (by kernel_rfl) ?_
        refine pl_take (.bool false) rfl (by kernel_rfl) (by kernel_rfl) (by kernel_rfl) (by kernel_rfl) ?_
        refine pl_take (.int .i64 (ov62 : Int)) rfl (by kernel_rfl) (by kernel_rfl) (by kernel_rfl) (by kernel_rfl) ?_
        refine pl_take (.bool true) rfl (by kernel_rfl) (by kernel_rfl) (by kernel_rfl) (ev_dec (show _ = Result.ok (Next.value (Value.bool (decide ((ov62 : Int) ≥ (0 : Int))))) _ from by kernel_rfl) (by omega)) ?_
        refine pl_take (.bool true) rfl (by kernel_rfl) (by kernel_rfl) (by kernel_rfl) (by kernel_rfl) ?_
        refine pl_take (.int .i64 (ov62 : Int)) rfl (by kernel_rfl) (by kernel_rfl) (by kernel_rfl) (by kernel_rfl) ?_
        refine pl_take (.int .i64 (pk11 : Int)) rfl (by kernel_rfl) (by kernel_rfl) (by kernel_rfl) (by kernel_rfl) ?_
        refine pl_take (.int .i64 (ov62 + pk11 : Int)) rfl (by kernel_rfl) (by kernel_rfl) (by kernel_rfl) (ev_wrap (by kernel_rfl) (by omega) (by omega)) ?_
        refine pl_take (.int .i64 (ov65 : Int)) rfl (by kernel_rfl) (by kernel_rfl) (by kernel_rfl) (by kernel_rfl) ?_
        refine pl_take (.bool false) rfl (by kernel_rfl) (by kernel_rfl) (by kernel_rfl) (ev_nne (show _ = Result.ok (Next.value (Value.bool ((ov62 + pk11 : Int) != (ov65 : Int)))) _ from by kernel_rfl) (by omega)) ?_
        refine pl_take (.bool false) rfl (by kernel_rfl) (by kernel_rfl) (by kernel_rfl) (by kernel_rfl) ?_
        refine pl_take (.bool false) rfl (by kernel_rfl) (by kernel_rfl) (by kernel_rfl) (by kernel_rfl) ?_
        refine pl_nil ?_
        refine qw_then ?_
        refine cw_clean [11, 12, 13, 34, 36, 214] (ws' := [(11, .bool true), (12, .slice a1 k1 c1), (13, .int .i64 (((nk10 : Nat) : Int) : Int)), (34, .slice ra68 rk69 rc70), (36, .slice ra75 rk76 rc77), (214, .bool false)]) (by kernel_rfl) (fun L => ?_)
        refine cw_f (by kernel_rfl) ?_
        refine cw_skip ?_
        refine qw_then ?_
        refine cw_seq ?_
        refine cw_seq ?_
        refine cw_plain ?_
        refine pl_take (.int .i64 0) rfl (by kernel_rfl) (by kernel_rfl) (by kernel_rfl) (by kernel_rfl) ?_
        refine pl_nil ?_
        refine qw_then ?_
        refine cw_block ?_
        refine cw_loop [11, 12, 13, 34, 36, 38] (fun ws' wr m => ∃ r : Nat, ws' = [(11, .bool true), (12, .slice a1 k1 c1), (13, .int .i64 (((nk10 : Nat) : Int) : Int)), (34, .slice ra68 rk69 rc70), (36, .slice ra75 rk76 rc77), (38, .int .i64 (((r : Nat) : Int) : Int))] ∧ m = rk69 - r ∧ w79.heap.size ≤ wr.heap.size ∧ Ext w wr ∧ Ext w7 wr ∧ Ext w15 wr ∧ Ext w72 wr ∧ Ext w79 wr ∧ r ≤ rk69) (ws0 := [(11, .bool true), (12, .slice a1 k1 c1), (13, .int .i64 (((nk10 : Nat) : Int) : Int)), (34, .slice ra68 rk69 rc70), (36, .slice ra75 rk76 rc77), (38, .int .i64 0)]) (by kernel_rfl) _ ⟨0, rfl, rfl, Nat.le_refl _, hE, hX9, hX47, hX74, hX81, Nat.zero_le _⟩ ?_
        clear hE hX9 hX47 hX74 hX81
        rintro m103 L ws w102 ⟨r, rfl, rfl, hs101, hE, hX9, hX47, hX74, hX81, hr⟩
        by_cases hlt : r < rk69
        ·
          obtain rfl := haR1 (by omega)
          have qR104 := hcR1 r (by omega)
          have hrl105 : (snN (Mem.rowsR l) r).length ≤ (l).length := Mem.row_len r
          obtain rfl := haR2 (by omega)
          have qR106 := hcR2 r (by omega)
          have hrl107 : (snN (Mem.rowsR (Mem.mvL l k1 nk10 pk11 k1)) r).length ≤ (Mem.mvL l k1 nk10 pk11 k1).length := Mem.row_len r
          obtain ⟨t9, he1, he2⟩ := hMv.row (r := r) (by omega)
          have hbt := hMv.bits (by omega) t9
          rw [← he1, ← he2, hll] at hbt
          have hk0 : 0 < k1 := by
            obtain ⟨s9, hs9, _⟩ := Mem.row_is (l := l) (i := r) (by omega)
            obtain ⟨x, hx, _⟩ := Mem.mem_begs.1 hs9
            rw [← hll]; exact List.length_pos_of_mem hx
          refine cw_seq ?_
          refine cw_seq ?_
          refine cw_plain ?_
          refine pl_take (.int .i64 (((r : Nat) : Int) : Int)) rfl (by kernel_rfl) (by kernel_rfl) (by kernel_rfl) (by kernel_rfl) ?_
          refine pl_take (.slice (some ⟨gR1, 0, none⟩) rk69 rc70) rfl (by kernel_rfl) (by kernel_rfl) (by kernel_rfl) (by kernel_rfl) ?_
          refine pl_take (.int .i64 (((rk69 : Nat) : Int) : Int)) rfl (by kernel_rfl) (by kernel_rfl) (by kernel_rfl) (by kernel_rfl) ?_
          refine pl_take (.bool true) rfl (by kernel_rfl) (by kernel_rfl) (by kernel_rfl) (ev_dec (show _ = Result.ok (Next.value (Value.bool (decide ((((r : Nat) : Int) : Int) < (((rk69 : Nat) : Int) : Int))))) _ from by kernel_rfl) (by omega)) ?_
          refine pl_nil ?_
          refine qw_then ?_
          refine cw_t (by kernel_rfl) ?_
          refine cw_skip ?_
          refine qw_then ?_
          refine cw_seq ?_
          refine cw_block ?_
          refine cw_seq ?_
          refine cw_plain ?_
          refine pl_take (.int .i64 0) rfl (by kernel_rfl) (by kernel_rfl) (by kernel_rfl) (by kernel_rfl) ?_
          refine pl_nil ?_
          refine qw_then ?_
          refine cw_seq ?_
          refine cw_plain ?_
          refine pl_take (.int .i64 0) rfl (by kernel_rfl) (by kernel_rfl) (by kernel_rfl) (by kernel_rfl) ?_
          refine pl_nil ?_
          refine qw_then ?_
          refine cw_seq ?_
          refine cw_seq ?_
          refine cw_plain ?_
          refine pl_take (.int .i64 0) rfl (by kernel_rfl) (by kernel_rfl) (by kernel_rfl) (by kernel_rfl) ?_
          refine pl_nil ?_
          refine qw_then ?_
          refine cw_block ?_
          refine cw_loop [11, 12, 13, 34, 36, 38, 39, 40, 41] (fun ws' wr m => ∃ j : Nat, ∃ zb : Nat, ws' = [(11, .bool true), (12, .slice a1 k1 c1), (13, .int .i64 (((nk10 : Nat) : Int) : Int)), (34, .slice (some ⟨gR1, 0, none⟩) rk69 rc70), (36, .slice (some ⟨gR2, 0, none⟩) rk76 rc77), (38, .int .i64 (((r : Nat) : Int) : Int)), (39, .int .i64 (((zb : Nat) : Int) : Int)), (40, .int .i64 0), (41, .int .i64 (((j : Nat) : Int) : Int))] ∧ m = (snN (Mem.rowsR l) r).length - j ∧ w102.heap.size ≤ wr.heap.size ∧ Ext w wr ∧ Ext w7 wr ∧ Ext w15 wr ∧ Ext w72 wr ∧ Ext w79 wr ∧ j ≤ (snN (Mem.rowsR l) r).length ∧ zb = Mem.bitsOf ((snN (Mem.rowsR l) r).take j)) (ws0 := [(11, .bool true), (12, .slice a1 k1 c1), (13, .int .i64 (((nk10 : Nat) : Int) : Int)), (34, .slice (some ⟨gR1, 0, none⟩) rk69 rc70), (36, .slice (some ⟨gR2, 0, none⟩) rk76 rc77), (38, .int .i64 (((r : Nat) : Int) : Int)), (39, .int .i64 0), (40, .int .i64 0), (41, .int .i64 0)]) (by kernel_rfl) _ ⟨0, 0, rfl, rfl, Nat.le_refl _, hE, hX9, hX47, hX74, hX81, Nat.zero_le _, rfl⟩ ?_
          clear hE hX9 hX47 hX74 hX81
          rintro m110 L ws w109 ⟨j, zb, rfl, rfl, hs108, hE, hX9, hX47, hX74, hX81, hj, hzb⟩
          by_cases hlt : j < (snN (Mem.rowsR l) r).length
          ·
            have qe111 := (hnR1 r (by omega)).2 j _ (Mem.natN_at hlt)
            have hnl112 := Mem.row_lt (l := l) (i := r) (by omega) hlt
            have hbl := Mem.row_bits (l := l) (by omega) (r := r) (by omega) j
            rw [← hzb] at hbl
            refine cw_seq ?_
            refine cw_seq ?_
            refine cw_plain ?_
            refine pl_take (.int .i64 (((j : Nat) : Int) : Int)) rfl (by kernel_rfl) (by kernel_rfl) (by kernel_rfl) (by kernel_rfl) ?_
            refine pl_take (.slice (some ⟨gR1, 0, none⟩) rk69 rc70) rfl (by kernel_rfl) (by kernel_rfl) (by kernel_rfl) (by kernel_rfl) ?_
            refine pl_take (.int .i64 (((r : Nat) : Int) : Int)) rfl (by kernel_rfl) (by kernel_rfl) (by kernel_rfl) (by kernel_rfl) ?_
            refine pl_take (.pointer (some ⟨gR1, r, none⟩)) rfl (by kernel_rfl) (by kernel_rfl) (by kernel_rfl) (ex_index (p := .slice (some ⟨gR1, 0, none⟩) rk69 rc70) (i := .int .i64 ((r : Nat) : Int)) rfl (by kernel_rfl) (by kernel_rfl) (ix39z (k := r) (by omega))) ?_
            refine pl_take (.slice (some ⟨(fbR1 r), 0, none⟩) ((snN (Mem.rowsR l) r).length) ((fcR1 r))) rfl (by kernel_rfl) (by kernel_rfl) (by kernel_rfl) (ex_load rfl (by kernel_rfl) (ld56 ((hX74.cell qR104)))) ?_
            refine pl_take (.int .i64 ((((snN (Mem.rowsR l) r).length : Nat) : Int) : Int)) rfl (by kernel_rfl) (by kernel_rfl) (by kernel_rfl) (by kernel_rfl) ?_
            refine pl_take (.bool true) rfl (by kernel_rfl) (by kernel_rfl) (by kernel_rfl) (ev_dec (show _ = Result.ok (Next.value (Value.bool (decide ((((j : Nat) : Int) : Int) < ((((snN (Mem.rowsR l) r).length : Nat) : Int) : Int))))) _ from by kernel_rfl) (by omega)) ?_
            refine pl_nil ?_
            refine qw_then ?_
            refine cw_clean [11, 12, 13, 34, 36, 38, 39, 40, 41, 227] (ws' := [(11, .bool true), (12, .slice a1 k1 c1), (13, .int .i64 (((nk10 : Nat) : Int) : Int)), (34, .slice (some ⟨gR1, 0, none⟩) rk69 rc70), (36, .slice (some ⟨gR2, 0, none⟩) rk76 rc77), (38, .int .i64 (((r : Nat) : Int) : Int)), (39, .int .i64 (((zb : Nat) : Int) : Int)), (40, .int .i64 0), (41, .int .i64 (((j : Nat) : Int) : Int)), (227, .bool true)]) (by kernel_rfl) (fun L => ?_)
            refine cw_t (by kernel_rfl) ?_
            refine cw_skip ?_
            refine qw_then ?_
            refine cw_seq ?_
            refine cw_block ?_
            refine cw_seq ?_
            refine cw_seq ?_
            refine cw_plain ?_
            refine pl_take (.slice (some ⟨gR1, 0, none⟩) rk69 rc70) rfl (by kernel_rfl) (by kernel_rfl) (by kernel_rfl) (by kernel_rfl) ?_
            refine pl_take (.int .i64 (((r : Nat) : Int) : Int)) rfl (by kernel_rfl) (by kernel_rfl) (by kernel_rfl) (by kernel_rfl) ?_
            refine pl_take (.pointer (some ⟨gR1, r, none⟩)) rfl (by kernel_rfl) (by kernel_rfl) (by kernel_rfl) (ex_index (p := .slice (some ⟨gR1, 0, none⟩) rk69 rc70) (i := .int .i64 ((r : Nat) : Int)) rfl (by kernel_rfl) (by kernel_rfl) (ix39z (k := r) (by omega))) ?_
            refine pl_take (.slice (some ⟨(fbR1 r), 0, none⟩) ((snN (Mem.rowsR l) r).length) ((fcR1 r))) rfl (by kernel_rfl) (by kernel_rfl) (by kernel_rfl) (ex_load rfl (by kernel_rfl) (ld56 ((hX74.cell qR104)))) ?_
            refine pl_take (.int .i64 (((j : Nat) : Int) : Int)) rfl (by kernel_rfl) (by kernel_rfl) (by kernel_rfl) (by kernel_rfl) ?_
            refine pl_take (.pointer (some ⟨(fbR1 r), j, none⟩)) rfl (by kernel_rfl) (by kernel_rfl) (by kernel_rfl) (ex_index (p := .slice (some ⟨(fbR1 r), 0, none⟩) ((snN (Mem.rowsR l) r).length) ((fcR1 r))) (i := .int .i64 ((j : Nat) : Int)) rfl (by kernel_rfl) (by kernel_rfl) (ix56z (k := j) (by omega))) ?_
            refine pl_take (.int .i64 (((Mem.natN (snN (Mem.rowsR l) r) j : Nat) : Int) : Int)) rfl (by kernel_rfl) (by kernel_rfl) (by kernel_rfl) (ex_load rfl (by kernel_rfl) (ld3 ((hX74.cell qe111)))) ?_
            refine pl_take (.bool false) rfl (by kernel_rfl) (by kernel_rfl) (by kernel_rfl) (ev_ndec (show _ = Result.ok (Next.value (Value.bool (decide ((((Mem.natN (snN (Mem.rowsR l) r) j : Nat) : Int) : Int) < (0 : Int))))) _ from by kernel_rfl) (by omega)) ?_
            refine pl_take (.bool false) rfl (by kernel_rfl) (by kernel_rfl) (by kernel_rfl) (by kernel_rfl) ?_
            refine pl_take (.slice (some ⟨gR1, 0, none⟩) rk69 rc70) rfl (by kernel_rfl) (by kernel_rfl) (by kernel_rfl) (by kernel_rfl) ?_
            refine pl_take (.int .i64 (((r : Nat) : Int) : Int)) rfl (by kernel_rfl) (by kernel_rfl) (by kernel_rfl) (by kernel_rfl) ?_
            refine pl_take (.pointer (some ⟨gR1, r, none⟩)) rfl (by kernel_rfl) (by kernel_rfl) (by kernel_rfl) (ex_index (p := .slice (some ⟨gR1, 0, none⟩) rk69 rc70) (i := .int .i64 ((r : Nat) : Int)) rfl (by kernel_rfl) (by kernel_rfl) (ix39z (k := r) (by omega))) ?_
            refine pl_take (.slice (some ⟨(fbR1 r), 0, none⟩) ((snN (Mem.rowsR l) r).length) ((fcR1 r))) rfl (by kernel_rfl) (by kernel_rfl) (by kernel_rfl) (ex_load rfl (by kernel_rfl) (ld56 ((hX74.cell qR104)))) ?_
            refine pl_take (.int .i64 (((j : Nat) : Int) : Int)) rfl (by kernel_rfl) (by kernel_rfl) (by kernel_rfl) (by kernel_rfl) ?_
            refine pl_take (.pointer (some ⟨(fbR1 r), j, none⟩)) rfl (by kernel_rfl) (by kernel_rfl) (by kernel_rfl) (ex_index (p := .slice (some ⟨(fbR1 r), 0, none⟩) ((snN (Mem.rowsR l) r).length) ((fcR1 r))) (i := .int .i64 ((j : Nat) : Int)) rfl (by kernel_rfl) (by kernel_rfl) (ix56z (k := j) (by omega))) ?_
            refine pl_take (.int .i64 (((Mem.natN (snN (Mem.rowsR l) r) j : Nat) : Int) : Int)) rfl (by kernel_rfl) (by kernel_rfl) (by kernel_rfl) (ex_load rfl (by kernel_rfl) (ld3 ((hX74.cell qe111)))) ?_
            refine pl_take (.slice a1 k1 c1) rfl (by kernel_rfl) (by kernel_rfl) (by kernel_rfl) (by kernel_rfl) ?_
            refine pl_take (.int .i64 (((k1 : Nat) : Int) : Int)) rfl (by kernel_rfl) (by kernel_rfl) (by kernel_rfl) (by kernel_rfl) ?_
            refine pl_take (.bool false) rfl (by kernel_rfl) (by kernel_rfl) (by kernel_rfl) (ev_ndec (show _ = Result.ok (Next.value (Value.bool (decide ((((Mem.natN (snN (Mem.rowsR l) r) j : Nat) : Int) : Int) ≥ (((k1 : Nat) : Int) : Int))))) _ from by kernel_rfl) (by omega)) ?_
            refine pl_take (.bool false) rfl (by kernel_rfl) (by kernel_rfl) (by kernel_rfl) (by kernel_rfl) ?_
            refine pl_nil ?_
            refine qw_then ?_
            refine cw_clean [11, 12, 13, 34, 36, 38, 39, 40, 41, 249] (ws' := [(11, .bool true), (12, .slice a1 k1 c1), (13, .int .i64 (((nk10 : Nat) : Int) : Int)), (34, .slice (some ⟨gR1, 0, none⟩) rk69 rc70), (36, .slice (some ⟨gR2, 0, none⟩) rk76 rc77), (38, .int .i64 (((r : Nat) : Int) : Int)), (39, .int .i64 (((zb : Nat) : Int) : Int)), (40, .int .i64 0), (41, .int .i64 (((j : Nat) : Int) : Int)), (249, .bool false)]) (by kernel_rfl) (fun L => ?_)
            refine cw_f (by kernel_rfl) ?_
            refine cw_skip ?_
            refine qw_then ?_
            refine cw_plain ?_
            refine pl_take (.int .i64 (((zb : Nat) : Int) : Int)) rfl (by kernel_rfl) (by kernel_rfl) (by kernel_rfl) (by kernel_rfl) ?_
            refine pl_take (.slice (some ⟨gR1, 0, none⟩) rk69 rc70) rfl (by kernel_rfl) (by kernel_rfl) (by kernel_rfl) (by kernel_rfl) ?_
            refine pl_take (.int .i64 (((r : Nat) : Int) : Int)) rfl (by kernel_rfl) (by kernel_rfl) (by kernel_rfl) (by kernel_rfl) ?_
            refine pl_take (.pointer (some ⟨gR1, r, none⟩)) rfl (by kernel_rfl) (by kernel_rfl) (by kernel_rfl) (ex_index (p := .slice (some ⟨gR1, 0, none⟩) rk69 rc70) (i := .int .i64 ((r : Nat) : Int)) rfl (by kernel_rfl) (by kernel_rfl) (ix39z (k := r) (by omega))) ?_
            refine pl_take (.slice (some ⟨(fbR1 r), 0, none⟩) ((snN (Mem.rowsR l) r).length) ((fcR1 r))) rfl (by kernel_rfl) (by kernel_rfl) (by kernel_rfl) (ex_load rfl (by kernel_rfl) (ld56 ((hX74.cell qR104)))) ?_
            refine pl_take (.int .i64 (((j : Nat) : Int) : Int)) rfl (by kernel_rfl) (by kernel_rfl) (by kernel_rfl) (by kernel_rfl) ?_
            refine pl_take (.pointer (some ⟨(fbR1 r), j, none⟩)) rfl (by kernel_rfl) (by kernel_rfl) (by kernel_rfl) (ex_index (p := .slice (some ⟨(fbR1 r), 0, none⟩) ((snN (Mem.rowsR l) r).length) ((fcR1 r))) (i := .int .i64 ((j : Nat) : Int)) rfl (by kernel_rfl) (by kernel_rfl) (ix56z (k := j) (by omega))) ?_
            refine pl_take (.int .i64 (((Mem.natN (snN (Mem.rowsR l) r) j : Nat) : Int) : Int)) rfl (by kernel_rfl) (by kernel_rfl) (by kernel_rfl) (ex_load rfl (by kernel_rfl) (ld3 ((hX74.cell qe111)))) ?_
            refine pl_take (.int .i64 (((2 ^ (Mem.natN (snN (Mem.rowsR l) r) j) : Nat) : Int) : Int)) rfl (by kernel_rfl) (by kernel_rfl) (by kernel_rfl) (ex_bin rfl (by kernel_rfl) (by kernel_rfl) (bin_shl1 (by omega))) ?_
            refine pl_take (.int .i64 (((zb ||| (2 ^ (Mem.natN (snN (Mem.rowsR l) r) j)) : Nat) : Int) : Int)) rfl (by kernel_rfl) (by kernel_rfl) (by kernel_rfl) (ev_int (show _ = Result.ok (Next.value (Value.int .i64 (bits .or .i64 ((zb : Nat) : Int) ((2 ^ (Mem.natN (snN (Mem.rowsR l) r) j) : Nat) : Int)))) _ from by kernel_rfl) (or_i64 _ _ (by omega) (by have : 2 ^ (Mem.natN (snN (Mem.rowsR l) r) j) < 2 ^ 48 := Nat.pow_lt_pow_right (by decide) (by omega); omega))) ?_
            refine pl_take (.int .i64 (((zb ||| (2 ^ (Mem.natN (snN (Mem.rowsR l) r) j)) : Nat) : Int) : Int)) rfl (by kernel_rfl) (by kernel_rfl) (by kernel_rfl) (by kernel_rfl) ?_
            refine pl_nil ?_
            refine qw_block ?_
            refine qw_then ?_
            refine cw_clean [11, 12, 13, 34, 36, 38, 39, 40, 41] (ws' := [(11, .bool true), (12, .slice a1 k1 c1), (13, .int .i64 (((nk10 : Nat) : Int) : Int)), (34, .slice (some ⟨gR1, 0, none⟩) rk69 rc70), (36, .slice (some ⟨gR2, 0, none⟩) rk76 rc77), (38, .int .i64 (((r : Nat) : Int) : Int)), (39, .int .i64 (((zb ||| (2 ^ (Mem.natN (snN (Mem.rowsR l) r) j)) : Nat) : Int) : Int)), (40, .int .i64 0), (41, .int .i64 (((j : Nat) : Int) : Int))]) (by kernel_rfl) (fun L => ?_)
            refine cw_plain ?_
            refine pl_take (.int .i64 (((j : Nat) : Int) : Int)) rfl (by kernel_rfl) (by kernel_rfl) (by kernel_rfl) (by kernel_rfl) ?_
            refine pl_take (.int .i64 (((j + 1 : Nat) : Int) : Int)) rfl (by kernel_rfl) (by kernel_rfl) (by kernel_rfl) (ev_wrap (by kernel_rfl) (by omega) (by omega)) ?_
            refine pl_take (.int .i64 (((j + 1 : Nat) : Int) : Int)) rfl (by kernel_rfl) (by kernel_rfl) (by kernel_rfl) (by kernel_rfl) ?_
            refine pl_nil ?_
            refine qw_round [11, 12, 13, 34, 36, 38, 39, 40, 41] (ws' := [(11, .bool true), (12, .slice a1 k1 c1), (13, .int .i64 (((nk10 : Nat) : Int) : Int)), (34, .slice (some ⟨gR1, 0, none⟩) rk69 rc70), (36, .slice (some ⟨gR2, 0, none⟩) rk76 rc77), (38, .int .i64 (((r : Nat) : Int) : Int)), (39, .int .i64 (((zb ||| (2 ^ (Mem.natN (snN (Mem.rowsR l) r) j)) : Nat) : Int) : Int)), (40, .int .i64 0), (41, .int .i64 (((j + 1 : Nat) : Int) : Int))]) (by kernel_rfl) _ ?_ ⟨(j + 1), zb ||| (2 ^ (Mem.natN (snN (Mem.rowsR l) r) j)), rfl, rfl, hs108, hE, hX9, hX47, hX74, hX81, by omega, (by rw [Mem.natN_take hlt, Mem.bitsOf_snoc, ← hzb])⟩
            omega
          ·
            have hz9 : zb = Mem.bitsOf (snN (Mem.rowsR l) r) := by rw [hzb, show j = (snN (Mem.rowsR l) r).length by omega, List.take_length]
            refine cw_seq ?_
            refine cw_seq ?_
            refine cw_plain ?_
            refine pl_take (.int .i64 (((j : Nat) : Int) : Int)) rfl (by kernel_rfl) (by kernel_rfl) (by kernel_rfl) (by kernel_rfl) ?_
            refine pl_take (.slice (some ⟨gR1, 0, none⟩) rk69 rc70) rfl (by kernel_rfl) (by kernel_rfl) (by kernel_rfl) (by kernel_rfl) ?_
            refine pl_take (.int .i64 (((r : Nat) : Int) : Int)) rfl (by kernel_rfl) (by kernel_rfl) (by kernel_rfl) (by kernel_rfl) ?_
            refine pl_take (.pointer (some ⟨gR1, r, none⟩)) rfl (by kernel_rfl) (by kernel_rfl) (by kernel_rfl) (ex_index (p := .slice (some ⟨gR1, 0, none⟩) rk69 rc70) (i := .int .i64 ((r : Nat) : Int)) rfl (by kernel_rfl) (by kernel_rfl) (ix39z (k := r) (by omega))) ?_
            refine pl_take (.slice (some ⟨(fbR1 r), 0, none⟩) ((snN (Mem.rowsR l) r).length) ((fcR1 r))) rfl (by kernel_rfl) (by kernel_rfl) (by kernel_rfl) (ex_load rfl (by kernel_rfl) (ld56 ((hX74.cell qR104)))) ?_
            refine pl_take (.int .i64 ((((snN (Mem.rowsR l) r).length : Nat) : Int) : Int)) rfl (by kernel_rfl) (by kernel_rfl) (by kernel_rfl) (by kernel_rfl) ?_
            refine pl_take (.bool false) rfl (by kernel_rfl) (by kernel_rfl) (by kernel_rfl) (ev_ndec (show _ = Result.ok (Next.value (Value.bool (decide ((((j : Nat) : Int) : Int) < ((((snN (Mem.rowsR l) r).length : Nat) : Int) : Int))))) _ from by kernel_rfl) (by omega)) ?_
            refine pl_nil ?_
            refine qw_then ?_
            refine cw_clean [11, 12, 13, 34, 36, 38, 39, 40, 41, 227] (ws' := [(11, .bool true), (12, .slice a1 k1 c1), (13, .int .i64 (((nk10 : Nat) : Int) : Int)), (34, .slice (some ⟨gR1, 0, none⟩) rk69 rc70), (36, .slice (some ⟨gR2, 0, none⟩) rk76 rc77), (38, .int .i64 (((r : Nat) : Int) : Int)), (39, .int .i64 (((zb : Nat) : Int) : Int)), (40, .int .i64 0), (41, .int .i64 (((j : Nat) : Int) : Int)), (227, .bool false)]) (by kernel_rfl) (fun L => ?_)
            refine cw_f (by kernel_rfl) ?_
            refine cw_exit ?_
            refine qw_then_exit ?_
            refine qw_then_exit ?_
            refine qw_block_out ?_
            refine qw_then ?_
            refine cw_seq ?_
            refine cw_seq ?_
            refine cw_plain ?_
            refine pl_take (.int .i64 0) rfl (by kernel_rfl) (by kernel_rfl) (by kernel_rfl) (by kernel_rfl) ?_
            refine pl_nil ?_
            refine qw_then ?_
            refine cw_block ?_
            refine cw_loop [11, 12, 13, 34, 36, 38, 39, 40, 42] (fun ws' wr m => ∃ z : Nat, ∃ yb : Nat, ws' = [(11, .bool true), (12, .slice a1 k1 c1), (13, .int .i64 (((nk10 : Nat) : Int) : Int)), (34, .slice (some ⟨gR1, 0, none⟩) rk69 rc70), (36, .slice (some ⟨gR2, 0, none⟩) rk76 rc77), (38, .int .i64 (((r : Nat) : Int) : Int)), (39, .int .i64 (((zb : Nat) : Int) : Int)), (40, .int .i64 (((yb : Nat) : Int) : Int)), (42, .int .i64 (((z : Nat) : Int) : Int))] ∧ m = (snN (Mem.rowsR (Mem.mvL l k1 nk10 pk11 k1)) r).length - z ∧ w109.heap.size ≤ wr.heap.size ∧ Ext w wr ∧ Ext w7 wr ∧ Ext w15 wr ∧ Ext w72 wr ∧ Ext w79 wr ∧ z ≤ (snN (Mem.rowsR (Mem.mvL l k1 nk10 pk11 k1)) r).length ∧ yb = Mem.bitsOf (((snN (Mem.rowsR (Mem.mvL l k1 nk10 pk11 k1)) r).take z).map (fun j => (j + nk10) % k1))) (ws0 := [(11, .bool true), (12, .slice a1 k1 c1), (13, .int .i64 (((nk10 : Nat) : Int) : Int)), (34, .slice (some ⟨gR1, 0, none⟩) rk69 rc70), (36, .slice (some ⟨gR2, 0, none⟩) rk76 rc77), (38, .int .i64 (((r : Nat) : Int) : Int)), (39, .int .i64 (((zb : Nat) : Int) : Int)), (40, .int .i64 0), (42, .int .i64 0)]) (by kernel_rfl) _ ⟨0, 0, rfl, rfl, Nat.le_refl _, hE, hX9, hX47, hX74, hX81, Nat.zero_le _, rfl⟩ ?_
            clear hE hX9 hX47 hX74 hX81
            rintro m115 L ws w114 ⟨z, yb, rfl, rfl, hs113, hE, hX9, hX47, hX74, hX81, hz, hyb⟩
            by_cases hlt : z < (snN (Mem.rowsR (Mem.mvL l k1 nk10 pk11 k1)) r).length
            ·
              have qe116 := (hnR2 r (by omega)).2 z _ (Mem.natN_at hlt)
              have hnl117 := Mem.row_lt (l := Mem.mvL l k1 nk10 pk11 k1) (i := r) (by omega) hlt
              have hmd : (Mem.natN (snN (Mem.rowsR (Mem.mvL l k1 nk10 pk11 k1)) r) z + nk10) % k1 < k1 := Nat.mod_lt _ (by omega)
              have hbl := Mem.map_bits (s := (snN (Mem.rowsR (Mem.mvL l k1 nk10 pk11 k1)) r).take z) (k := nk10) (L := k1) (by omega) (by omega)
              rw [← hyb] at hbl
              refine cw_seq ?_
              refine cw_seq ?_
              refine cw_plain ?_
              refine pl_take (.int .i64 (((z : Nat) : Int) : Int)) rfl (by kernel_rfl) (by kernel_rfl) (by kernel_rfl) (by kernel_rfl) ?_
              refine pl_take (.slice (some ⟨gR2, 0, none⟩) rk76 rc77) rfl (by kernel_rfl) (by kernel_rfl) (by kernel_rfl) (by kernel_rfl) ?_
              refine pl_take (.int .i64 (((r : Nat) : Int) : Int)) rfl (by kernel_rfl) (by kernel_rfl) (by kernel_rfl) (by kernel_rfl) ?_
              refine pl_take (.pointer (some ⟨gR2, r, none⟩)) rfl (by kernel_rfl) (by kernel_rfl) (by kernel_rfl) (ex_index (p := .slice (some ⟨gR2, 0, none⟩) rk76 rc77) (i := .int .i64 ((r : Nat) : Int)) rfl (by kernel_rfl) (by kernel_rfl) (ix39z (k := r) (by omega))) ?_
              refine pl_take (.slice (some ⟨(fbR2 r), 0, none⟩) ((snN (Mem.rowsR (Mem.mvL l k1 nk10 pk11 k1)) r).length) ((fcR2 r))) rfl (by kernel_rfl) (by kernel_rfl) (by kernel_rfl) (ex_load rfl (by kernel_rfl) (ld56 ((hX81.cell qR106)))) ?_
              refine pl_take (.int .i64 ((((snN (Mem.rowsR (Mem.mvL l k1 nk10 pk11 k1)) r).length : Nat) : Int) : Int)) rfl (by kernel_rfl) (by kernel_rfl) (by kernel_rfl) (by kernel_rfl) ?_
              refine pl_take (.bool true) rfl (by kernel_rfl) (by kernel_rfl) (by kernel_rfl) (ev_dec (show _ = Result.ok (Next.value (Value.bool (decide ((((z : Nat) : Int) : Int) < ((((snN (Mem.rowsR (Mem.mvL l k1 nk10 pk11 k1)) r).length : Nat) : Int) : Int))))) _ from by kernel_rfl) (by omega)) ?_
              refine pl_nil ?_
              refine qw_then ?_
              refine cw_clean [11, 12, 13, 34, 36, 38, 39, 40, 42, 266] (ws' := [(11, .bool true), (12, .slice a1 k1 c1), (13, .int .i64 (((nk10 : Nat) : Int) : Int)), (34, .slice (some ⟨gR1, 0, none⟩) rk69 rc70), (36, .slice (some ⟨gR2, 0, none⟩) rk76 rc77), (38, .int .i64 (((r : Nat) : Int) : Int)), (39, .int .i64 (((zb : Nat) : Int) : Int)), (40, .int .i64 (((yb : Nat) : Int) : Int)), (42, .int .i64 (((z : Nat) : Int) : Int)), (266, .bool true)]) (by kernel_rfl) (fun L => ?_)
              refine cw_t (by kernel_rfl) ?_
              refine cw_skip ?_
              refine qw_then ?_
              refine cw_seq ?_
              refine cw_block ?_
              refine cw_seq ?_
              refine cw_seq ?_
              refine cw_plain ?_
              refine pl_take (.slice (some ⟨gR2, 0, none⟩) rk76 rc77) rfl (by kernel_rfl) (by kernel_rfl) (by kernel_rfl) (by kernel_rfl) ?_
              refine pl_take (.int .i64 (((r : Nat) : Int) : Int)) rfl (by kernel_rfl) (by kernel_rfl) (by kernel_rfl) (by kernel_rfl) ?_
              refine pl_take (.pointer (some ⟨gR2, r, none⟩)) rfl (by kernel_rfl) (by kernel_rfl) (by kernel_rfl) (ex_index (p := .slice (some ⟨gR2, 0, none⟩) rk76 rc77) (i := .int .i64 ((r : Nat) : Int)) rfl (by kernel_rfl) (by kernel_rfl) (ix39z (k := r) (by omega))) ?_
              refine pl_take (.slice (some ⟨(fbR2 r), 0, none⟩) ((snN (Mem.rowsR (Mem.mvL l k1 nk10 pk11 k1)) r).length) ((fcR2 r))) rfl (by kernel_rfl) (by kernel_rfl) (by kernel_rfl) (ex_load rfl (by kernel_rfl) (ld56 ((hX81.cell qR106)))) ?_
              refine pl_take (.int .i64 (((z : Nat) : Int) : Int)) rfl (by kernel_rfl) (by kernel_rfl) (by kernel_rfl) (by kernel_rfl) ?_
              refine pl_take (.pointer (some ⟨(fbR2 r), z, none⟩)) rfl (by kernel_rfl) (by kernel_rfl) (by kernel_rfl) (ex_index (p := .slice (some ⟨(fbR2 r), 0, none⟩) ((snN (Mem.rowsR (Mem.mvL l k1 nk10 pk11 k1)) r).length) ((fcR2 r))) (i := .int .i64 ((z : Nat) : Int)) rfl (by kernel_rfl) (by kernel_rfl) (ix56z (k := z) (by omega))) ?_
              refine pl_take (.int .i64 (((Mem.natN (snN (Mem.rowsR (Mem.mvL l k1 nk10 pk11 k1)) r) z : Nat) : Int) : Int)) rfl (by kernel_rfl) (by kernel_rfl) (by kernel_rfl) (ex_load rfl (by kernel_rfl) (ld3 ((hX81.cell qe116)))) ?_
              refine pl_take (.bool false) rfl (by kernel_rfl) (by kernel_rfl) (by kernel_rfl) (ev_ndec (show _ = Result.ok (Next.value (Value.bool (decide ((((Mem.natN (snN (Mem.rowsR (Mem.mvL l k1 nk10 pk11 k1)) r) z : Nat) : Int) : Int) < (0 : Int))))) _ from by kernel_rfl) (by omega)) ?_
              refine pl_take (.bool false) rfl (by kernel_rfl) (by kernel_rfl) (by kernel_rfl) (by kernel_rfl) ?_
              refine pl_take (.slice (some ⟨gR2, 0, none⟩) rk76 rc77) rfl (by kernel_rfl) (by kernel_rfl) (by kernel_rfl) (by kernel_rfl) ?_
              refine pl_take (.int .i64 (((r : Nat) : Int) : Int)) rfl (by kernel_rfl) (by kernel_rfl) (by kernel_rfl) (by kernel_rfl) ?_
              refine pl_take (.pointer (some ⟨gR2, r, none⟩)) rfl (by kernel_rfl) (by kernel_rfl) (by kernel_rfl) (ex_index (p := .slice (some ⟨gR2, 0, none⟩) rk76 rc77) (i := .int .i64 ((r : Nat) : Int)) rfl (by kernel_rfl) (by kernel_rfl) (ix39z (k := r) (by omega))) ?_
              refine pl_take (.slice (some ⟨(fbR2 r), 0, none⟩) ((snN (Mem.rowsR (Mem.mvL l k1 nk10 pk11 k1)) r).length) ((fcR2 r))) rfl (by kernel_rfl) (by kernel_rfl) (by kernel_rfl) (ex_load rfl (by kernel_rfl) (ld56 ((hX81.cell qR106)))) ?_
              refine pl_take (.int .i64 (((z : Nat) : Int) : Int)) rfl (by kernel_rfl) (by kernel_rfl) (by kernel_rfl) (by kernel_rfl) ?_
              refine pl_take (.pointer (some ⟨(fbR2 r), z, none⟩)) rfl (by kernel_rfl) (by kernel_rfl) (by kernel_rfl) (ex_index (p := .slice (some ⟨(fbR2 r), 0, none⟩) ((snN (Mem.rowsR (Mem.mvL l k1 nk10 pk11 k1)) r).length) ((fcR2 r))) (i := .int .i64 ((z : Nat) : Int)) rfl (by kernel_rfl) (by kernel_rfl) (ix56z (k := z) (by omega))) ?_
              refine pl_take (.int .i64 (((Mem.natN (snN (Mem.rowsR (Mem.mvL l k1 nk10 pk11 k1)) r) z : Nat) : Int) : Int)) rfl (by kernel_rfl) (by kernel_rfl) (by kernel_rfl) (ex_load rfl (by kernel_rfl) (ld3 ((hX81.cell qe116)))) ?_
              refine pl_take (.slice a1 k1 c1) rfl (by kernel_rfl) (by kernel_rfl) (by kernel_rfl) (by kernel_rfl) ?_
              refine pl_take (.int .i64 (((k1 : Nat) : Int) : Int)) rfl (by kernel_rfl) (by kernel_rfl) (by kernel_rfl) (by kernel_rfl) ?_
              refine pl_take (.bool false) rfl (by kernel_rfl) (by kernel_rfl) (by kernel_rfl) (ev_ndec (show _ = Result.ok (Next.value (Value.bool (decide ((((Mem.natN (snN (Mem.rowsR (Mem.mvL l k1 nk10 pk11 k1)) r) z : Nat) : Int) : Int) ≥ (((k1 : Nat) : Int) : Int))))) _ from by kernel_rfl) (by omega)) ?_
              refine pl_take (.bool false) rfl (by kernel_rfl) (by kernel_rfl) (by kernel_rfl) (by kernel_rfl) ?_
              refine pl_nil ?_
              refine qw_then ?_
              refine cw_clean [11, 12, 13, 34, 36, 38, 39, 40, 42, 288] (ws' := [(11, .bool true), (12, .slice a1 k1 c1), (13, .int .i64 (((nk10 : Nat) : Int) : Int)), (34, .slice (some ⟨gR1, 0, none⟩) rk69 rc70), (36, .slice (some ⟨gR2, 0, none⟩) rk76 rc77), (38, .int .i64 (((r : Nat) : Int) : Int)), (39, .int .i64 (((zb : Nat) : Int) : Int)), (40, .int .i64 (((yb : Nat) : Int) : Int)), (42, .int .i64 (((z : Nat) : Int) : Int)), (288, .bool false)]) (by kernel_rfl) (fun L => ?_)
              refine cw_f (by kernel_rfl) ?_
              refine cw_skip ?_
              refine qw_then ?_
              refine cw_plain ?_
              refine pl_take (.int .i64 (((yb : Nat) : Int) : Int)) rfl (by kernel_rfl) (by kernel_rfl) (by kernel_rfl) (by kernel_rfl) ?_
              refine pl_take (.slice (some ⟨gR2, 0, none⟩) rk76 rc77) rfl (by kernel_rfl) (by kernel_rfl) (by kernel_rfl) (by kernel_rfl) ?_
              refine pl_take (.int .i64 (((r : Nat) : Int) : Int)) rfl (by kernel_rfl) (by kernel_rfl) (by kernel_rfl) (by kernel_rfl) ?_
              refine pl_take (.pointer (some ⟨gR2, r, none⟩)) rfl (by kernel_rfl) (by kernel_rfl) (by kernel_rfl) (ex_index (p := .slice (some ⟨gR2, 0, none⟩) rk76 rc77) (i := .int .i64 ((r : Nat) : Int)) rfl (by kernel_rfl) (by kernel_rfl) (ix39z (k := r) (by omega))) ?_
              refine pl_take (.slice (some ⟨(fbR2 r), 0, none⟩) ((snN (Mem.rowsR (Mem.mvL l k1 nk10 pk11 k1)) r).length) ((fcR2 r))) rfl (by kernel_rfl) (by kernel_rfl) (by kernel_rfl) (ex_load rfl (by kernel_rfl) (ld56 ((hX81.cell qR106)))) ?_
              refine pl_take (.int .i64 (((z : Nat) : Int) : Int)) rfl (by kernel_rfl) (by kernel_rfl) (by kernel_rfl) (by kernel_rfl) ?_
              refine pl_take (.pointer (some ⟨(fbR2 r), z, none⟩)) rfl (by kernel_rfl) (by kernel_rfl) (by kernel_rfl) (ex_index (p := .slice (some ⟨(fbR2 r), 0, none⟩) ((snN (Mem.rowsR (Mem.mvL l k1 nk10 pk11 k1)) r).length) ((fcR2 r))) (i := .int .i64 ((z : Nat) : Int)) rfl (by kernel_rfl) (by kernel_rfl) (ix56z (k := z) (by omega))) ?_
              refine pl_take (.int .i64 (((Mem.natN (snN (Mem.rowsR (Mem.mvL l k1 nk10 pk11 k1)) r) z : Nat) : Int) : Int)) rfl (by kernel_rfl) (by kernel_rfl) (by kernel_rfl) (ex_load rfl (by kernel_rfl) (ld3 ((hX81.cell qe116)))) ?_
              refine pl_take (.int .i64 (((nk10 : Nat) : Int) : Int)) rfl (by kernel_rfl) (by kernel_rfl) (by kernel_rfl) (by kernel_rfl) ?_
              refine pl_take (.int .i64 ((((Mem.natN (snN (Mem.rowsR (Mem.mvL l k1 nk10 pk11 k1)) r) z) + nk10 : Nat) : Int) : Int)) rfl (by kernel_rfl) (by kernel_rfl) (by kernel_rfl) (ev_wrap (by kernel_rfl) (by omega) (by omega)) ?_
              refine pl_take (.slice a1 k1 c1) rfl (by kernel_rfl) (by kernel_rfl) (by kernel_rfl) (by kernel_rfl) ?_
              refine pl_take (.int .i64 (((k1 : Nat) : Int) : Int)) rfl (by kernel_rfl) (by kernel_rfl) (by kernel_rfl) (by kernel_rfl) ?_
              refine pl_take (.int .i64 (((((Mem.natN (snN (Mem.rowsR (Mem.mvL l k1 nk10 pk11 k1)) r) z) + nk10) % k1 : Nat) : Int) : Int)) rfl (by kernel_rfl) (by kernel_rfl) (by kernel_rfl) (ex_bin (a := (((Mem.natN (snN (Mem.rowsR (Mem.mvL l k1 nk10 pk11 k1)) r) z) + nk10 : Nat) : Int)) (b := ((k1 : Nat) : Int)) rfl (by kernel_rfl) (by kernel_rfl) (bin_rem (by omega))) ?_
              refine pl_take (.int .i64 (((2 ^ (((Mem.natN (snN (Mem.rowsR (Mem.mvL l k1 nk10 pk11 k1)) r) z) + nk10) % k1) : Nat) : Int) : Int)) rfl (by kernel_rfl) (by kernel_rfl) (by kernel_rfl) (ex_bin rfl (by kernel_rfl) (by kernel_rfl) (bin_shl1 (by omega))) ?_
              refine pl_take (.int .i64 (((yb ||| (2 ^ ((Mem.natN (snN (Mem.rowsR (Mem.mvL l k1 nk10 pk11 k1)) r) z + nk10) % k1)) : Nat) : Int) : Int)) rfl (by kernel_rfl) (by kernel_rfl) (by kernel_rfl) (ev_int (show _ = Result.ok (Next.value (Value.int .i64 (bits .or .i64 ((yb : Nat) : Int) ((2 ^ ((Mem.natN (snN (Mem.rowsR (Mem.mvL l k1 nk10 pk11 k1)) r) z + nk10) % k1) : Nat) : Int)))) _ from by kernel_rfl) (or_i64 _ _ (by omega) (by have : 2 ^ ((Mem.natN (snN (Mem.rowsR (Mem.mvL l k1 nk10 pk11 k1)) r) z + nk10) % k1) < 2 ^ 48 := Nat.pow_lt_pow_right (by decide) (by omega); omega))) ?_
              refine pl_take (.int .i64 (((yb ||| (2 ^ ((Mem.natN (snN (Mem.rowsR (Mem.mvL l k1 nk10 pk11 k1)) r) z + nk10) % k1)) : Nat) : Int) : Int)) rfl (by kernel_rfl) (by kernel_rfl) (by kernel_rfl) (by kernel_rfl) ?_
              refine pl_nil ?_
              refine qw_block ?_
              refine qw_then ?_
              refine cw_clean [11, 12, 13, 34, 36, 38, 39, 40, 42] (ws' := [(11, .bool true), (12, .slice a1 k1 c1), (13, .int .i64 (((nk10 : Nat) : Int) : Int)), (34, .slice (some ⟨gR1, 0, none⟩) rk69 rc70), (36, .slice (some ⟨gR2, 0, none⟩) rk76 rc77), (38, .int .i64 (((r : Nat) : Int) : Int)), (39, .int .i64 (((zb : Nat) : Int) : Int)), (40, .int .i64 (((yb ||| (2 ^ ((Mem.natN (snN (Mem.rowsR (Mem.mvL l k1 nk10 pk11 k1)) r) z + nk10) % k1)) : Nat) : Int) : Int)), (42, .int .i64 (((z : Nat) : Int) : Int))]) (by kernel_rfl) (fun L => ?_)
              refine cw_plain ?_
              refine pl_take (.int .i64 (((z : Nat) : Int) : Int)) rfl (by kernel_rfl) (by kernel_rfl) (by kernel_rfl) (by kernel_rfl) ?_
              refine pl_take (.int .i64 (((z + 1 : Nat) : Int) : Int)) rfl (by kernel_rfl) (by kernel_rfl) (by kernel_rfl) (ev_wrap (by kernel_rfl) (by omega) (by omega)) ?_
              refine pl_take (.int .i64 (((z + 1 : Nat) : Int) : Int)) rfl (by kernel_rfl) (by kernel_rfl) (by kernel_rfl) (by kernel_rfl) ?_
              refine pl_nil ?_
              refine qw_round [11, 12, 13, 34, 36, 38, 39, 40, 42] (ws' := [(11, .bool true), (12, .slice a1 k1 c1), (13, .int .i64 (((nk10 : Nat) : Int) : Int)), (34, .slice (some ⟨gR1, 0, none⟩) rk69 rc70), (36, .slice (some ⟨gR2, 0, none⟩) rk76 rc77), (38, .int .i64 (((r : Nat) : Int) : Int)), (39, .int .i64 (((zb : Nat) : Int) : Int)), (40, .int .i64 (((yb ||| (2 ^ ((Mem.natN (snN (Mem.rowsR (Mem.mvL l k1 nk10 pk11 k1)) r) z + nk10) % k1)) : Nat) : Int) : Int)), (42, .int .i64 (((z + 1 : Nat) : Int) : Int))]) (by kernel_rfl) _ ?_ ⟨(z + 1), yb ||| (2 ^ ((Mem.natN (snN (Mem.rowsR (Mem.mvL l k1 nk10 pk11 k1)) r) z + nk10) % k1)), rfl, rfl, hs113, hE, hX9, hX47, hX74, hX81, by omega, (by rw [Mem.natN_take hlt, List.map_append, List.map_cons, List.map_nil, Mem.bitsOf_snoc, ← hyb])⟩
              omega
            ·
              have hy9 : yb = zb := by rw [hyb, show z = (snN (Mem.rowsR (Mem.mvL l k1 nk10 pk11 k1)) r).length by omega, List.take_length, hz9]; exact hbt.symm
              refine cw_seq ?_
              refine cw_seq ?_
              refine cw_plain ?_
              refine pl_take (.int .i64 (((z : Nat) : Int) : Int)) rfl (by kernel_rfl) (by kernel_rfl) (by kernel_rfl) (by kernel_rfl) ?_
              refine pl_take (.slice (some ⟨gR2, 0, none⟩) rk76 rc77) rfl (by kernel_rfl) (by kernel_rfl) (by kernel_rfl) (by kernel_rfl) ?_
              refine pl_take (.int .i64 (((r : Nat) : Int) : Int)) rfl (by kernel_rfl) (by kernel_rfl) (by kernel_rfl) (by kernel_rfl) ?_
              refine pl_take (.pointer (some ⟨gR2, r, none⟩)) rfl (by kernel_rfl) (by kernel_rfl) (by kernel_rfl) (ex_index (p := .slice (some ⟨gR2, 0, none⟩) rk76 rc77) (i := .int .i64 ((r : Nat) : Int)) rfl (by kernel_rfl) (by kernel_rfl) (ix39z (k := r) (by omega))) ?_
              refine pl_take (.slice (some ⟨(fbR2 r), 0, none⟩) ((snN (Mem.rowsR (Mem.mvL l k1 nk10 pk11 k1)) r).length) ((fcR2 r))) rfl (by kernel_rfl) (by kernel_rfl) (by kernel_rfl) (ex_load rfl (by kernel_rfl) (ld56 ((hX81.cell qR106)))) ?_
              refine pl_take (.int .i64 ((((snN (Mem.rowsR (Mem.mvL l k1 nk10 pk11 k1)) r).length : Nat) : Int) : Int)) rfl (by kernel_rfl) (by kernel_rfl) (by kernel_rfl) (by kernel_rfl) ?_
              refine pl_take (.bool false) rfl (by kernel_rfl) (by kernel_rfl) (by kernel_rfl) (ev_ndec (show _ = Result.ok (Next.value (Value.bool (decide ((((z : Nat) : Int) : Int) < ((((snN (Mem.rowsR (Mem.mvL l k1 nk10 pk11 k1)) r).length : Nat) : Int) : Int))))) _ from by kernel_rfl) (by omega)) ?_
              refine pl_nil ?_
              refine qw_then ?_
              refine cw_clean [11, 12, 13, 34, 36, 38, 39, 40, 42, 266] (ws' := [(11, .bool true), (12, .slice a1 k1 c1), (13, .int .i64 (((nk10 : Nat) : Int) : Int)), (34, .slice (some ⟨gR1, 0, none⟩) rk69 rc70), (36, .slice (some ⟨gR2, 0, none⟩) rk76 rc77), (38, .int .i64 (((r : Nat) : Int) : Int)), (39, .int .i64 (((zb : Nat) : Int) : Int)), (40, .int .i64 (((yb : Nat) : Int) : Int)), (42, .int .i64 (((z : Nat) : Int) : Int)), (266, .bool false)]) (by kernel_rfl) (fun L => ?_)
              refine cw_f (by kernel_rfl) ?_
              refine cw_exit ?_
              refine qw_then_exit ?_
              refine qw_then_exit ?_
              refine qw_block_out ?_
              refine qw_then ?_
              refine cw_seq ?_
              refine cw_plain ?_
              refine pl_take (.int .i64 (((zb : Nat) : Int) : Int)) rfl (by kernel_rfl) (by kernel_rfl) (by kernel_rfl) (by kernel_rfl) ?_
              refine pl_take (.int .i64 (((yb : Nat) : Int) : Int)) rfl (by kernel_rfl) (by kernel_rfl) (by kernel_rfl) (by kernel_rfl) ?_
              refine pl_take (.bool false) rfl (by kernel_rfl) (by kernel_rfl) (by kernel_rfl) (ev_nne (show _ = Result.ok (Next.value (Value.bool ((((zb : Nat) : Int) : Int) != (((yb : Nat) : Int) : Int)))) _ from by kernel_rfl) (by omega)) ?_
              refine pl_nil ?_
              refine qw_then ?_
              refine cw_f (by kernel_rfl) ?_
              refine cw_skip ?_
              refine qw_block ?_
              refine qw_then ?_
              refine cw_plain ?_
              refine pl_take (.int .i64 (((r : Nat) : Int) : Int)) rfl (by kernel_rfl) (by kernel_rfl) (by kernel_rfl) (by kernel_rfl) ?_
              refine pl_take (.int .i64 (((r + 1 : Nat) : Int) : Int)) rfl (by kernel_rfl) (by kernel_rfl) (by kernel_rfl) (ev_wrap (by kernel_rfl) (by omega) (by omega)) ?_
              refine pl_take (.int .i64 (((r + 1 : Nat) : Int) : Int)) rfl (by kernel_rfl) (by kernel_rfl) (by kernel_rfl) (by kernel_rfl) ?_
              refine pl_nil ?_
              refine qw_round [11, 12, 13, 34, 36, 38] (ws' := [(11, .bool true), (12, .slice a1 k1 c1), (13, .int .i64 (((nk10 : Nat) : Int) : Int)), (34, .slice (some ⟨gR1, 0, none⟩) rk69 rc70), (36, .slice (some ⟨gR2, 0, none⟩) rk76 rc77), (38, .int .i64 (((r + 1 : Nat) : Int) : Int))]) (by kernel_rfl) _ ?_ ⟨(r + 1), rfl, rfl, (Nat.le_trans hs101 (Nat.le_trans hs108 hs113)), hE, hX9, hX47, hX74, hX81, by omega⟩
              omega
        ·
          refine cw_seq ?_
          refine cw_seq ?_
          refine cw_plain ?_
          refine pl_take (.int .i64 (((r : Nat) : Int) : Int)) rfl (by kernel_rfl) (by kernel_rfl) (by kernel_rfl) (by kernel_rfl) ?_
          refine pl_take (.slice ra68 rk69 rc70) rfl (by kernel_rfl) (by kernel_rfl) (by kernel_rfl) (by kernel_rfl) ?_
          refine pl_take (.int .i64 (((rk69 : Nat) : Int) : Int)) rfl (by kernel_rfl) (by kernel_rfl) (by kernel_rfl) (by kernel_rfl) ?_
          refine pl_take (.bool false) rfl (by kernel_rfl) (by kernel_rfl) (by kernel_rfl) (ev_ndec (show _ = Result.ok (Next.value (Value.bool (decide ((((r : Nat) : Int) : Int) < (((rk69 : Nat) : Int) : Int))))) _ from by kernel_rfl) (by omega)) ?_
          refine pl_nil ?_
          refine qw_then ?_
          refine cw_f (by kernel_rfl) ?_
          refine cw_exit ?_
          refine qw_then_exit ?_
          refine qw_then_exit ?_
          refine qw_block_out ?_
          refine qw_then ?_
          refine cw_seq ?_
          refine cw_plain ?_
          refine pl_take (.bool true) rfl (by kernel_rfl) (by kernel_rfl) (by kernel_rfl) (by kernel_rfl) ?_
          refine pl_take (.bool true) rfl (by kernel_rfl) (by kernel_rfl) (by kernel_rfl) (by kernel_rfl) ?_
          refine pl_nil ?_
          refine qw_then ?_
          refine cw_ret ?_
          refine qw_ret [.bool true] rfl ⟨(by kernel_rfl), trivial⟩ ?_
          exact ⟨rfl, hE⟩
    ·
      refine pl_take (.bool false) rfl (by kernel_rfl) (by kernel_rfl) (by kernel_rfl) (ev_ndec (show _ = Result.ok (Next.value (Value.bool (decide ((((k1 : Nat) : Int) : Int) > (0 : Int))))) _ from by kernel_rfl) (hc82)) ?_
      refine pl_take (.bool false) rfl (by kernel_rfl) (by kernel_rfl) (by kernel_rfl) (by kernel_rfl) ?_
      refine pl_skip rfl (by kernel_rfl) (by kernel_rfl) (by kernel_rfl) ?_
      refine pl_skip rfl (by kernel_rfl) (by kernel_rfl) (by kernel_rfl) ?_
      refine pl_skip rfl (by kernel_rfl) (by kernel_rfl) (by kernel_rfl) ?_
      refine pl_skip rfl (by kernel_rfl) (by kernel_rfl) (by kernel_rfl) ?_
      refine pl_skip rfl (by kernel_rfl) (by kernel_rfl) (by kernel_rfl) ?_
      refine pl_take (.bool false) rfl (by kernel_rfl) (by kernel_rfl) (by kernel_rfl) (by kernel_rfl) ?_
      refine pl_take (.bool false) rfl (by kernel_rfl) (by kernel_rfl) (by kernel_rfl) (by kernel_rfl) ?_
      refine pl_take (.int .i64 (ov62 : Int)) rfl (by kernel_rfl) (by kernel_rfl) (by kernel_rfl) (by kernel_rfl) ?_
      by_cases hc118 : (ov62 : Int) < (0 : Int)
      ·
        refine pl_take (.bool true) rfl (by kernel_rfl) (by kernel_rfl) (by kernel_rfl) (ev_dec (show _ = Result.ok (Next.value (Value.bool (decide ((ov62 : Int) < (0 : Int))))) _ from by kernel_rfl) (hc118)) ?_
        refine pl_take (.int .i64 (ov65 : Int)) rfl (by kernel_rfl) (by kernel_rfl) (by kernel_rfl) (by kernel_rfl) ?_
        refine pl_take (.bool true) rfl (by kernel_rfl) (by kernel_rfl) (by kernel_rfl) (ev_dec (show _ = Result.ok (Next.value (Value.bool (decide ((ov65 : Int) < (0 : Int))))) _ from by kernel_rfl) (by omega)) ?_
        refine pl_take (.bool false) rfl (by kernel_rfl) (by kernel_rfl) (by kernel_rfl) (by kernel_rfl) ?_
        refine pl_take (.bool false) rfl (by kernel_rfl) (by kernel_rfl) (by kernel_rfl) (by kernel_rfl) ?_
        refine pl_take (.bool false) rfl (by kernel_rfl) (by kernel_rfl) (by kernel_rfl) (by kernel_rfl) ?_
        refine pl_take (.int .i64 (ov62 : Int)) rfl (by kernel_rfl) (by kernel_rfl) (by kernel_rfl) (by kernel_rfl) ?_
        refine pl_take (.bool false) rfl (by kernel_rfl) (by kernel_rfl) (by kernel_rfl) (ev_ndec (show _ = Result.ok (Next.value (Value.bool (decide ((ov62 : Int) ≥ (0 : Int))))) _ from by kernel_rfl) (by omega)) ?_
        refine pl_take (.bool false) rfl (by kernel_rfl) (by kernel_rfl) (by kernel_rfl) (by kernel_rfl) ?_
        refine pl_skip rfl (by kernel_rfl) (by kernel_rfl) (by kernel_rfl) ?_
        refine pl_skip rfl (by kernel_rfl) (by kernel_rfl) (by kernel_rfl) ?_
        refine pl_skip rfl (by kernel_rfl) (by kernel_rfl) (by kernel_rfl) ?_
        refine pl_skip rfl (by kernel_rfl) (by kernel_rfl) (by kernel_rfl) ?_
        refine pl_skip rfl (by kernel_rfl) (by kernel_rfl) (by kernel_rfl) ?_
        refine pl_take (.bool false) rfl (by kernel_rfl) (by kernel_rfl) (by kernel_rfl) (by kernel_rfl) ?_
        refine pl_take (.bool false) rfl (by kernel_rfl) (by kernel_rfl) (by kernel_rfl) (by kernel_rfl) ?_
        refine pl_nil ?_
        refine qw_then ?_
        refine cw_clean [11, 12, 13, 34, 36, 214] (ws' := [(11, .bool true), (12, .slice a1 k1 c1), (13, .int .i64 (((nk10 : Nat) : Int) : Int)), (34, .slice ra68 rk69 rc70), (36, .slice ra75 rk76 rc77), (214, .bool false)]) (by kernel_rfl) (fun L => ?_)
        refine cw_f (by kernel_rfl) ?_
        refine cw_skip ?_
        refine qw_then ?_
        refine cw_seq ?_
        refine cw_seq ?_
        refine cw_plain ?_
        refine pl_take (.int .i64 0) rfl (by kernel_rfl) (by kernel_rfl) (by kernel_rfl) (by kernel_rfl) ?_
        refine pl_nil ?_
        refine qw_then ?_
        refine cw_block ?_
        refine cw_loop [11, 12, 13, 34, 36, 38] (fun ws' wr m => ∃ r : Nat, ws' = [(11, .bool true), (12, .slice a1 k1 c1), (13, .int .i64 (((nk10 : Nat) : Int) : Int)), (34, .slice ra68 rk69 rc70), (36, .slice ra75 rk76 rc77), (38, .int .i64 (((r : Nat) : Int) : Int))] ∧ m = rk69 - r ∧ w79.heap.size ≤ wr.heap.size ∧ Ext w wr ∧ Ext w7 wr ∧ Ext w15 wr ∧ Ext w72 wr ∧ Ext w79 wr ∧ r ≤ rk69) (ws0 := [(11, .bool true), (12, .slice a1 k1 c1), (13, .int .i64 (((nk10 : Nat) : Int) : Int)), (34, .slice ra68 rk69 rc70), (36, .slice ra75 rk76 rc77), (38, .int .i64 0)]) (by kernel_rfl) _ ⟨0, rfl, rfl, Nat.le_refl _, hE, hX9, hX47, hX74, hX81, Nat.zero_le _⟩ ?_
        clear hE hX9 hX47 hX74 hX81
        rintro m121 L ws w120 ⟨r, rfl, rfl, hs119, hE, hX9, hX47, hX74, hX81, hr⟩
        by_cases hlt : r < rk69
        ·
          obtain rfl := haR1 (by omega)
          have qR122 := hcR1 r (by omega)
          have hrl123 : (snN (Mem.rowsR l) r).length ≤ (l).length := Mem.row_len r
          obtain rfl := haR2 (by omega)
          have qR124 := hcR2 r (by omega)
          have hrl125 : (snN (Mem.rowsR (Mem.mvL l k1 nk10 pk11 k1)) r).length ≤ (Mem.mvL l k1 nk10 pk11 k1).length := Mem.row_len r
          obtain ⟨t9, he1, he2⟩ := hMv.row (r := r) (by omega)
          have hbt := hMv.bits (by omega) t9
          rw [← he1, ← he2, hll] at hbt
          have hk0 : 0 < k1 := by
            obtain ⟨s9, hs9, _⟩ := Mem.row_is (l := l) (i := r) (by omega)
            obtain ⟨x, hx, _⟩ := Mem.mem_begs.1 hs9
            rw [← hll]; exact List.length_pos_of_mem hx
          refine cw_seq ?_
          refine cw_seq ?_
          refine cw_plain ?_
          refine pl_take (.int .i64 (((r : Nat) : Int) : Int)) rfl (by kernel_rfl) (by kernel_rfl) (by kernel_rfl) (by kernel_rfl) ?_
          refine pl_take (.slice (some ⟨gR1, 0, none⟩) rk69 rc70) rfl (by kernel_rfl) (by kernel_rfl) (by kernel_rfl) (by kernel_rfl) ?_
          refine pl_take (.int .i64 (((rk69 : Nat) : Int) : Int)) rfl (by kernel_rfl) (by kernel_rfl) (by kernel_rfl) (by kernel_rfl) ?_
          refine pl_take (.bool true) rfl (by kernel_rfl) (by kernel_rfl) (by kernel_rfl) (ev_dec (show _ = Result.ok (Next.value (Value.bool (decide ((((r : Nat) : Int) : Int) < (((rk69 : Nat) : Int) : Int))))) _ from by kernel_rfl) (by omega)) ?_
          refine pl_nil ?_
          refine qw_then ?_
          refine cw_t (by kernel_rfl) ?_
          refine cw_skip ?_
          refine qw_then ?_
          refine cw_seq ?_
          refine cw_block ?_
          refine cw_seq ?_
          refine cw_plain ?_
          refine pl_take (.int .i64 0) rfl (by kernel_rfl) (by kernel_rfl) (by kernel_rfl) (by kernel_rfl) ?_
          refine pl_nil ?_
          refine qw_then ?_
          refine cw_seq ?_
          refine cw_plain ?_
          refine pl_take (.int .i64 0) rfl (by kernel_rfl) (by kernel_rfl) (by kernel_rfl) (by kernel_rfl) ?_
          refine pl_nil ?_
          refine qw_then ?_
          refine cw_seq ?_
          refine cw_seq ?_
          refine cw_plain ?_
          refine pl_take (.int .i64 0) rfl (by kernel_rfl) (by kernel_rfl) (by kernel_rfl) (by kernel_rfl) ?_
          refine pl_nil ?_
          refine qw_then ?_
          refine cw_block ?_
          refine cw_loop [11, 12, 13, 34, 36, 38, 39, 40, 41] (fun ws' wr m => ∃ j : Nat, ∃ zb : Nat, ws' = [(11, .bool true), (12, .slice a1 k1 c1), (13, .int .i64 (((nk10 : Nat) : Int) : Int)), (34, .slice (some ⟨gR1, 0, none⟩) rk69 rc70), (36, .slice (some ⟨gR2, 0, none⟩) rk76 rc77), (38, .int .i64 (((r : Nat) : Int) : Int)), (39, .int .i64 (((zb : Nat) : Int) : Int)), (40, .int .i64 0), (41, .int .i64 (((j : Nat) : Int) : Int))] ∧ m = (snN (Mem.rowsR l) r).length - j ∧ w120.heap.size ≤ wr.heap.size ∧ Ext w wr ∧ Ext w7 wr ∧ Ext w15 wr ∧ Ext w72 wr ∧ Ext w79 wr ∧ j ≤ (snN (Mem.rowsR l) r).length ∧ zb = Mem.bitsOf ((snN (Mem.rowsR l) r).take j)) (ws0 := [(11, .bool true), (12, .slice a1 k1 c1), (13, .int .i64 (((nk10 : Nat) : Int) : Int)), (34, .slice (some ⟨gR1, 0, none⟩) rk69 rc70), (36, .slice (some ⟨gR2, 0, none⟩) rk76 rc77), (38, .int .i64 (((r : Nat) : Int) : Int)), (39, .int .i64 0), (40, .int .i64 0), (41, .int .i64 0)]) (by kernel_rfl) _ ⟨0, 0, rfl, rfl, Nat.le_refl _, hE, hX9, hX47, hX74, hX81, Nat.zero_le _, rfl⟩ ?_
          clear hE hX9 hX47 hX74 hX81
          rintro m128 L ws w127 ⟨j, zb, rfl, rfl, hs126, hE, hX9, hX47, hX74, hX81, hj, hzb⟩
          by_cases hlt : j < (snN (Mem.rowsR l) r).length
          ·
            have qe129 := (hnR1 r (by omega)).2 j _ (Mem.natN_at hlt)
            have hnl130 := Mem.row_lt (l := l) (i := r) (by omega) hlt
            have hbl := Mem.row_bits (l := l) (by omega) (r := r) (by omega) j
            rw [← hzb] at hbl
            refine cw_seq ?_
            refine cw_seq ?_
            refine cw_plain ?_
            refine pl_take (.int .i64 (((j : Nat) : Int) : Int)) rfl (by kernel_rfl) (by kernel_rfl) (by kernel_rfl) (by kernel_rfl) ?_
            refine pl_take (.slice (some ⟨gR1, 0, none⟩) rk69 rc70) rfl (by kernel_rfl) (by kernel_rfl) (by kernel_rfl) (by kernel_rfl) ?_
            refine pl_take (.int .i64 (((r : Nat) : Int) : Int)) rfl (by kernel_rfl) (by kernel_rfl) (by kernel_rfl) (by kernel_rfl) ?_
            refine pl_take (.pointer (some ⟨gR1, r, none⟩)) rfl (by kernel_rfl) (by kernel_rfl) (by kernel_rfl) (ex_index (p := .slice (some ⟨gR1, 0, none⟩) rk69 rc70) (i := .int .i64 ((r : Nat) : Int)) rfl (by kernel_rfl) (by kernel_rfl) (ix39z (k := r) (by omega))) ?_
            refine pl_take (.slice (some ⟨(fbR1 r), 0, none⟩) ((snN (Mem.rowsR l) r).length) ((fcR1 r))) rfl (by kernel_rfl) (by kernel_rfl) (by kernel_rfl) (ex_load rfl (by kernel_rfl) (ld56 ((hX74.cell qR122)))) ?_
            refine pl_take (.int .i64 ((((snN (Mem.rowsR l) r).length : Nat) : Int) : Int)) rfl (by kernel_rfl) (by kernel_rfl) (by kernel_rfl) (by kernel_rfl) ?_
            refine pl_take (.bool true) rfl (by kernel_rfl) (by kernel_rfl) (by kernel_rfl) (ev_dec (show _ = Result.ok (Next.value (Value.bool (decide ((((j : Nat) : Int) : Int) < ((((snN (Mem.rowsR l) r).length : Nat) : Int) : Int))))) _ from by kernel_rfl) (by omega)) ?_
            refine pl_nil ?_
            refine qw_then ?_
            refine cw_clean [11, 12, 13, 34, 36, 38, 39, 40, 41, 227] (ws' := [(11, .bool true), (12, .slice a1 k1 c1), (13, .int .i64 (((nk10 : Nat) : Int) : Int)), (34, .slice (some ⟨gR1, 0, none⟩) rk69 rc70), (36, .slice (some ⟨gR2, 0, none⟩) rk76 rc77), (38, .int .i64 (((r : Nat) : Int) : Int)), (39, .int .i64 (((zb : Nat) : Int) : Int)), (40, .int .i64 0), (41, .int .i64 (((j : Nat) : Int) : Int)), (227, .bool true)]) (by kernel_rfl) (fun L => ?_)
            refine cw_t (by kernel_rfl) ?_
            refine cw_skip ?_
            refine qw_then ?_
            refine cw_seq ?_
            refine cw_block ?_
            refine cw_seq ?_
            refine cw_seq ?_
            refine cw_plain ?_
            refine pl_take (.slice (some ⟨gR1, 0, none⟩) rk69 rc70) rfl (by kernel_rfl) (by kernel_rfl) (by kernel_rfl) (by kernel_rfl) ?_
            refine pl_take (.int .i64 (((r : Nat) : Int) : Int)) rfl (by kernel_rfl) (by kernel_rfl) (by kernel_rfl) (by kernel_rfl) ?_
            refine pl_take (.pointer (some ⟨gR1, r, none⟩)) rfl (by kernel_rfl) (by kernel_rfl) (by kernel_rfl) (ex_index (p := .slice (some ⟨gR1, 0, none⟩) rk69 rc70) (i := .int .i64 ((r : Nat) : Int)) rfl (by kernel_rfl) (by kernel_rfl) (ix39z (k := r) (by omega))) ?_
            refine pl_take (.slice (some ⟨(fbR1 r), 0, none⟩) ((snN (Mem.rowsR l) r).length) ((fcR1 r))) rfl (by kernel_rfl) (by kernel_rfl) (by kernel_rfl) (ex_load rfl (by kernel_rfl) (ld56 ((hX74.cell qR122)))) ?_
            refine pl_take (.int .i64 (((j : Nat) : Int) : Int)) rfl (by kernel_rfl) (by kernel_rfl) (by kernel_rfl) (by kernel_rfl) ?_
            refine pl_take (.pointer (some ⟨(fbR1 r), j, none⟩)) rfl (by kernel_rfl) (by kernel_rfl) (by kernel_rfl) (ex_index (p := .slice (some ⟨(fbR1 r), 0, none⟩) ((snN (Mem.rowsR l) r).length) ((fcR1 r))) (i := .int .i64 ((j : Nat) : Int)) rfl (by kernel_rfl) (by kernel_rfl) (ix56z (k := j) (by omega))) ?_
            refine pl_take (.int .i64 (((Mem.natN (snN (Mem.rowsR l) r) j : Nat) : Int) : Int)) rfl (by kernel_rfl) (by kernel_rfl) (by kernel_rfl) (ex_load rfl (by kernel_rfl) (ld3 ((hX74.cell qe129)))) ?_
            refine pl_take (.bool false) rfl (by kernel_rfl) (by kernel_rfl) (by kernel_rfl) (ev_ndec (show _ = Result.ok (Next.value (Value.bool (decide ((((Mem.natN (snN (Mem.rowsR l) r) j : Nat) : Int) : Int) < (0 : Int))))) _ from by kernel_rfl) (by omega)) ?_
            refine pl_take (.bool false) rfl (by kernel_rfl) (by kernel_rfl) (by kernel_rfl) (by kernel_rfl) ?_
            refine pl_take (.slice (some ⟨gR1, 0, none⟩) rk69 rc70) rfl (by kernel_rfl) (by kernel_rfl) (by kernel_rfl) (by kernel_rfl) ?_
            refine pl_take (.int .i64 (((r : Nat) : Int) : Int)) rfl (by kernel_rfl) (by kernel_rfl) (by kernel_rfl) (by kernel_rfl) ?_
            refine pl_take (.pointer (some ⟨gR1, r, none⟩)) rfl (by kernel_rfl) (by kernel_rfl) (by kernel_rfl) (ex_index (p := .slice (some ⟨gR1, 0, none⟩) rk69 rc70) (i := .int .i64 ((r : Nat) : Int)) rfl (by kernel_rfl) (by kernel_rfl) (ix39z (k := r) (by omega))) ?_
            refine pl_take (.slice (some ⟨(fbR1 r), 0, none⟩) ((snN (Mem.rowsR l) r).length) ((fcR1 r))) rfl (by kernel_rfl) (by kernel_rfl) (by kernel_rfl) (ex_load rfl (by kernel_rfl) (ld56 ((hX74.cell qR122)))) ?_
            refine pl_take (.int .i64 (((j : Nat) : Int) : Int)) rfl (by kernel_rfl) (by kernel_rfl) (by kernel_rfl) (by kernel_rfl) ?_
            refine pl_take (.pointer (some ⟨(fbR1 r), j, none⟩)) rfl (by kernel_rfl) (by kernel_rfl) (by kernel_rfl) (ex_index (p := .slice (some ⟨(fbR1 r), 0, none⟩) ((snN (Mem.rowsR l) r).length) ((fcR1 r))) (i := .int .i64 ((j : Nat) : Int)) rfl (by kernel_rfl) (by kernel_rfl) (ix56z (k := j) (by omega))) ?_
            refine pl_take (.int .i64 (((Mem.natN (snN (Mem.rowsR l) r) j : Nat) : Int) : Int)) rfl (by kernel_rfl) (by kernel_rfl) (by kernel_rfl) (ex_load rfl (by kernel_rfl) (ld3 ((hX74.cell qe129)))) ?_
            refine pl_take (.slice a1 k1 c1) rfl (by kernel_rfl) (by kernel_rfl) (by kernel_rfl) (by kernel_rfl) ?_
            refine pl_take (.int .i64 (((k1 : Nat) : Int) : Int)) rfl (by kernel_rfl) (by kernel_rfl) (by kernel_rfl) (by kernel_rfl) ?_
            refine pl_take (.bool false) rfl (by kernel_rfl) (by kernel_rfl) (by kernel_rfl) (ev_ndec (show _ = Result.ok (Next.value (Value.bool (decide ((((Mem.natN (snN (Mem.rowsR l) r) j : Nat) : Int) : Int) ≥ (((k1 : Nat) : Int) : Int))))) _ from by kernel_rfl) (by omega)) ?_
            refine pl_take (.bool false) rfl (by kernel_rfl) (by kernel_rfl) (by kernel_rfl) (by kernel_rfl) ?_
            refine pl_nil ?_
            refine qw_then ?_
            refine cw_clean [11, 12, 13, 34, 36, 38, 39, 40, 41, 249] (ws' := [(11, .bool true), (12, .slice a1 k1 c1), (13, .int .i64 (((nk10 : Nat) : Int) : Int)), (34, .slice (some ⟨gR1, 0, none⟩) rk69 rc70), (36, .slice (some ⟨gR2, 0, none⟩) rk76 rc77), (38, .int .i64 (((r : Nat) : Int) : Int)), (39, .int .i64 (((zb : Nat) : Int) : Int)), (40, .int .i64 0), (41, .int .i64 (((j : Nat) : Int) : Int)), (249, .bool false)]) (by kernel_rfl) (fun L => ?_)
            refine cw_f (by kernel_rfl) ?_
            refine cw_skip ?_
            refine qw_then ?_
            refine cw_plain ?_
            refine pl_take (.int .i64 (((zb : Nat) : Int) : Int)) rfl (by kernel_rfl) (by kernel_rfl) (by kernel_rfl) (by kernel_rfl) ?_
            refine pl_take (.slice (some ⟨gR1, 0, none⟩) rk69 rc70) rfl (by kernel_rfl) (by kernel_rfl) (by kernel_rfl) (by kernel_rfl) ?_
            refine pl_take (.int .i64 (((r : Nat) : Int) : Int)) rfl (by kernel_rfl) (by kernel_rfl) (by kernel_rfl) (by kernel_rfl) ?_
            refine pl_take (.pointer (some ⟨gR1, r, none⟩)) rfl (by kernel_rfl) (by kernel_rfl) (by kernel_rfl) (ex_index (p := .slice (some ⟨gR1, 0, none⟩) rk69 rc70) (i := .int .i64 ((r : Nat) : Int)) rfl (by kernel_rfl) (by kernel_rfl) (ix39z (k := r) (by omega))) ?_
            refine pl_take (.slice (some ⟨(fbR1 r), 0, none⟩) ((snN (Mem.rowsR l) r).length) ((fcR1 r))) rfl (by kernel_rfl) (by kernel_rfl) (by kernel_rfl) (ex_load rfl (by kernel_rfl) (ld56 ((hX74.cell qR122)))) ?_
            refine pl_take (.int .i64 (((j : Nat) : Int) : Int)) rfl (by kernel_rfl) (by kernel_rfl) (by kernel_rfl) (by kernel_rfl) ?_
            refine pl_take (.pointer (some ⟨(fbR1 r), j, none⟩)) rfl (by kernel_rfl) (by kernel_rfl) (by kernel_rfl) (ex_index (p := .slice (some ⟨(fbR1 r), 0, none⟩) ((snN (Mem.rowsR l) r).length) ((fcR1 r))) (i := .int .i64 ((j : Nat) : Int)) rfl (by kernel_rfl) (by kernel_rfl) (ix56z (k := j) (by omega))) ?_
            refine pl_take (.int .i64 (((Mem.natN (snN (Mem.rowsR l) r) j : Nat) : Int) : Int)) rfl (by kernel_rfl) (by kernel_rfl) (by kernel_rfl) (ex_load rfl (by kernel_rfl) (ld3 ((hX74.cell qe129)))) ?_
            refine pl_take (.int .i64 (((2 ^ (Mem.natN (snN (Mem.rowsR l) r) j) : Nat) : Int) : Int)) rfl (by kernel_rfl) (by kernel_rfl) (by kernel_rfl) (ex_bin rfl (by kernel_rfl) (by kernel_rfl) (bin_shl1 (by omega))) ?_
            refine pl_take (.int .i64 (((zb ||| (2 ^ (Mem.natN (snN (Mem.rowsR l) r) j)) : Nat) : Int) : Int)) rfl (by kernel_rfl) (by kernel_rfl) (by kernel_rfl) (ev_int (show _ = Result.ok (Next.value (Value.int .i64 (bits .or .i64 ((zb : Nat) : Int) ((2 ^ (Mem.natN (snN (Mem.rowsR l) r) j) : Nat) : Int)))) _ from by kernel_rfl) (or_i64 _ _ (by omega) (by have : 2 ^ (Mem.natN (snN (Mem.rowsR l) r) j) < 2 ^ 48 := Nat.pow_lt_pow_right (by decide) (by omega); omega))) ?_
            refine pl_take (.int .i64 (((zb ||| (2 ^ (Mem.natN (snN (Mem.rowsR l) r) j)) : Nat) : Int) : Int)) rfl (by kernel_rfl) (by kernel_rfl) (by kernel_rfl) (by kernel_rfl) ?_
            refine pl_nil ?_
            refine qw_block ?_
            refine qw_then ?_
            refine cw_clean [11, 12, 13, 34, 36, 38, 39, 40, 41] (ws' := [(11, .bool true), (12, .slice a1 k1 c1), (13, .int .i64 (((nk10 : Nat) : Int) : Int)), (34, .slice (some ⟨gR1, 0, none⟩) rk69 rc70), (36, .slice (some ⟨gR2, 0, none⟩) rk76 rc77), (38, .int .i64 (((r : Nat) : Int) : Int)), (39, .int .i64 (((zb ||| (2 ^ (Mem.natN (snN (Mem.rowsR l) r) j)) : Nat) : Int) : Int)), (40, .int .i64 0), (41, .int .i64 (((j : Nat) : Int) : Int))]) (by kernel_rfl) (fun L => ?_)
            refine cw_plain ?_
            refine pl_take (.int .i64 (((j : Nat) : Int) : Int)) rfl (by kernel_rfl) (by kernel_rfl) (by kernel_rfl) (by kernel_rfl) ?_
            refine pl_take (.int .i64 (((j + 1 : Nat) : Int) : Int)) rfl (by kernel_rfl) (by kernel_rfl) (by kernel_rfl) (ev_wrap (by kernel_rfl) (by omega) (by omega)) ?_
            refine pl_take (.int .i64 (((j + 1 : Nat) : Int) : Int)) rfl (by kernel_rfl) (by kernel_rfl) (by kernel_rfl) (by kernel_rfl) ?_
            refine pl_nil ?_
            refine qw_round [11, 12, 13, 34, 36, 38, 39, 40, 41] (ws' := [(11, .bool true), (12, .slice a1 k1 c1), (13, .int .i64 (((nk10 : Nat) : Int) : Int)), (34, .slice (some ⟨gR1, 0, none⟩) rk69 rc70), (36, .slice (some ⟨gR2, 0, none⟩) rk76 rc77), (38, .int .i64 (((r : Nat) : Int) : Int)), (39, .int .i64 (((zb ||| (2 ^ (Mem.natN (snN (Mem.rowsR l) r) j)) : Nat) : Int) : Int)), (40, .int .i64 0), (41, .int .i64 (((j + 1 : Nat) : Int) : Int))]) (by kernel_rfl) _ ?_ ⟨(j + 1), zb ||| (2 ^ (Mem.natN (snN (Mem.rowsR l) r) j)), rfl, rfl, hs126, hE, hX9, hX47, hX74, hX81, by omega, (by rw [Mem.natN_take hlt, Mem.bitsOf_snoc, ← hzb])⟩
            omega
          ·
            have hz9 : zb = Mem.bitsOf (snN (Mem.rowsR l) r) := by rw [hzb, show j = (snN (Mem.rowsR l) r).length by omega, List.take_length]
            refine cw_seq ?_
            refine cw_seq ?_
            refine cw_plain ?_
            refine pl_take (.int .i64 (((j : Nat) : Int) : Int)) rfl (by kernel_rfl) (by kernel_rfl) (by kernel_rfl) (by kernel_rfl) ?_
            refine pl_take (.slice (some ⟨gR1, 0, none⟩) rk69 rc70) rfl (by kernel_rfl) (by kernel_rfl) (by kernel_rfl) (by kernel_rfl) ?_
            refine pl_take (.int .i64 (((r : Nat) : Int) : Int)) rfl (by kernel_rfl) (by kernel_rfl) (by kernel_rfl) (by kernel_rfl) ?_
            refine pl_take (.pointer (some ⟨gR1, r, none⟩)) rfl (by kernel_rfl) (by kernel_rfl) (by kernel_rfl) (ex_index (p := .slice (some ⟨gR1, 0, none⟩) rk69 rc70) (i := .int .i64 ((r : Nat) : Int)) rfl (by kernel_rfl) (by kernel_rfl) (ix39z (k := r) (by omega))) ?_
            refine pl_take (.slice (some ⟨(fbR1 r), 0, none⟩) ((snN (Mem.rowsR l) r).length) ((fcR1 r))) rfl (by kernel_rfl) (by kernel_rfl) (by kernel_rfl) (ex_load rfl (by kernel_rfl) (ld56 ((hX74.cell qR122)))) ?_
            refine pl_take (.int .i64 ((((snN (Mem.rowsR l) r).length : Nat) : Int) : Int)) rfl (by kernel_rfl) (by kernel_rfl) (by kernel_rfl) (by kernel_rfl) ?_
            refine pl_take (.bool false) rfl (by kernel_rfl) (by kernel_rfl) (by kernel_rfl) (ev_ndec (show _ = Result.ok (Next.value (Value.bool (decide ((((j : Nat) : Int) : Int) < ((((snN (Mem.rowsR l) r).length : Nat) : Int) : Int))))) _ from by kernel_rfl) (by omega)) ?_
            refine pl_nil ?_
            refine qw_then ?_
            refine cw_clean [11, 12, 13, 34, 36, 38, 39, 40, 41, 227] (ws' := [(11, .bool true), (12, .slice a1 k1 c1), (13, .int .i64 (((nk10 : Nat) : Int) : Int)), (34, .slice (some ⟨gR1, 0, none⟩) rk69 rc70), (36, .slice (some ⟨gR2, 0, none⟩) rk76 rc77), (38, .int .i64 (((r : Nat) : Int) : Int)), (39, .int .i64 (((zb : Nat) : Int) : Int)), (40, .int .i64 0), (41, .int .i64 (((j : Nat) : Int) : Int)), (227, .bool false)]) (by kernel_rfl) (fun L => ?_)
            refine cw_f (by kernel_rfl) ?_
            refine cw_exit ?_
            refine qw_then_exit ?_
            refine qw_then_exit ?_
            refine qw_block_out ?_
            refine qw_then ?_
            refine cw_seq ?_
            refine cw_seq ?_
            refine cw_plain ?_
            refine pl_take (.int .i64 0) rfl (by kernel_rfl) (by kernel_rfl) (by kernel_rfl) (by kernel_rfl) ?_
            refine pl_nil ?_
            refine qw_then ?_
            refine cw_block ?_
            refine cw_loop [11, 12, 13, 34, 36, 38, 39, 40, 42] (fun ws' wr m => ∃ z : Nat, ∃ yb : Nat, ws' = [(11, .bool true), (12, .slice a1 k1 c1), (13, .int .i64 (((nk10 : Nat) : Int) : Int)), (34, .slice (some ⟨gR1, 0, none⟩) rk69 rc70), (36, .slice (some ⟨gR2, 0, none⟩) rk76 rc77), (38, .int .i64 (((r : Nat) : Int) : Int)), (39, .int .i64 (((zb : Nat) : Int) : Int)), (40, .int .i64 (((yb : Nat) : Int) : Int)), (42, .int .i64 (((z : Nat) : Int) : Int))] ∧ m = (snN (Mem.rowsR (Mem.mvL l k1 nk10 pk11 k1)) r).length - z ∧ w127.heap.size ≤ wr.heap.size ∧ Ext w wr ∧ Ext w7 wr ∧ Ext w15 wr ∧ Ext w72 wr ∧ Ext w79 wr ∧ z ≤ (snN (Mem.rowsR (Mem.mvL l k1 nk10 pk11 k1)) r).length ∧ yb = Mem.bitsOf (((snN (Mem.rowsR (Mem.mvL l k1 nk10 pk11 k1)) r).take z).map (fun j => (j + nk10) % k1))) (ws0 := [(11, .bool true), (12, .slice a1 k1 c1), (13, .int .i64 (((nk10 : Nat) : Int) : Int)), (34, .slice (some ⟨gR1, 0, none⟩) rk69 rc70), (36, .slice (some ⟨gR2, 0, none⟩) rk76 rc77), (38, .int .i64 (((r : Nat) : Int) : Int)), (39, .int .i64 (((zb : Nat) : Int) : Int)), (40, .int .i64 0), (42, .int .i64 0)]) (by kernel_rfl) _ ⟨0, 0, rfl, rfl, Nat.le_refl _, hE, hX9, hX47, hX74, hX81, Nat.zero_le _, rfl⟩ ?_
            clear hE hX9 hX47 hX74 hX81
            rintro m133 L ws w132 ⟨z, yb, rfl, rfl, hs131, hE, hX9, hX47, hX74, hX81, hz, hyb⟩
            by_cases hlt : z < (snN (Mem.rowsR (Mem.mvL l k1 nk10 pk11 k1)) r).length
            ·
              have qe134 := (hnR2 r (by omega)).2 z _ (Mem.natN_at hlt)
              have hnl135 := Mem.row_lt (l := Mem.mvL l k1 nk10 pk11 k1) (i := r) (by omega) hlt
              have hmd : (Mem.natN (snN (Mem.rowsR (Mem.mvL l k1 nk10 pk11 k1)) r) z + nk10) % k1 < k1 := Nat.mod_lt _ (by omega)
              have hbl := Mem.map_bits (s := (snN (Mem.rowsR (Mem.mvL l k1 nk10 pk11 k1)) r).take z) (k := nk10) (L := k1) (by omega) (by omega)
              rw [← hyb] at hbl
              refine cw_seq ?_
              refine cw_seq ?_
              refine cw_plain ?_
              refine pl_take (.int .i64 (((z : Nat) : Int) : Int)) rfl (by kernel_rfl) (by kernel_rfl) (by kernel_rfl) (by kernel_rfl) ?_
              refine pl_take (.slice (some ⟨gR2, 0, none⟩) rk76 rc77) rfl (by kernel_rfl) (by kernel_rfl) (by kernel_rfl) (by kernel_rfl) ?_
              refine pl_take (.int .i64 (((r : Nat) : Int) : Int)) rfl (by kernel_rfl) (by kernel_rfl) (by kernel_rfl) (by kernel_rfl) ?_
              refine pl_take (.pointer (some ⟨gR2, r, none⟩)) rfl (by kernel_rfl) (by kernel_rfl) (by kernel_rfl) (ex_index (p := .slice (some ⟨gR2, 0, none⟩) rk76 rc77) (i := .int .i64 ((r : Nat) : Int)) rfl (by kernel_rfl) (by kernel_rfl) (ix39z (k := r) (by omega))) ?_
              refine pl_take (.slice (some ⟨(fbR2 r), 0, none⟩) ((snN (Mem.rowsR (Mem.mvL l k1 nk10 pk11 k1)) r).length) ((fcR2 r))) rfl (by kernel_rfl) (by kernel_rfl) (by kernel_rfl) (ex_load rfl (by kernel_rfl) (ld56 ((hX81.cell qR124)))) ?_
              refine pl_take (.int .i64 ((((snN (Mem.rowsR (Mem.mvL l k1 nk10 pk11 k1)) r).length : Nat) : Int) : Int)) rfl (by kernel_rfl) (by kernel_rfl) (by kernel_rfl) (by kernel_rfl) ?_
              refine pl_take (.bool true) rfl (by kernel_rfl) (by kernel_rfl) (by kernel_rfl) (ev_dec (show _ = Result.ok (Next.value (Value.bool (decide ((((z : Nat) : Int) : Int) < ((((snN (Mem.rowsR (Mem.mvL l k1 nk10 pk11 k1)) r).length : Nat) : Int) : Int))))) _ from by kernel_rfl) (by omega)) ?_
              refine pl_nil ?_
              refine qw_then ?_
              refine cw_clean [11, 12, 13, 34, 36, 38, 39, 40, 42, 266] (ws' := [(11, .bool true), (12, .slice a1 k1 c1), (13, .int .i64 (((nk10 : Nat) : Int) : Int)), (34, .slice (some ⟨gR1, 0, none⟩) rk69 rc70), (36, .slice (some ⟨gR2, 0, none⟩) rk76 rc77), (38, .int .i64 (((r : Nat) : Int) : Int)), (39, .int .i64 (((zb : Nat) : Int) : Int)), (40, .int .i64 (((yb : Nat) : Int) : Int)), (42, .int .i64 (((z : Nat) : Int) : Int)), (266, .bool true)]) (by kernel_rfl) (fun L => ?_)
              refine cw_t (by kernel_rfl) ?_
              refine cw_skip ?_
              refine qw_then ?_
              refine cw_seq ?_
              refine cw_block ?_
              refine cw_seq ?_
              refine cw_seq ?_
              refine cw_plain ?_
              refine pl_take (.slice (some ⟨gR2, 0, none⟩) rk76 rc77) rfl (by kernel_rfl) (by kernel_rfl) (by kernel_rfl) (by kernel_rfl) ?_
              refine pl_take (.int .i64 (((r : Nat) : Int) : Int)) rfl (by kernel_rfl) (by kernel_rfl) (by kernel_rfl) (by kernel_rfl) ?_
              refine pl_take (.pointer (some ⟨gR2, r, none⟩)) rfl (by kernel_rfl) (by kernel_rfl) (by kernel_rfl) (ex_index (p := .slice (some ⟨gR2, 0, none⟩) rk76 rc77) (i := .int .i64 ((r : Nat) : Int)) rfl (by kernel_rfl) (by kernel_rfl) (ix39z (k := r) (by omega))) ?_
              refine pl_take (.slice (some ⟨(fbR2 r), 0, none⟩) ((snN (Mem.rowsR (Mem.mvL l k1 nk10 pk11 k1)) r).length) ((fcR2 r))) rfl (by kernel_rfl) (by kernel_rfl) (by kernel_rfl) (ex_load rfl (by kernel_rfl) (ld56 ((hX81.cell qR124)))) ?_
              refine pl_take (.int .i64 (((z : Nat) : Int) : Int)) rfl (by kernel_rfl) (by kernel_rfl) (by kernel_rfl) (by kernel_rfl) ?_
              refine pl_take (.pointer (some ⟨(fbR2 r), z, none⟩)) rfl (by kernel_rfl) (by kernel_rfl) (by kernel_rfl) (ex_index (p := .slice (some ⟨(fbR2 r), 0, none⟩) ((snN (Mem.rowsR (Mem.mvL l k1 nk10 pk11 k1)) r).length) ((fcR2 r))) (i := .int .i64 ((z : Nat) : Int)) rfl (by kernel_rfl) (by kernel_rfl) (ix56z (k := z) (by omega))) ?_
              refine pl_take (.int .i64 (((Mem.natN (snN (Mem.rowsR (Mem.mvL l k1 nk10 pk11 k1)) r) z : Nat) : Int) : Int)) rfl (by kernel_rfl) (by kernel_rfl) (by kernel_rfl) (ex_load rfl (by kernel_rfl) (ld3 ((hX81.cell qe134)))) ?_
              refine pl_take (.bool false) rfl (by kernel_rfl) (by kernel_rfl) (by kernel_rfl) (ev_ndec (show _ = Result.ok (Next.value (Value.bool (decide ((((Mem.natN (snN (Mem.rowsR (Mem.mvL l k1 nk10 pk11 k1)) r) z : Nat) : Int) : Int) < (0 : Int))))) _ from by kernel_rfl) (by omega)) ?_
              refine pl_take (.bool false) rfl (by kernel_rfl) (by kernel_rfl) (by kernel_rfl) (by kernel_rfl) ?_
              refine pl_take (.slice (some ⟨gR2, 0, none⟩) rk76 rc77) rfl (by kernel_rfl) (by kernel_rfl) (by kernel_rfl) (by kernel_rfl) ?_
              refine pl_take (.int .i64 (((r : Nat) : Int) : Int)) rfl (by kernel_rfl) (by kernel_rfl) (by kernel_rfl) (by kernel_rfl) ?_
              refine pl_take (.pointer (some ⟨gR2, r, none⟩)) rfl (by kernel_rfl) (by kernel_rfl) (by kernel_rfl) (ex_index (p := .slice (some ⟨gR2, 0, none⟩) rk76 rc77) (i := .int .i64 ((r : Nat) : Int)) rfl (by kernel_rfl) (by kernel_rfl) (ix39z (k := r) (by omega))) ?_
              refine pl_take (.slice (some ⟨(fbR2 r), 0, none⟩) ((snN (Mem.rowsR (Mem.mvL l k1 nk10 pk11 k1)) r).length) ((fcR2 r))) rfl (by kernel_rfl) (by kernel_rfl) (by kernel_rfl) (ex_load rfl (by kernel_rfl) (ld56 ((hX81.cell qR124)))) ?_
              refine pl_take (.int .i64 (((z : Nat) : Int) : Int)) rfl (by kernel_rfl) (by kernel_rfl) (by kernel_rfl) (by kernel_rfl) ?_
              refine pl_take (.pointer (some ⟨(fbR2 r), z, none⟩)) rfl (by kernel_rfl) (by kernel_rfl) (by kernel_rfl) (ex_index (p := .slice (some ⟨(fbR2 r), 0, none⟩) ((snN (Mem.rowsR (Mem.mvL l k1 nk10 pk11 k1)) r).length) ((fcR2 r))) (i := .int .i64 ((z : Nat) : Int)) rfl (by kernel_rfl) (by kernel_rfl) (ix56z (k := z) (by omega))) ?_
              refine pl_take (.int .i64 (((Mem.natN (snN (Mem.rowsR (Mem.mvL l k1 nk10 pk11 k1)) r) z : Nat) : Int) : Int)) rfl (by kernel_rfl) (by kernel_rfl) (by kernel_rfl) (ex_load rfl (by kernel_rfl) (ld3 ((hX81.cell qe134)))) ?_
              refine pl_take (.slice a1 k1 c1) rfl (by kernel_rfl) (by kernel_rfl) (by kernel_rfl) (by kernel_rfl) ?_
              refine pl_take (.int .i64 (((k1 : Nat) : Int) : Int)) rfl (by kernel_rfl) (by kernel_rfl) (by kernel_rfl) (by kernel_rfl) ?_
              refine pl_take (.bool false) rfl (by kernel_rfl) (by kernel_rfl) (by kernel_rfl) (ev_ndec (show _ = Result.ok (Next.value (Value.bool (decide ((((Mem.natN (snN (Mem.rowsR (Mem.mvL l k1 nk10 pk11 k1)) r) z : Nat) : Int) : Int) ≥ (((k1 : Nat) : Int) : Int))))) _ from by kernel_rfl) (by omega)) ?_
              refine pl_take (.bool false) rfl (by kernel_rfl) (by kernel_rfl) (by kernel_rfl) (by kernel_rfl) ?_
              refine pl_nil ?_
              refine qw_then ?_
              refine cw_clean [11, 12, 13, 34, 36, 38, 39, 40, 42, 288] (ws' := [(11, .bool true), (12, .slice a1 k1 c1), (13, .int .i64 (((nk10 : Nat) : Int) : Int)), (34, .slice (some ⟨gR1, 0, none⟩) rk69 rc70), (36, .slice (some ⟨gR2, 0, none⟩) rk76 rc77), (38, .int .i64 (((r : Nat) : Int) : Int)), (39, .int .i64 (((zb : Nat) : Int) : Int)), (40, .int .i64 (((yb : Nat) : Int) : Int)), (42, .int .i64 (((z : Nat) : Int) : Int)), (288, .bool false)]) (by kernel_rfl) (fun L => ?_)
              refine cw_f (by kernel_rfl) ?_
              refine cw_skip ?_
              refine qw_then ?_
              refine cw_plain ?_
              refine pl_take (.int .i64 (((yb : Nat) : Int) : Int)) rfl (by kernel_rfl) (by kernel_rfl) (by kernel_rfl) (by kernel_rfl) ?_
              refine pl_take (.slice (some ⟨gR2, 0, none⟩) rk76 rc77) rfl (by kernel_rfl) (by kernel_rfl) (by kernel_rfl) (by kernel_rfl) ?_
              refine pl_take (.int .i64 (((r : Nat) : Int) : Int)) rfl (by kernel_rfl) (by kernel_rfl) (by kernel_rfl) (by kernel_rfl) ?_
              refine pl_take (.pointer (some ⟨gR2, r, none⟩)) rfl (by kernel_rfl) (by kernel_rfl) (by kernel_rfl) (ex_index (p := .slice (some ⟨gR2, 0, none⟩) rk76 rc77) (i := .int .i64 ((r : Nat) : Int)) rfl (by kernel_rfl) (by kernel_rfl) (ix39z (k := r) (by omega))) ?_
              refine pl_take (.slice (some ⟨(fbR2 r), 0, none⟩) ((snN (Mem.rowsR (Mem.mvL l k1 nk10 pk11 k1)) r).length) ((fcR2 r))) rfl (by kernel_rfl) (by kernel_rfl) (by kernel_rfl) (ex_load rfl (by kernel_rfl) (ld56 ((hX81.cell qR124)))) ?_
              refine pl_take (.int .i64 (((z : Nat) : Int) : Int)) rfl (by kernel_rfl) (by kernel_rfl) (by kernel_rfl) (by kernel_rfl) ?_
              refine pl_take (.pointer (some ⟨(fbR2 r), z, none⟩)) rfl (by kernel_rfl) (by kernel_rfl) (by kernel_rfl) (ex_index (p := .slice (some ⟨(fbR2 r), 0, none⟩) ((snN (Mem.rowsR (Mem.mvL l k1 nk10 pk11 k1)) r).length) ((fcR2 r))) (i := .int .i64 ((z : Nat) : Int)) rfl (by kernel_rfl) (by kernel_rfl) (ix56z (k := z) (by omega))) ?_
              refine pl_take (.int .i64 (((Mem.natN (snN (Mem.rowsR (Mem.mvL l k1 nk10 pk11 k1)) r) z : Nat) : Int) : Int)) rfl (by kernel_rfl) (by kernel_rfl) (by kernel_rfl) (ex_load rfl (by kernel_rfl) (ld3 ((hX81.cell qe134)))) ?_
              refine pl_take (.int .i64 (((nk10 : Nat) : Int) : Int)) rfl (by kernel_rfl) (by kernel_rfl) (by kernel_rfl) (by kernel_rfl) ?_
              refine pl_take (.int .i64 ((((Mem.natN (snN (Mem.rowsR (Mem.mvL l k1 nk10 pk11 k1)) r) z) + nk10 : Nat) : Int) : Int)) rfl (by kernel_rfl) (by kernel_rfl) (by kernel_rfl) (ev_wrap (by kernel_rfl) (by omega) (by omega)) ?_
              refine pl_take (.slice a1 k1 c1) rfl (by kernel_rfl) (by kernel_rfl) (by kernel_rfl) (by kernel_rfl) ?_
              refine pl_take (.int .i64 (((k1 : Nat) : Int) : Int)) rfl (by kernel_rfl) (by kernel_rfl) (by kernel_rfl) (by kernel_rfl) ?_
              refine pl_take (.int .i64 (((((Mem.natN (snN (Mem.rowsR (Mem.mvL l k1 nk10 pk11 k1)) r) z) + nk10) % k1 : Nat) : Int) : Int)) rfl (by kernel_rfl) (by kernel_rfl) (by kernel_rfl) (ex_bin (a := (((Mem.natN (snN (Mem.rowsR (Mem.mvL l k1 nk10 pk11 k1)) r) z) + nk10 : Nat) : Int)) (b := ((k1 : Nat) : Int)) rfl (by kernel_rfl) (by kernel_rfl) (bin_rem (by omega))) ?_
              refine pl_take (.int .i64 (((2 ^ (((Mem.natN (snN (Mem.rowsR (Mem.mvL l k1 nk10 pk11 k1)) r) z) + nk10) % k1) : Nat) : Int) : Int)) rfl (by kernel_rfl) (by kernel_rfl) (by kernel_rfl) (ex_bin rfl (by kernel_rfl) (by kernel_rfl) (bin_shl1 (by omega))) ?_
              refine pl_take (.int .i64 (((yb ||| (2 ^ ((Mem.natN (snN (Mem.rowsR (Mem.mvL l k1 nk10 pk11 k1)) r) z + nk10) % k1)) : Nat) : Int) : Int)) rfl (by kernel_rfl) (by kernel_rfl) (by kernel_rfl) (ev_int (show _ = Result.ok (Next.value (Value.int .i64 (bits .or .i64 ((yb : Nat) : Int) ((2 ^ ((Mem.natN (snN (Mem.rowsR (Mem.mvL l k1 nk10 pk11 k1)) r) z + nk10) % k1) : Nat) : Int)))) _ from by kernel_rfl) (or_i64 _ _ (by omega) (by have : 2 ^ ((Mem.natN (snN (Mem.rowsR (Mem.mvL l k1 nk10 pk11 k1)) r) z + nk10) % k1) < 2 ^ 48 := Nat.pow_lt_pow_right (by decide) (by omega); omega))) ?_
              refine pl_take (.int .i64 (((yb ||| (2 ^ ((Mem.natN (snN (Mem.rowsR (Mem.mvL l k1 nk10 pk11 k1)) r) z + nk10) % k1)) : Nat) : Int) : Int)) rfl (by kernel_rfl) (by kernel_rfl) (by kernel_rfl) (by kernel_rfl) ?_
              refine pl_nil ?_
              refine qw_block ?_
              refine qw_then ?_
              refine cw_clean [11, 12, 13, 34, 36, 38, 39, 40, 42] (ws' := [(11, .bool true), (12, .slice a1 k1 c1), (13, .int .i64 (((nk10 : Nat) : Int) : Int)), (34, .slice (some ⟨gR1, 0, none⟩) rk69 rc70), (36, .slice (some ⟨gR2, 0, none⟩) rk76 rc77), (38, .int .i64 (((r : Nat) : Int) : Int)), (39, .int .i64 (((zb : Nat) : Int) : Int)), (40, .int .i64 (((yb ||| (2 ^ ((Mem.natN (snN (Mem.rowsR (Mem.mvL l k1 nk10 pk11 k1)) r) z + nk10) % k1)) : Nat) : Int) : Int)), (42, .int .i64 (((z : Nat) : Int) : Int))]) (by kernel_rfl) (fun L => ?_)
              refine cw_plain ?_
              refine pl_take (.int .i64 (((z : Nat) : Int) : Int)) rfl (by kernel_rfl) (by kernel_rfl) (by kernel_rfl) (by kernel_rfl) ?_
              refine pl_take (.int .i64 (((z + 1 : Nat) : Int) : Int)) rfl (by kernel_rfl) (by kernel_rfl) (by kernel_rfl) (ev_wrap (by kernel_rfl) (by omega) (by omega)) ?_
              refine pl_take (.int .i64 (((z + 1 : Nat) : Int) : Int)) rfl (by kernel_rfl) (by kernel_rfl) (by kernel_rfl) (by kernel_rfl) ?_
              refine pl_nil ?_
              refine qw_round [11, 12, 13, 34, 36, 38, 39, 40, 42] (ws' := [(11, .bool true), (12, .slice a1 k1 c1), (13, .int .i64 (((nk10 : Nat) : Int) : Int)), (34, .slice (some ⟨gR1, 0, none⟩) rk69 rc70), (36, .slice (some ⟨gR2, 0, none⟩) rk76 rc77), (38, .int .i64 (((r : Nat) : Int) : Int)), (39, .int .i64 (((zb : Nat) : Int) : Int)), (40, .int .i64 (((yb ||| (2 ^ ((Mem.natN (snN (Mem.rowsR (Mem.mvL l k1 nk10 pk11 k1)) r) z + nk10) % k1)) : Nat) : Int) : Int)), (42, .int .i64 (((z + 1 : Nat) : Int) : Int))]) (by kernel_rfl) _ ?_ ⟨(z + 1), yb ||| (2 ^ ((Mem.natN (snN (Mem.rowsR (Mem.mvL l k1 nk10 pk11 k1)) r) z + nk10) % k1)), rfl, rfl, hs131, hE, hX9, hX47, hX74, hX81, by omega, (by rw [Mem.natN_take hlt, List.map_append, List.map_cons, List.map_nil, Mem.bitsOf_snoc, ← hyb])⟩
              omega
            ·
              have hy9 : yb = zb := by rw [hyb, show z = (snN (Mem.rowsR (Mem.mvL l k1 nk10 pk11 k1)) r).length by omega, List.take_length, hz9]; exact hbt.symm
              refine cw_seq ?_
              refine cw_seq ?_
              refine cw_plain ?_
              refine pl_take (.int .i64 (((z : Nat) : Int) : Int)) rfl (by kernel_rfl) (by kernel_rfl) (by kernel_rfl) (by kernel_rfl) ?_
              refine pl_take (.slice (some ⟨gR2, 0, none⟩) rk76 rc77) rfl (by kernel_rfl) (by kernel_rfl) (by kernel_rfl) (by kernel_rfl) ?_
              refine pl_take (.int .i64 (((r : Nat) : Int) : Int)) rfl (by kernel_rfl) (by kernel_rfl) (by kernel_rfl) (by kernel_rfl) ?_
              refine pl_take (.pointer (some ⟨gR2, r, none⟩)) rfl (by kernel_rfl) (by kernel_rfl) (by kernel_rfl) (ex_index (p := .slice (some ⟨gR2, 0, none⟩) rk76 rc77) (i := .int .i64 ((r : Nat) : Int)) rfl (by kernel_rfl) (by kernel_rfl) (ix39z (k := r) (by omega))) ?_
              refine pl_take (.slice (some ⟨(fbR2 r), 0, none⟩) ((snN (Mem.rowsR (Mem.mvL l k1 nk10 pk11 k1)) r).length) ((fcR2 r))) rfl (by kernel_rfl) (by kernel_rfl) (by kernel_rfl) (ex_load rfl (by kernel_rfl) (ld56 ((hX81.cell qR124)))) ?_
              refine pl_take (.int .i64 ((((snN (Mem.rowsR (Mem.mvL l k1 nk10 pk11 k1)) r).length : Nat) : Int) : Int)) rfl (by kernel_rfl) (by kernel_rfl) (by kernel_rfl) (by kernel_rfl) ?_
              refine pl_take (.bool false) rfl (by kernel_rfl) (by kernel_rfl) (by kernel_rfl) (ev_ndec (show _ = Result.ok (Next.value (Value.bool (decide ((((z : Nat) : Int) : Int) < ((((snN (Mem.rowsR (Mem.mvL l k1 nk10 pk11 k1)) r).length : Nat) : Int) : Int))))) _ from by kernel_rfl) (by omega)) ?_
              refine pl_nil ?_
              refine qw_then ?_
              refine cw_clean [11, 12, 13, 34, 36, 38, 39, 40, 42, 266] (ws' := [(11, .bool true), (12, .slice a1 k1 c1), (13, .int .i64 (((nk10 : Nat) : Int) : Int)), (34, .slice (some ⟨gR1, 0, none⟩) rk69 rc70), (36, .slice (some ⟨gR2, 0, none⟩) rk76 rc77), (38, .int .i64 (((r : Nat) : Int) : Int)), (39, .int .i64 (((zb : Nat) : Int) : Int)), (40, .int .i64 (((yb : Nat) : Int) : Int)), (42, .int .i64 (((z : Nat) : Int) : Int)), (266, .bool false)]) (by kernel_rfl) (fun L => ?_)
              refine cw_f (by kernel_rfl) ?_
              refine cw_exit ?_
              refine qw_then_exit ?_
              refine qw_then_exit ?_
              refine qw_block_out ?_
              refine qw_then ?_
              refine cw_seq ?_
              refine cw_plain ?_
              refine pl_take (.int .i64 (((zb : Nat) : Int) : Int)) rfl (by kernel_rfl) (by kernel_rfl) (by kernel_rfl) (by kernel_rfl) ?_
              refine pl_take (.int .i64 (((yb : Nat) : Int) : Int)) rfl (by kernel_rfl) (by kernel_rfl) (by kernel_rfl) (by kernel_rfl) ?_
              refine pl_take (.bool false) rfl (by kernel_rfl) (by kernel_rfl) (by kernel_rfl) (ev_nne (show _ = Result.ok (Next.value (Value.bool ((((zb : Nat) : Int) : Int) != (((yb : Nat) : Int) : Int)))) _ from by kernel_rfl) (by omega)) ?_
              refine pl_nil ?_
              refine qw_then ?_
              refine cw_f (by kernel_rfl) ?_
              refine cw_skip ?_
              refine qw_block ?_
              refine qw_then ?_
              refine cw_plain ?_
              refine pl_take (.int .i64 (((r : Nat) : Int) : Int)) rfl (by kernel_rfl) (by kernel_rfl) (by kernel_rfl) (by kernel_rfl) ?_
              refine pl_take (.int .i64 (((r + 1 : Nat) : Int) : Int)) rfl (by kernel_rfl) (by kernel_rfl) (by kernel_rfl) (ev_wrap (by kernel_rfl) (by omega) (by omega)) ?_
              refine pl_take (.int .i64 (((r + 1 : Nat) : Int) : Int)) rfl (by kernel_rfl) (by kernel_rfl) (by kernel_rfl) (by kernel_rfl) ?_
              refine pl_nil ?_
              refine qw_round [11, 12, 13, 34, 36, 38] (ws' := [(11, .bool true), (12, .slice a1 k1 c1), (13, .int .i64 (((nk10 : Nat) : Int) : Int)), (34, .slice (some ⟨gR1, 0, none⟩) rk69 rc70), (36, .slice (some ⟨gR2, 0, none⟩) rk76 rc77), (38, .int .i64 (((r + 1 : Nat) : Int) : Int))]) (by kernel_rfl) _ ?_ ⟨(r + 1), rfl, rfl, (Nat.le_trans hs119 (Nat.le_trans hs126 hs131)), hE, hX9, hX47, hX74, hX81, by omega⟩
              omega
        ·
          refine cw_seq ?_
          refine cw_seq ?_
          refine cw_plain ?_
          refine pl_take (.int .i64 (((r : Nat) : Int) : Int)) rfl (by kernel_rfl) (by kernel_rfl) (by kernel_rfl) (by kernel_rfl) ?_
          refine pl_take (.slice ra68 rk69 rc70) rfl (by kernel_rfl) (by kernel_rfl) (by kernel_rfl) (by kernel_rfl) ?_
          refine pl_take (.int .i64 (((rk69 : Nat) : Int) : Int)) rfl (by kernel_rfl) (by kernel_rfl) (by kernel_rfl) (by kernel_rfl) ?_
          refine pl_take (.bool false) rfl (by kernel_rfl) (by kernel_rfl) (by kernel_rfl) (ev_ndec (show _ = Result.ok (Next.value (Value.bool (decide ((((r : Nat) : Int) : Int) < (((rk69 : Nat) : Int) : Int))))) _ from by kernel_rfl) (by omega)) ?_
          refine pl_nil ?_
          refine qw_then ?_
          refine cw_f (by kernel_rfl) ?_
          refine cw_exit ?_
          refine qw_then_exit ?_
          refine qw_then_exit ?_
          refine qw_block_out ?_
          refine qw_then ?_
          refine cw_seq ?_
          refine cw_plain ?_
          refine pl_take (.bool true) rfl (by kernel_rfl) (by kernel_rfl) (by kernel_rfl) (by kernel_rfl) ?_
          refine pl_take (.bool true) rfl (by kernel_rfl) (by kernel_rfl) (by kernel_rfl) (by kernel_rfl) ?_
          refine pl_nil ?_
          refine qw_then ?_
          refine cw_ret ?_
          refine qw_ret [.bool true] rfl ⟨(by kernel_rfl), trivial⟩ ?_
          exact ⟨rfl, hE⟩
      ·
        refine pl_take (.bool false) rfl (by kernel_rfl) (by kernel_rfl) (by kernel_rfl) (ev_ndec (show _ = Result.ok (Next.value (Value.bool (decide ((ov62 : Int) < (0 : Int))))) _ from by kernel_rfl) (hc118)) ?_
        refine pl_take (.int .i64 (ov65 : Int)) rfl (by kernel_rfl) (by kernel_rfl) (by kernel_rfl) (by kernel_rfl) ?_
        refine pl_take (.bool false) rfl (by kernel_rfl) (by kernel_rfl) (by kernel_rfl) (ev_ndec (show _ = Result.ok (Next.value (Value.bool (decide ((ov65 : Int) < (0 : Int))))) _ from by kernel_rfl) (by omega)) ?_
        refine pl_take (.bool false) rfl (by kernel_rfl) (by kernel_rfl) (by kernel_rfl) (by kernel_rfl) ?_
        refine pl_take (.bool false) rfl (by kernel_rfl) (by kernel_rfl) (by kernel_rfl) (by kernel_rfl) ?_
        refine pl_take (.bool false) rfl (by kernel_rfl) (by kernel_rfl) (by kernel_rfl) (by kernel_rfl) ?_
        refine pl_take (.int .i64 (ov62 : Int)) rfl (by kernel_rfl) (by kernel_rfl) (by kernel_rfl) (by kernel_rfl) ?_
        refine pl_take (.bool true) rfl (by kernel_rfl) (by kernel_rfl) (by kernel_rfl) (ev_dec (show _ = Result.ok (Next.value (Value.bool (decide ((ov62 : Int) ≥ (0 : Int))))) _ from by kernel_rfl) (by omega)) ?_
        refine pl_take (.bool true) rfl (by kernel_rfl) (by kernel_rfl) (by kernel_rfl) (by kernel_rfl) ?_
        refine pl_take (.int .i64 (ov62 : Int)) rfl (by kernel_rfl) (by kernel_rfl) (by kernel_rfl) (by kernel_rfl) ?_
        refine pl_take (.int .i64 (pk11 : Int)) rfl (by kernel_rfl) (by kernel_rfl) (by kernel_rfl) (by kernel_rfl) ?_
        refine pl_take (.int .i64 (ov62 + pk11 : Int)) rfl (by kernel_rfl) (by kernel_rfl) (by kernel_rfl) (ev_wrap (by kernel_rfl) (by omega) (by omega)) ?_
        refine pl_take (.int .i64 (ov65 : Int)) rfl (by kernel_rfl) (by kernel_rfl) (by kernel_rfl) (by kernel_rfl) ?_
        refine pl_take (.bool false) rfl (by kernel_rfl) (by kernel_rfl) (by kernel_rfl) (ev_nne (show _ = Result.ok (Next.value (Value.bool ((ov62 + pk11 : Int) != (ov65 : Int)))) _ from by kernel_rfl) (by omega)) ?_
        refine pl_take (.bool false) rfl (by kernel_rfl) (by kernel_rfl) (by kernel_rfl) (by kernel_rfl) ?_
        refine pl_take (.bool false) rfl (by kernel_rfl) (by kernel_rfl) (by kernel_rfl) (by kernel_rfl) ?_
        refine pl_nil ?_
        refine qw_then ?_
        refine cw_clean [11, 12, 13, 34, 36, 214] (ws' := [(11, .bool true), (12, .slice a1 k1 c1), (13, .int .i64 (((nk10 : Nat) : Int) : Int)), (34, .slice ra68 rk69 rc70), (36, .slice ra75 rk76 rc77), (214, .bool false)]) (by kernel_rfl) (fun L => ?_)
        refine cw_f (by kernel_rfl) ?_
        refine cw_skip ?_
        refine qw_then ?_
        refine cw_seq ?_
        refine cw_seq ?_
        refine cw_plain ?_
        refine pl_take (.int .i64 0) rfl (by kernel_rfl) (by kernel_rfl) (by kernel_rfl) (by kernel_rfl) ?_
        refine pl_nil ?_
        refine qw_then ?_
        refine cw_block ?_
        refine cw_loop [11, 12, 13, 34, 36, 38] (fun ws' wr m => ∃ r : Nat, ws' = [(11, .bool true), (12, .slice a1 k1 c1), (13, .int .i64 (((nk10 : Nat) : Int) : Int)), (34, .slice ra68 rk69 rc70), (36, .slice ra75 rk76 rc77), (38, .int .i64 (((r : Nat) : Int) : Int))] ∧ m = rk69 - r ∧ w79.heap.size ≤ wr.heap.size ∧ Ext w wr ∧ Ext w7 wr ∧ Ext w15 wr ∧ Ext w72 wr ∧ Ext w79 wr ∧ r ≤ rk69) (ws0 := [(11, .bool true), (12, .slice a1 k1 c1), (13, .int .i64 (((nk10 : Nat) : Int) : Int)), (34, .slice ra68 rk69 rc70), (36, .slice ra75 rk76 rc77), (38, .int .i64 0)]) (by kernel_rfl) _ ⟨0, rfl, rfl, Nat.le_refl _, hE, hX9, hX47, hX74, hX81, Nat.zero_le _⟩ ?_
        clear hE hX9 hX47 hX74 hX81
        rintro m138 L ws w137 ⟨r, rfl, rfl, hs136, hE, hX9, hX47, hX74, hX81, hr⟩
        by_cases hlt : r < rk69
        ·
          obtain rfl := haR1 (by omega)
          have qR139 := hcR1 r (by omega)
          have hrl140 : (snN (Mem.rowsR l) r).length ≤ (l).length := Mem.row_len r
          obtain rfl := haR2 (by omega)
          have qR141 := hcR2 r (by omega)
          have hrl142 : (snN (Mem.rowsR (Mem.mvL l k1 nk10 pk11 k1)) r).length ≤ (Mem.mvL l k1 nk10 pk11 k1).length := Mem.row_len r
          obtain ⟨t9, he1, he2⟩ := hMv.row (r := r) (by omega)
          have hbt := hMv.bits (by omega) t9
          rw [← he1, ← he2, hll] at hbt
          have hk0 : 0 < k1 := by
            obtain ⟨s9, hs9, _⟩ := Mem.row_is (l := l) (i := r) (by omega)
            obtain ⟨x, hx, _⟩ := Mem.mem_begs.1 hs9
            rw [← hll]; exact List.length_pos_of_mem hx
          refine cw_seq ?_
          refine cw_seq ?_
          refine cw_plain ?_
          refine pl_take (.int .i64 (((r : Nat) : Int) : Int)) rfl (by kernel_rfl) (by kernel_rfl) (by kernel_rfl) (by kernel_rfl) ?_
          refine pl_take (.slice (some ⟨gR1, 0, none⟩) rk69 rc70) rfl (by kernel_rfl) (by kernel_rfl) (by kernel_rfl) (by kernel_rfl) ?_
          refine pl_take (.int .i64 (((rk69 : Nat) : Int) : Int)) rfl (by kernel_rfl) (by kernel_rfl) (by kernel_rfl) (by kernel_rfl) ?_
          refine pl_take (.bool true) rfl (by kernel_rfl) (by kernel_rfl) (by kernel_rfl) (ev_dec (show _ = Result.ok (Next.value (Value.bool (decide ((((r : Nat) : Int) : Int) < (((rk69 : Nat) : Int) : Int))))) _ from by kernel_rfl) (by omega)) ?_
          refine pl_nil ?_
          refine qw_then ?_
          refine cw_t (by kernel_rfl) ?_
          refine cw_skip ?_
          refine qw_then ?_
          refine cw_seq ?_
          refine cw_block ?_
          refine cw_seq ?_
          refine cw_plain ?_
          refine pl_take (.int .i64 0) rfl (by kernel_rfl) (by kernel_rfl) (by kernel_rfl) (by kernel_rfl) ?_
          refine pl_nil ?_
          refine qw_then ?_
          refine cw_seq ?_
          refine cw_plain ?_
          refine pl_take (.int .i64 0) rfl (by kernel_rfl) (by kernel_rfl) (by kernel_rfl) (by kernel_rfl) ?_
          refine pl_nil ?_
          refine qw_then ?_
          refine cw_seq ?_
          refine cw_seq ?_
          refine cw_plain ?_
          refine pl_take (.int .i64 0) rfl (by kernel_rfl) (by kernel_rfl) (by kernel_rfl) (by kernel_rfl) ?_
          refine pl_nil ?_
          refine qw_then ?_
          refine cw_block ?_
          refine cw_loop [11, 12, 13, 34, 36, 38, 39, 40, 41] (fun ws' wr m => ∃ j : Nat, ∃ zb : Nat, ws' = [(11, .bool true), (12, .slice a1 k1 c1), (13, .int .i64 (((nk10 : Nat) : Int) : Int)), (34, .slice (some ⟨gR1, 0, none⟩) rk69 rc70), (36, .slice (some ⟨gR2, 0, none⟩) rk76 rc77), (38, .int .i64 (((r : Nat) : Int) : Int)), (39, .int .i64 (((zb : Nat) : Int) : Int)), (40, .int .i64 0), (41, .int .i64 (((j : Nat) : Int) : Int))] ∧ m = (snN (Mem.rowsR l) r).length - j ∧ w137.heap.size ≤ wr.heap.size ∧ Ext w wr ∧ Ext w7 wr ∧ Ext w15 wr ∧ Ext w72 wr ∧ Ext w79 wr ∧ j ≤ (snN (Mem.rowsR l) r).length ∧ zb = Mem.bitsOf ((snN (Mem.rowsR l) r).take j)) (ws0 := [(11, .bool true), (12, .slice a1 k1 c1), (13, .int .i64 (((nk10 : Nat) : Int) : Int)), (34, .slice (some ⟨gR1, 0, none⟩) rk69 rc70), (36, .slice (some ⟨gR2, 0, none⟩) rk76 rc77), (38, .int .i64 (((r : Nat) : Int) : Int)), (39, .int .i64 0), (40, .int .i64 0), (41, .int .i64 0)]) (by kernel_rfl) _ ⟨0, 0, rfl, rfl, Nat.le_refl _, hE, hX9, hX47, hX74, hX81, Nat.zero_le _, rfl⟩ ?_
          clear hE hX9 hX47 hX74 hX81
          rintro m145 L ws w144 ⟨j, zb, rfl, rfl, hs143, hE, hX9, hX47, hX74, hX81, hj, hzb⟩
          by_cases hlt : j < (snN (Mem.rowsR l) r).length
          ·
            have qe146 := (hnR1 r (by omega)).2 j _ (Mem.natN_at hlt)
            have hnl147 := Mem.row_lt (l := l) (i := r) (by omega) hlt
            have hbl := Mem.row_bits (l := l) (by omega) (r := r) (by omega) j
            rw [← hzb] at hbl
            refine cw_seq ?_
            refine cw_seq ?_
            refine cw_plain ?_
            refine pl_take (.int .i64 (((j : Nat) : Int) : Int)) rfl (by kernel_rfl) (by kernel_rfl) (by kernel_rfl) (by kernel_rfl) ?_
            refine pl_take (.slice (some ⟨gR1, 0, none⟩) rk69 rc70) rfl (by kernel_rfl) (by kernel_rfl) (by kernel_rfl) (by kernel_rfl) ?_
            refine pl_take (.int .i64 (((r : Nat) : Int) : Int)) rfl (by kernel_rfl) (by kernel_rfl) (by kernel_rfl) (by kernel_rfl) ?_
            refine pl_take (.pointer (some ⟨gR1, r, none⟩)) rfl (by kernel_rfl) (by kernel_rfl) (by kernel_rfl) (ex_index (p := .slice (some ⟨gR1, 0, none⟩) rk69 rc70) (i := .int .i64 ((r : Nat) : Int)) rfl (by kernel_rfl) (by kernel_rfl) (ix39z (k := r) (by omega))) ?_
            refine pl_take (.slice (some ⟨(fbR1 r), 0, none⟩) ((snN (Mem.rowsR l) r).length) ((fcR1 r))) rfl (by kernel_rfl) (by kernel_rfl) (by kernel_rfl) (ex_load rfl (by kernel_rfl) (ld56 ((hX74.cell qR139)))) ?_
            refine pl_take (.int .i64 ((((snN (Mem.rowsR l) r).length : Nat) : Int) : Int)) rfl (by kernel_rfl) (by kernel_rfl) (by kernel_rfl) (by kernel_rfl) ?_
            refine pl_take (.bool true) rfl (by kernel_rfl) (by kernel_rfl) (by kernel_rfl) (ev_dec (show _ = Result.ok (Next.value (Value.bool (decide ((((j : Nat) : Int) : Int) < ((((snN (Mem.rowsR l) r).length : Nat) : Int) : Int))))) _ from by kernel_rfl) (by omega)) ?_
            refine pl_nil ?_
            refine qw_then ?_
            refine cw_clean [11, 12, 13, 34, 36, 38, 39, 40, 41, 227] (ws' := [(11, .bool true), (12, .slice a1 k1 c1), (13, .int .i64 (((nk10 : Nat) : Int) : Int)), (34, .slice (some ⟨gR1, 0, none⟩) rk69 rc70), (36, .slice (some ⟨gR2, 0, none⟩) rk76 rc77), (38, .int .i64 (((r : Nat) : Int) : Int)), (39, .int .i64 (((zb : Nat) : Int) : Int)), (40, .int .i64 0), (41, .int .i64 (((j : Nat) : Int) : Int)), (227, .bool true)]) (by kernel_rfl) (fun L => ?_)
            refine cw_t (by kernel_rfl) ?_
            refine cw_skip ?_
            refine qw_then ?_
            refine cw_seq ?_
            refine cw_block ?_
            refine cw_seq ?_
            refine cw_seq ?_
            refine cw_plain ?_
            refine pl_take (.slice (some ⟨gR1, 0, none⟩) rk69 rc70) rfl (by kernel_rfl) (by kernel_rfl) (by kernel_rfl) (by kernel_rfl) ?_
            refine pl_take (.int .i64 (((r : Nat) : Int) : Int)) rfl (by kernel_rfl) (by kernel_rfl) (by kernel_rfl) (by kernel_rfl) ?_
            refine pl_take (.pointer (some ⟨gR1, r, none⟩)) rfl (by kernel_rfl) (by kernel_rfl) (by kernel_rfl) (ex_index (p := .slice (some ⟨gR1, 0, none⟩) rk69 rc70) (i := .int .i64 ((r : Nat) : Int)) rfl (by kernel_rfl) (by kernel_rfl) (ix39z (k := r) (by omega))) ?_
            refine pl_take (.slice (some ⟨(fbR1 r), 0, none⟩) ((snN (Mem.rowsR l) r).length) ((fcR1 r))) rfl (by kernel_rfl) (by kernel_rfl) (by kernel_rfl) (ex_load rfl (by kernel_rfl) (ld56 ((hX74.cell qR139)))) ?_
            refine pl_take (.int .i64 (((j : Nat) : Int) : Int)) rfl (by kernel_rfl) (by kernel_rfl) (by kernel_rfl) (by kernel_rfl) ?_
            refine pl_take (.pointer (some ⟨(fbR1 r), j, none⟩)) rfl (by kernel_rfl) (by kernel_rfl) (by kernel_rfl) (ex_index (p := .slice (some ⟨(fbR1 r), 0, none⟩) ((snN (Mem.rowsR l) r).length) ((fcR1 r))) (i := .int .i64 ((j : Nat) : Int)) rfl (by kernel_rfl) (by kernel_rfl) (ix56z (k := j) (by omega))) ?_
            refine pl_take (.int .i64 (((Mem.natN (snN (Mem.rowsR l) r) j : Nat) : Int) : Int)) rfl (by kernel_rfl) (by kernel_rfl) (by kernel_rfl) (ex_load rfl (by kernel_rfl) (ld3 ((hX74.cell qe146)))) ?_
            refine pl_take (.bool false) rfl (by kernel_rfl) (by kernel_rfl) (by kernel_rfl) (ev_ndec (show _ = Result.ok (Next.value (Value.bool (decide ((((Mem.natN (snN (Mem.rowsR l) r) j : Nat) : Int) : Int) < (0 : Int))))) _ from by kernel_rfl) (by omega)) ?_
            refine pl_take (.bool false) rfl (by kernel_rfl) (by kernel_rfl) (by kernel_rfl) (by kernel_rfl) ?_
            refine pl_take (.slice (some ⟨gR1, 0, none⟩) rk69 rc70) rfl (by kernel_rfl) (by kernel_rfl) (by kernel_rfl) (by kernel_rfl) ?_
            refine pl_take (.int .i64 (((r : Nat) : Int) : Int)) rfl (by kernel_rfl) (by kernel_rfl) (by kernel_rfl) (by kernel_rfl) ?_
            refine pl_take (.pointer (some ⟨gR1, r, none⟩)) rfl (by kernel_rfl) (by kernel_rfl) (by kernel_rfl) (ex_index (p := .slice (some ⟨gR1, 0, none⟩) rk69 rc70) (i := .int .i64 ((r : Nat) : Int)) rfl (by kernel_rfl) (by kernel_rfl) (ix39z (k := r) (by omega))) ?_
            refine pl_take (.slice (some ⟨(fbR1 r), 0, none⟩) ((snN (Mem.rowsR l) r).length) ((fcR1 r))) rfl (by kernel_rfl) (by kernel_rfl) (by kernel_rfl) (ex_load rfl (by kernel_rfl) (ld56 ((hX74.cell qR139)))) ?_
            refine pl_take (.int .i64 (((j : Nat) : Int) : Int)) rfl (by kernel_rfl) (by kernel_rfl) (by kernel_rfl) (by kernel_rfl) ?_
            refine pl_take (.pointer (some ⟨(fbR1 r), j, none⟩)) rfl (by kernel_rfl) (by kernel_rfl) (by kernel_rfl) (ex_index (p := .slice (some ⟨(fbR1 r), 0, none⟩) ((snN (Mem.rowsR l) r).length) ((fcR1 r))) (i := .int .i64 ((j : Nat) : Int)) rfl (by kernel_rfl) (by kernel_rfl) (ix56z (k := j) (by omega))) ?_
            refine pl_take (.int .i64 (((Mem.natN (snN (Mem.rowsR l) r) j : Nat) : Int) : Int)) rfl (by kernel_rfl) (by kernel_rfl) (by kernel_rfl) (ex_load rfl (by kernel_rfl) (ld3 ((hX74.cell qe146)))) ?_
            refine pl_take (.slice a1 k1 c1) rfl (by kernel_rfl) (by kernel_rfl) (by kernel_rfl) (by kernel_rfl) ?_
            refine pl_take (.int .i64 (((k1 : Nat) : Int) : Int)) rfl (by kernel_rfl) (by kernel_rfl) (by kernel_rfl) (by kernel_rfl) ?_
            refine pl_take (.bool false) rfl (by kernel_rfl) (by kernel_rfl) (by kernel_rfl) (ev_ndec (show _ = Result.ok (Next.value (Value.bool (decide ((((Mem.natN (snN (Mem.rowsR l) r) j : Nat) : Int) : Int) ≥ (((k1 : Nat) : Int) : Int))))) _ from by kernel_rfl) (by omega)) ?_
            refine pl_take (.bool false) rfl (by kernel_rfl) (by kernel_rfl) (by kernel_rfl) (by kernel_rfl) ?_
            refine pl_nil ?_
            refine qw_then ?_
            refine cw_clean [11, 12, 13, 34, 36, 38, 39, 40, 41, 249] (ws' := [(11, .bool true), (12, .slice a1 k1 c1), (13, .int .i64 (((nk10 : Nat) : Int) : Int)), (34, .slice (some ⟨gR1, 0, none⟩) rk69 rc70), (36, .slice (some ⟨gR2, 0, none⟩) rk76 rc77), (38, .int .i64 (((r : Nat) : Int) : Int)), (39, .int .i64 (((zb : Nat) : Int) : Int)), (40, .int .i64 0), (41, .int .i64 (((j : Nat) : Int) : Int)), (249, .bool false)]) (by kernel_rfl) (fun L => ?_)
            refine cw_f (by kernel_rfl) ?_
            refine cw_skip ?_
            refine qw_then ?_
            refine cw_plain ?_
            refine pl_take (.int .i64 (((zb : Nat) : Int) : Int)) rfl (by kernel_rfl) (by kernel_rfl) (by kernel_rfl) (by kernel_rfl) ?_
            refine pl_take (.slice (some ⟨gR1, 0, none⟩) rk69 rc70) rfl (by kernel_rfl) (by kernel_rfl) (by kernel_rfl) (by kernel_rfl) ?_
            refine pl_take (.int .i64 (((r : Nat) : Int) : Int)) rfl (by kernel_rfl) (by kernel_rfl) (by kernel_rfl) (by kernel_rfl) ?_
            refine pl_take (.pointer (some ⟨gR1, r, none⟩)) rfl (by kernel_rfl) (by kernel_rfl) (by kernel_rfl) (ex_index (p := .slice (some ⟨gR1, 0, none⟩) rk69 rc70) (i := .int .i64 ((r : Nat) : Int)) rfl (by kernel_rfl) (by kernel_rfl) (ix39z (k := r) (by omega))) ?_
            refine pl_take (.slice (some ⟨(fbR1 r), 0, none⟩) ((snN (Mem.rowsR l) r).length) ((fcR1 r))) rfl (by kernel_rfl) (by kernel_rfl) (by kernel_rfl) (ex_load rfl (by kernel_rfl) (ld56 ((hX74.cell qR139)))) ?_
            refine pl_take (.int .i64 (((j : Nat) : Int) : Int)) rfl (by kernel_rfl) (by kernel_rfl) (by kernel_rfl) (by kernel_rfl) ?_
            refine pl_take (.pointer (some ⟨(fbR1 r), j, none⟩)) rfl (by kernel_rfl) (by kernel_rfl) (by kernel_rfl) (ex_index (p := .slice (some ⟨(fbR1 r), 0, none⟩) ((snN (Mem.rowsR l) r).length) ((fcR1 r))) (i := .int .i64 ((j : Nat) : Int)) rfl (by kernel_rfl) (by kernel_rfl) (ix56z (k := j) (by omega))) ?_
            refine pl_take (.int .i64 (((Mem.natN (snN (Mem.rowsR l) r) j : Nat) : Int) : Int)) rfl (by kernel_rfl) (by kernel_rfl) (by kernel_rfl) (ex_load rfl (by kernel_rfl) (ld3 ((hX74.cell qe146)))) ?_
            refine pl_take (.int .i64 (((2 ^ (Mem.natN (snN (Mem.rowsR l) r) j) : Nat) : Int) : Int)) rfl (by kernel_rfl) (by kernel_rfl) (by kernel_rfl) (ex_bin rfl (by kernel_rfl) (by kernel_rfl) (bin_shl1 (by omega))) ?_
            refine pl_take (.int .i64 (((zb ||| (2 ^ (Mem.natN (snN (Mem.rowsR l) r) j)) : Nat) : Int) : Int)) rfl (by kernel_rfl) (by kernel_rfl) (by kernel_rfl) (ev_int (show _ = Result.ok (Next.value (Value.int .i64 (bits .or .i64 ((zb : Nat) : Int) ((2 ^ (Mem.natN (snN (Mem.rowsR l) r) j) : Nat) : Int)))) _ from by kernel_rfl) (or_i64 _ _ (by omega) (by have : 2 ^ (Mem.natN (snN (Mem.rowsR l) r) j) < 2 ^ 48 := Nat.pow_lt_pow_right (by decide) (by omega); omega))) ?_
            refine pl_take (.int .i64 (((zb ||| (2 ^ (Mem.natN (snN (Mem.rowsR l) r) j)) : Nat) : Int) : Int)) rfl (by kernel_rfl) (by kernel_rfl) (by kernel_rfl) (by kernel_rfl) ?_
            refine pl_nil ?_
            refine qw_block ?_
            refine qw_then ?_
            refine cw_clean [11, 12, 13, 34, 36, 38, 39, 40, 41] (ws' := [(11, .bool true), (12, .slice a1 k1 c1), (13, .int .i64 (((nk10 : Nat) : Int) : Int)), (34, .slice (some ⟨gR1, 0, none⟩) rk69 rc70), (36, .slice (some ⟨gR2, 0, none⟩) rk76 rc77), (38, .int .i64 (((r : Nat) : Int) : Int)), (39, .int .i64 (((zb ||| (2 ^ (Mem.natN (snN (Mem.rowsR l) r) j)) : Nat) : Int) : Int)), (40, .int .i64 0), (41, .int .i64 (((j : Nat) : Int) : Int))]) (by kernel_rfl) (fun L => ?_)
            refine cw_plain ?_
            refine pl_take (.int .i64 (((j : Nat) : Int) : Int)) rfl (by kernel_rfl) (by kernel_rfl) (by kernel_rfl) (by kernel_rfl) ?_
            refine pl_take (.int .i64 (((j + 1 : Nat) : Int) : Int)) rfl (by kernel_rfl) (by kernel_rfl) (by kernel_rfl) (ev_wrap (by kernel_rfl) (by omega) (by omega)) ?_
            refine pl_take (.int .i64 (((j + 1 : Nat) : Int) : Int)) rfl (by kernel_rfl) (by kernel_rfl) (by kernel_rfl) (by kernel_rfl) ?_
            refine pl_nil ?_
            refine qw_round [11, 12, 13, 34, 36, 38, 39, 40, 41] (ws' := [(11, .bool true), (12, .slice a1 k1 c1), (13, .int .i64 (((nk10 : Nat) : Int) : Int)), (34, .slice (some ⟨gR1, 0, none⟩) rk69 rc70), (36, .slice (some ⟨gR2, 0, none⟩) rk76 rc77), (38, .int .i64 (((r : Nat) : Int) : Int)), (39, .int .i64 (((zb ||| (2 ^ (Mem.natN (snN (Mem.rowsR l) r) j)) : Nat) : Int) : Int)), (40, .int .i64 0), (41, .int .i64 (((j + 1 : Nat) : Int) : Int))]) (by kernel_rfl) _ ?_ ⟨(j + 1), zb ||| (2 ^ (Mem.natN (snN (Mem.rowsR l) r) j)), rfl, rfl, hs143, hE, hX9, hX47, hX74, hX81, by omega, (by rw [Mem.natN_take hlt, Mem.bitsOf_snoc, ← hzb])⟩
            omega
          ·
            have hz9 : zb = Mem.bitsOf (snN (Mem.rowsR l) r) := by rw [hzb, show j = (snN (Mem.rowsR l) r).length by omega, List.take_length]
            refine cw_seq ?_
            refine cw_seq ?_
            refine cw_plain ?_
            refine pl_take (.int .i64 (((j : Nat) : Int) : Int)) rfl (by kernel_rfl) (by kernel_rfl) (by kernel_rfl) (by kernel_rfl) ?_
            refine pl_take (.slice (some ⟨gR1, 0, none⟩) rk69 rc70) rfl (by kernel_rfl) (by kernel_rfl) (by kernel_rfl) (by kernel_rfl) ?_
            refine pl_take (.int .i64 (((r : Nat) : Int) : Int)) rfl (by kernel_rfl) (by kernel_rfl) (by kernel_rfl) (by kernel_rfl) ?_
            refine pl_take (.pointer (some ⟨gR1, r, none⟩)) rfl (by kernel_rfl) (by kernel_rfl) (by kernel_rfl) (ex_index (p := .slice (some ⟨gR1, 0, none⟩) rk69 rc70) (i := .int .i64 ((r : Nat) : Int)) rfl (by kernel_rfl) (by kernel_rfl) (ix39z (k := r) (by omega))) ?_
            refine pl_take (.slice (some ⟨(fbR1 r), 0, none⟩) ((snN (Mem.rowsR l) r).length) ((fcR1 r))) rfl (by kernel_rfl) (by kernel_rfl) (by kernel_rfl) (ex_load rfl (by kernel_rfl) (ld56 ((hX74.cell qR139)))) ?_
            refine pl_take (.int .i64 ((((snN (Mem.rowsR l) r).length : Nat) : Int) : Int)) rfl (by kernel_rfl) (by kernel_rfl) (by kernel_rfl) (by kernel_rfl) ?_
            refine pl_take (.bool false) rfl (by kernel_rfl) (by kernel_rfl) (by kernel_rfl) (ev_ndec (show _ = Result.ok (Next.value (Value.bool (decide ((((j : Nat) : Int) : Int) < ((((snN (Mem.rowsR l) r).length : Nat) : Int) : Int))))) _ from by kernel_rfl) (by omega)) ?_
            refine pl_nil ?_
            refine qw_then ?_
            refine cw_clean [11, 12, 13, 34, 36, 38, 39, 40, 41, 227] (ws' := [(11, .bool true), (12, .slice a1 k1 c1), (13, .int .i64 (((nk10 : Nat) : Int) : Int)), (34, .slice (some ⟨gR1, 0, none⟩) rk69 rc70), (36, .slice (some ⟨gR2, 0, none⟩) rk76 rc77), (38, .int .i64 (((r : Nat) : Int) : Int)), (39, .int .i64 (((zb : Nat) : Int) : Int)), (40, .int .i64 0), (41, .int .i64 (((j : Nat) : Int) : Int)), (227, .bool false)]) (by kernel_rfl) (fun L => ?_)
            refine cw_f (by kernel_rfl) ?_
            refine cw_exit ?_
            refine qw_then_exit ?_
            refine qw_then_exit ?_
            refine qw_block_out ?_
            refine qw_then ?_
            refine cw_seq ?_
            refine cw_seq ?_
            refine cw_plain ?_
            refine pl_take (.int .i64 0) rfl (by kernel_rfl) (by kernel_rfl) (by kernel_rfl) (by kernel_rfl) ?_
            refine pl_nil ?_
            refine qw_then ?_
            refine cw_block ?_
            refine cw_loop [11, 12, 13, 34, 36, 38, 39, 40, 42] (fun ws' wr m => ∃ z : Nat, ∃ yb : Nat, ws' = [(11, .bool true), (12, .slice a1 k1 c1), (13, .int .i64 (((nk10 : Nat) : Int) : Int)), (34, .slice (some ⟨gR1, 0, none⟩) rk69 rc70), (36, .slice (some ⟨gR2, 0, none⟩) rk76 rc77), (38, .int .i64 (((r : Nat) : Int) : Int)), (39, .int .i64 (((zb : Nat) : Int) : Int)), (40, .int .i64 (((yb : Nat) : Int) : Int)), (42, .int .i64 (((z : Nat) : Int) : Int))] ∧ m = (snN (Mem.rowsR (Mem.mvL l k1 nk10 pk11 k1)) r).length - z ∧ w144.heap.size ≤ wr.heap.size ∧ Ext w wr ∧ Ext w7 wr ∧ Ext w15 wr ∧ Ext w72 wr ∧ Ext w79 wr ∧ z ≤ (snN (Mem.rowsR (Mem.mvL l k1 nk10 pk11 k1)) r).length ∧ yb = Mem.bitsOf (((snN (Mem.rowsR (Mem.mvL l k1 nk10 pk11 k1)) r).take z).map (fun j => (j + nk10) % k1))) (ws0 := [(11, .bool true), (12, .slice a1 k1 c1), (13, .int .i64 (((nk10 : Nat) : Int) : Int)), (34, .slice (some ⟨gR1, 0, none⟩) rk69 rc70), (36, .slice (some ⟨gR2, 0, none⟩) rk76 rc77), (38, .int .i64 (((r : Nat) : Int) : Int)), (39, .int .i64 (((zb : Nat) : Int) : Int)), (40, .int .i64 0), (42, .int .i64 0)]) (by kernel_rfl) _ ⟨0, 0, rfl, rfl, Nat.le_refl _, hE, hX9, hX47, hX74, hX81, Nat.zero_le _, rfl⟩ ?_
            clear hE hX9 hX47 hX74 hX81
            rintro m150 L ws w149 ⟨z, yb, rfl, rfl, hs148, hE, hX9, hX47, hX74, hX81, hz, hyb⟩
            by_cases hlt : z < (snN (Mem.rowsR (Mem.mvL l k1 nk10 pk11 k1)) r).length
            ·
              have qe151 := (hnR2 r (by omega)).2 z _ (Mem.natN_at hlt)
              have hnl152 := Mem.row_lt (l := Mem.mvL l k1 nk10 pk11 k1) (i := r) (by omega) hlt
              have hmd : (Mem.natN (snN (Mem.rowsR (Mem.mvL l k1 nk10 pk11 k1)) r) z + nk10) % k1 < k1 := Nat.mod_lt _ (by omega)
              have hbl := Mem.map_bits (s := (snN (Mem.rowsR (Mem.mvL l k1 nk10 pk11 k1)) r).take z) (k := nk10) (L := k1) (by omega) (by omega)
              rw [← hyb] at hbl
              refine cw_seq ?_
              refine cw_seq ?_
              refine cw_plain ?_
              refine pl_take (.int .i64 (((z : Nat) : Int) : Int)) rfl (by kernel_rfl) (by kernel_rfl) (by kernel_rfl) (by kernel_rfl) ?_
              refine pl_take (.slice (some ⟨gR2, 0, none⟩) rk76 rc77) rfl (by kernel_rfl) (by kernel_rfl) (by kernel_rfl) (by kernel_rfl) ?_
              refine pl_take (.int .i64 (((r : Nat) : Int) : Int)) rfl (by kernel_rfl) (by kernel_rfl) (by kernel_rfl) (by kernel_rfl) ?_
              refine pl_take (.pointer (some ⟨gR2, r, none⟩)) rfl (by kernel_rfl) (by kernel_rfl) (by kernel_rfl) (ex_index (p := .slice (some ⟨gR2, 0, none⟩) rk76 rc77) (i := .int .i64 ((r : Nat) : Int)) rfl (by kernel_rfl) (by kernel_rfl) (ix39z (k := r) (by omega))) ?_
              refine pl_take (.slice (some ⟨(fbR2 r), 0, none⟩) ((snN (Mem.rowsR (Mem.mvL l k1 nk10 pk11 k1)) r).length) ((fcR2 r))) rfl (by kernel_rfl) (by kernel_rfl) (by kernel_rfl) (ex_load rfl (by kernel_rfl) (ld56 ((hX81.cell qR141)))) ?_
              refine pl_take (.int .i64 ((((snN (Mem.rowsR (Mem.mvL l k1 nk10 pk11 k1)) r).length : Nat) : Int) : Int)) rfl (by kernel_rfl) (by kernel_rfl) (by kernel_rfl) (by kernel_rfl) ?_
              refine pl_take (.bool true) rfl (by kernel_rfl) (by kernel_rfl) (by kernel_rfl) (ev_dec (show _ = Result.ok (Next.value (Value.bool (decide ((((z : Nat) : Int) : Int) < ((((snN (Mem.rowsR (Mem.mvL l k1 nk10 pk11 k1)) r).length : Nat) : Int) : Int))))) _ from by kernel_rfl) (by omega)) ?_
              refine pl_nil ?_
              refine qw_then ?_
              refine cw_clean [11, 12, 13, 34, 36, 38, 39, 40, 42, 266] (ws' := [(11, .bool true), (12, .slice a1 k1 c1), (13, .int .i64 (((nk10 : Nat) : Int) : Int)), (34, .slice (some ⟨gR1, 0, none⟩) rk69 rc70), (36, .slice (some ⟨gR2, 0, none⟩) rk76 rc77), (38, .int .i64 (((r : Nat) : Int) : Int)), (39, .int .i64 (((zb : Nat) : Int) : Int)), (40, .int .i64 (((yb : Nat) : Int) : Int)), (42, .int .i64 (((z : Nat) : Int) : Int)), (266, .bool true)]) (by kernel_rfl) (fun L => ?_)
              refine cw_t (by kernel_rfl) ?_
              refine cw_skip ?_
              refine qw_then ?_
              refine cw_seq ?_
              refine cw_block ?_
              refine cw_seq ?_
              refine cw_seq ?_
              refine cw_plain ?_
              refine pl_take (.slice (some ⟨gR2, 0, none⟩) rk76 rc77) rfl (by kernel_rfl) (by kernel_rfl) (by kernel_rfl) (by kernel_rfl) ?_
              refine pl_take (.int .i64 (((r : Nat) : Int) : Int)) rfl (by kernel_rfl) (by kernel_rfl) (by kernel_rfl) (by kernel_rfl) ?_
              refine pl_take (.pointer (some ⟨gR2, r, none⟩)) rfl (by kernel_rfl) (by kernel_rfl) (by kernel_rfl) (ex_index (p := .slice (some ⟨gR2, 0, none⟩) rk76 rc77) (i := .int .i64 ((r : Nat) : Int)) rfl (by kernel_rfl) (by kernel_rfl) (ix39z (k := r) (by omega))) ?_
              refine pl_take (.slice (some ⟨(fbR2 r), 0, none⟩) ((snN (Mem.rowsR (Mem.mvL l k1 nk10 pk11 k1)) r).length) ((fcR2 r))) rfl (by kernel_rfl) (by kernel_rfl) (by kernel_rfl) (ex_load rfl (by kernel_rfl) (ld56 ((hX81.cell qR141)))) ?_
              refine pl_take (.int .i64 (((z : Nat) : Int) : Int)) rfl (by kernel_rfl) (by kernel_rfl) (by kernel_rfl) (by kernel_rfl) ?_
              refine pl_take (.pointer (some ⟨(fbR2 r), z, none⟩)) rfl (by kernel_rfl) (by kernel_rfl) (by kernel_rfl) (ex_index (p := .slice (some ⟨(fbR2 r), 0, none⟩) ((snN (Mem.rowsR (Mem.mvL l k1 nk10 pk11 k1)) r).length) ((fcR2 r))) (i := .int .i64 ((z : Nat) : Int)) rfl (by kernel_rfl) (by kernel_rfl) (ix56z (k := z) (by omega))) ?_
              refine pl_take (.int .i64 (((Mem.natN (snN (Mem.rowsR (Mem.mvL l k1 nk10 pk11 k1)) r) z : Nat) : Int) : Int)) rfl (by kernel_rfl) (by kernel_rfl) (by kernel_rfl) (ex_load rfl (by kernel_rfl) (ld3 ((hX81.cell qe151)))) ?_
              refine pl_take (.bool false) rfl (by kernel_rfl) (by kernel_rfl) (by kernel_rfl) (ev_ndec (show _ = Result.ok (Next.value (Value.bool (decide ((((Mem.natN (snN (Mem.rowsR (Mem.mvL l k1 nk10 pk11 k1)) r) z : Nat) : Int) : Int) < (0 : Int))))) _ from by kernel_rfl) (by omega)) ?_
              refine pl_take (.bool false) rfl (by kernel_rfl) (by kernel_rfl) (by kernel_rfl) (by kernel_rfl) ?_
              refine pl_take (.slice (some ⟨gR2, 0, none⟩) rk76 rc77) rfl (by kernel_rfl) (by kernel_rfl) (by kernel_rfl) (by kernel_rfl) ?_
              refine pl_take (.int .i64 (((r : Nat) : Int) : Int)) rfl (by kernel_rfl) (by kernel_rfl) (by kernel_rfl) (by kernel_rfl) ?_
              refine pl_take (.pointer (some ⟨gR2, r, none⟩)) rfl (by kernel_rfl) (by kernel_rfl) (by kernel_rfl) (ex_index (p := .slice (some ⟨gR2, 0, none⟩) rk76 rc77) (i := .int .i64 ((r : Nat) : Int)) rfl (by kernel_rfl) (by kernel_rfl) (ix39z (k := r) (by omega))) ?_
              refine pl_take (.slice (some ⟨(fbR2 r), 0, none⟩) ((snN (Mem.rowsR (Mem.mvL l k1 nk10 pk11 k1)) r).length) ((fcR2 r))) rfl (by kernel_rfl) (by kernel_rfl) (by kernel_rfl) (ex_load rfl (by kernel_rfl) (ld56 ((hX81.cell qR141)))) ?_
              refine pl_take (.int .i64 (((z : Nat) : Int) : Int)) rfl (by kernel_rfl) (by kernel_rfl) (by kernel_rfl) (by kernel_rfl) ?_
              refine pl_take (.pointer (some ⟨(fbR2 r), z, none⟩)) rfl (by kernel_rfl) (by kernel_rfl) (by kernel_rfl) (ex_index (p := .slice (some ⟨(fbR2 r), 0, none⟩) ((snN (Mem.rowsR (Mem.mvL l k1 nk10 pk11 k1)) r).length) ((fcR2 r))) (i := .int .i64 ((z : Nat) : Int)) rfl (by kernel_rfl) (by kernel_rfl) (ix56z (k := z) (by omega))) ?_
              refine pl_take (.int .i64 (((Mem.natN (snN (Mem.rowsR (Mem.mvL l k1 nk10 pk11 k1)) r) z : Nat) : Int) : Int)) rfl (by kernel_rfl) (by kernel_rfl) (by kernel_rfl) (ex_load rfl (by kernel_rfl) (ld3 ((hX81.cell qe151)))) ?_
              refine pl_take (.slice a1 k1 c1) rfl (by kernel_rfl) (by kernel_rfl) (by kernel_rfl) (by kernel_rfl) ?_
              refine pl_take (.int .i64 (((k1 : Nat) : Int) : Int)) rfl (by kernel_rfl) (by kernel_rfl) (by kernel_rfl) (by kernel_rfl) ?_
              refine pl_take (.bool false) rfl (by kernel_rfl) (by kernel_rfl) (by kernel_rfl) (ev_ndec (show _ = Result.ok (Next.value (Value.bool (decide ((((Mem.natN (snN (Mem.rowsR (Mem.mvL l k1 nk10 pk11 k1)) r) z : Nat) : Int) : Int) ≥ (((k1 : Nat) : Int) : Int))))) _ from by kernel_rfl) (by omega)) ?_
              refine pl_take (.bool false) rfl (by kernel_rfl) (by kernel_rfl) (by kernel_rfl) (by kernel_rfl) ?_
              refine pl_nil ?_
              refine qw_then ?_
              refine cw_clean [11, 12, 13, 34, 36, 38, 39, 40, 42, 288] (ws' := [(11, .bool true), (12, .slice a1 k1 c1), (13, .int .i64 (((nk10 : Nat) : Int) : Int)), (34, .slice (some ⟨gR1, 0, none⟩) rk69 rc70), (36, .slice (some ⟨gR2, 0, none⟩) rk76 rc77), (38, .int .i64 (((r : Nat) : Int) : Int)), (39, .int .i64 (((zb : Nat) : Int) : Int)), (40, .int .i64 (((yb : Nat) : Int) : Int)), (42, .int .i64 (((z : Nat) : Int) : Int)), (288, .bool false)]) (by kernel_rfl) (fun L => ?_)
              refine cw_f (by kernel_rfl) ?_
              refine cw_skip ?_
              refine qw_then ?_
              refine cw_plain ?_
              refine pl_take (.int .i64 (((yb : Nat) : Int) : Int)) rfl (by kernel_rfl) (by kernel_rfl) (by kernel_rfl) (by kernel_rfl) ?_
              refine pl_take (.slice (some ⟨gR2, 0, none⟩) rk76 rc77) rfl (by kernel_rfl) (by kernel_rfl) (by kernel_rfl) (by kernel_rfl) ?_
              refine pl_take (.int .i64 (((r : Nat) : Int) : Int)) rfl (by kernel_rfl) (by kernel_rfl) (by kernel_rfl) (by kernel_rfl) ?_
              refine pl_take (.pointer (some ⟨gR2, r, none⟩)) rfl (by kernel_rfl) (by kernel_rfl) (by kernel_rfl) (ex_index (p := .slice (some ⟨gR2, 0, none⟩) rk76 rc77) (i := .int .i64 ((r : Nat) : Int)) rfl (by kernel_rfl) (by kernel_rfl) (ix39z (k := r) (by omega))) ?_
              refine pl_take (.slice (some ⟨(fbR2 r), 0, none⟩) ((snN (Mem.rowsR (Mem.mvL l k1 nk10 pk11 k1)) r).length) ((fcR2 r))) rfl (by kernel_rfl) (by kernel_rfl) (by kernel_rfl) (ex_load rfl (by kernel_rfl) (ld56 ((hX81.cell qR141)))) ?_
              refine pl_take (.int .i64 (((z : Nat) : Int) : Int)) rfl (by kernel_rfl) (by kernel_rfl) (by kernel_rfl) (by kernel_rfl) ?_
              refine pl_take (.pointer (some ⟨(fbR2 r), z, none⟩)) rfl (by kernel_rfl) (by kernel_rfl) (by kernel_rfl) (ex_index (p := .slice (some ⟨(fbR2 r), 0, none⟩) ((snN (Mem.rowsR (Mem.mvL l k1 nk10 pk11 k1)) r).length) ((fcR2 r))) (i := .int .i64 ((z : Nat) : Int)) rfl (by kernel_rfl) (by kernel_rfl) (ix56z (k := z) (by omega))) ?_
              refine pl_take (.int .i64 (((Mem.natN (snN (Mem.rowsR (Mem.mvL l k1 nk10 pk11 k1)) r) z : Nat) : Int) : Int)) rfl (by kernel_rfl) (by kernel_rfl) (by kernel_rfl) (ex_load rfl (by kernel_rfl) (ld3 ((hX81.cell qe151)))) ?_
              refine pl_take (.int .i64 (((nk10 : Nat) : Int) : Int)) rfl (by kernel_rfl) (by kernel_rfl) (by kernel_rfl) (by kernel_rfl) ?_
              refine pl_take (.int .i64 ((((Mem.natN (snN (Mem.rowsR (Mem.mvL l k1 nk10 pk11 k1)) r) z) + nk10 : Nat) : Int) : Int)) rfl (by kernel_rfl) (by kernel_rfl) (by kernel_rfl) (ev_wrap (by kernel_rfl) (by omega) (by omega)) ?_
              refine pl_take (.slice a1 k1 c1) rfl (by kernel_rfl) (by kernel_rfl) (by kernel_rfl) (by kernel_rfl) ?_
              refine pl_take (.int .i64 (((k1 : Nat) : Int) : Int)) rfl (by kernel_rfl) (by kernel_rfl) (by kernel_rfl) (by kernel_rfl) ?_
              refine pl_take (.int .i64 (((((Mem.natN (snN (Mem.rowsR (Mem.mvL l k1 nk10 pk11 k1)) r) z) + nk10) % k1 : Nat) : Int) : Int)) rfl (by kernel_rfl) (by kernel_rfl) (by kernel_rfl) (ex_bin (a := (((Mem.natN (snN (Mem.rowsR (Mem.mvL l k1 nk10 pk11 k1)) r) z) + nk10 : Nat) : Int)) (b := ((k1 : Nat) : Int)) rfl (by kernel_rfl) (by kernel_rfl) (bin_rem (by omega))) ?_
              refine pl_take (.int .i64 (((2 ^ (((Mem.natN (snN (Mem.rowsR (Mem.mvL l k1 nk10 pk11 k1)) r) z) + nk10) % k1) : Nat) : Int) : Int)) rfl (by kernel_rfl) (by kernel_rfl) (by kernel_rfl) (ex_bin rfl (by kernel_rfl) (by kernel_rfl) (bin_shl1 (by omega))) ?_
              refine pl_take (.int .i64 (((yb ||| (2 ^ ((Mem.natN (snN (Mem.rowsR (Mem.mvL l k1 nk10 pk11 k1)) r) z + nk10) % k1)) : Nat) : Int) : Int)) rfl (by kernel_rfl) (by kernel_rfl) (by kernel_rfl) (ev_int (show _ = Result.ok (Next.value (Value.int .i64 (bits .or .i64 ((yb : Nat) : Int) ((2 ^ ((Mem.natN (snN (Mem.rowsR (Mem.mvL l k1 nk10 pk11 k1)) r) z + nk10) % k1) : Nat) : Int)))) _ from by kernel_rfl) (or_i64 _ _ (by omega) (by have : 2 ^ ((Mem.natN (snN (Mem.rowsR (Mem.mvL l k1 nk10 pk11 k1)) r) z + nk10) % k1) < 2 ^ 48 := Nat.pow_lt_pow_right (by decide) (by omega); omega))) ?_
              refine pl_take (.int .i64 (((yb ||| (2 ^ ((Mem.natN (snN (Mem.rowsR (Mem.mvL l k1 nk10 pk11 k1)) r) z + nk10) % k1)) : Nat) : Int) : Int)) rfl (by kernel_rfl) (by kernel_rfl) (by kernel_rfl) (by kernel_rfl) ?_
              refine pl_nil ?_
              refine qw_block ?_
              refine qw_then ?_
              refine cw_clean [11, 12, 13, 34, 36, 38, 39, 40, 42] (ws' := [(11, .bool true), (12, .slice a1 k1 c1), (13, .int .i64 (((nk10 : Nat) : Int) : Int)), (34, .slice (some ⟨gR1, 0, none⟩) rk69 rc70), (36, .slice (some ⟨gR2, 0, none⟩) rk76 rc77), (38, .int .i64 (((r : Nat) : Int) : Int)), (39, .int .i64 (((zb : Nat) : Int) : Int)), (40, .int .i64 (((yb ||| (2 ^ ((Mem.natN (snN (Mem.rowsR (Mem.mvL l k1 nk10 pk11 k1)) r) z + nk10) % k1)) : Nat) : Int) : Int)), (42, .int .i64 (((z : Nat) : Int) : Int))]) (by kernel_rfl) (fun L => ?_)
              refine cw_plain ?_
              refine pl_take (.int .i64 (((z : Nat) : Int) : Int)) rfl (by kernel_rfl) (by kernel_rfl) (by kernel_rfl) (by kernel_rfl) ?_
              refine pl_take (.int .i64 (((z + 1 : Nat) : Int) : Int)) rfl (by kernel_rfl) (by kernel_rfl) (by kernel_rfl) (ev_wrap (by kernel_rfl) (by omega) (by omega)) ?_
              refine pl_take (.int .i64 (((z + 1 : Nat) : Int) : Int)) rfl (by kernel_rfl) (by kernel_rfl) (by kernel_rfl) (by kernel_rfl) ?_
              refine pl_nil ?_
              refine qw_round [11, 12, 13, 34, 36, 38, 39, 40, 42] (ws' := [(11, .bool true), (12, .slice a1 k1 c1), (13, .int .i64 (((nk10 : Nat) : Int) : Int)), (34, .slice (some ⟨gR1, 0, none⟩) rk69 rc70), (36, .slice (some ⟨gR2, 0, none⟩) rk76 rc77), (38, .int .i64 (((r : Nat) : Int) : Int)), (39, .int .i64 (((zb : Nat) : Int) : Int)), (40, .int .i64 (((yb ||| (2 ^ ((Mem.natN (snN (Mem.rowsR (Mem.mvL l k1 nk10 pk11 k1)) r) z + nk10) % k1)) : Nat) : Int) : Int)), (42, .int .i64 (((z + 1 : Nat) : Int) : Int))]) (by kernel_rfl) _ ?_ ⟨(z + 1), yb ||| (2 ^ ((Mem.natN (snN (Mem.rowsR (Mem.mvL l k1 nk10 pk11 k1)) r) z + nk10) % k1)), rfl, rfl, hs148, hE, hX9, hX47, hX74, hX81, by omega, (by rw [Mem.natN_take hlt, List.map_append, List.map_cons, List.map_nil, Mem.bitsOf_snoc, ← hyb])⟩
              omega
            ·
              have hy9 : yb = zb := by rw [hyb, show z = (snN (Mem.rowsR (Mem.mvL l k1 nk10 pk11 k1)) r).length by omega, List.take_length, hz9]; exact hbt.symm
              refine cw_seq ?_
              refine cw_seq ?_
              refine cw_plain ?_
              refine pl_take (.int .i64 (((z : Nat) : Int) : Int)) rfl (by kernel_rfl) (by kernel_rfl) (by kernel_rfl) (by kernel_rfl) ?_
              refine pl_take (.slice (some ⟨gR2, 0, none⟩) rk76 rc77) rfl (by kernel_rfl) (by kernel_rfl) (by kernel_rfl) (by kernel_rfl) ?_
              refine pl_take (.int .i64 (((r : Nat) : Int) : Int)) rfl (by kernel_rfl) (by kernel_rfl) (by kernel_rfl) (by kernel_rfl) ?_
              refine pl_take (.pointer (some ⟨gR2, r, none⟩)) rfl (by kernel_rfl) (by kernel_rfl) (by kernel_rfl) (ex_index (p := .slice (some ⟨gR2, 0, none⟩) rk76 rc77) (i := .int .i64 ((r : Nat) : Int)) rfl (by kernel_rfl) (by kernel_rfl) (ix39z (k := r) (by omega))) ?_
              refine pl_take (.slice (some ⟨(fbR2 r), 0, none⟩) ((snN (Mem.rowsR (Mem.mvL l k1 nk10 pk11 k1)) r).length) ((fcR2 r))) rfl (by kernel_rfl) (by kernel_rfl) (by kernel_rfl) (ex_load rfl (by kernel_rfl) (ld56 ((hX81.cell qR141)))) ?_
              refine pl_take (.int .i64 ((((snN (Mem.rowsR (Mem.mvL l k1 nk10 pk11 k1)) r).length : Nat) : Int) : Int)) rfl (by kernel_rfl) (by kernel_rfl) (by kernel_rfl) (by kernel_rfl) ?_
              refine pl_take (.bool false) rfl (by kernel_rfl) (by kernel_rfl) (by kernel_rfl) (ev_ndec (show _ = Result.ok (Next.value (Value.bool (decide ((((z : Nat) : Int) : Int) < ((((snN (Mem.rowsR (Mem.mvL l k1 nk10 pk11 k1)) r).length : Nat) : Int) : Int))))) _ from by kernel_rfl) (by omega)) ?_
              refine pl_nil ?_
              refine qw_then ?_
              refine cw_clean [11, 12, 13, 34, 36, 38, 39, 40, 42, 266] (ws' := [(11, .bool true), (12, .slice a1 k1 c1), (13, .int .i64 (((nk10 : Nat) : Int) : Int)), (34, .slice (some ⟨gR1, 0, none⟩) rk69 rc70), (36, .slice (some ⟨gR2, 0, none⟩) rk76 rc77), (38, .int .i64 (((r : Nat) : Int) : Int)), (39, .int .i64 (((zb : Nat) : Int) : Int)), (40, .int .i64 (((yb : Nat) : Int) : Int)), (42, .int .i64 (((z : Nat) : Int) : Int)), (266, .bool false)]) (by kernel_rfl) (fun L => ?_)
              refine cw_f (by kernel_rfl) ?_
              refine cw_exit ?_
              refine qw_then_exit ?_
              refine qw_then_exit ?_
              refine qw_block_out ?_
              refine qw_then ?_
              refine cw_seq ?_
              refine cw_plain ?_
              refine pl_take (.int .i64 (((zb : Nat) : Int) : Int)) rfl (by kernel_rfl) (by kernel_rfl) (by kernel_rfl) (by kernel_rfl) ?_
              refine pl_take (.int .i64 (((yb : Nat) : Int) : Int)) rfl (by kernel_rfl) (by kernel_rfl) (by kernel_rfl) (by kernel_rfl) ?_
              refine pl_take (.bool false) rfl (by kernel_rfl) (by kernel_rfl) (by kernel_rfl) (ev_nne (show _ = Result.ok (Next.value (Value.bool ((((zb : Nat) : Int) : Int) != (((yb : Nat) : Int) : Int)))) _ from by kernel_rfl) (by omega)) ?_
              refine pl_nil ?_
              refine qw_then ?_
              refine cw_f (by kernel_rfl) ?_
              refine cw_skip ?_
              refine qw_block ?_
              refine qw_then ?_
              refine cw_plain ?_
              refine pl_take (.int .i64 (((r : Nat) : Int) : Int)) rfl (by kernel_rfl) (by kernel_rfl) (by kernel_rfl) (by kernel_rfl) ?_
              refine pl_take (.int .i64 (((r + 1 : Nat) : Int) : Int)) rfl (by kernel_rfl) (by kernel_rfl) (by kernel_rfl) (ev_wrap (by kernel_rfl) (by omega) (by omega)) ?_
              refine pl_take (.int .i64 (((r + 1 : Nat) : Int) : Int)) rfl (by kernel_rfl) (by kernel_rfl) (by kernel_rfl) (by kernel_rfl) ?_
              refine pl_nil ?_
              refine qw_round [11, 12, 13, 34, 36, 38] (ws' := [(11, .bool true), (12, .slice a1 k1 c1), (13, .int .i64 (((nk10 : Nat) : Int) : Int)), (34, .slice (some ⟨gR1, 0, none⟩) rk69 rc70), (36, .slice (some ⟨gR2, 0, none⟩) rk76 rc77), (38, .int .i64 (((r + 1 : Nat) : Int) : Int))]) (by kernel_rfl) _ ?_ ⟨(r + 1), rfl, rfl, (Nat.le_trans hs136 (Nat.le_trans hs143 hs148)), hE, hX9, hX47, hX74, hX81, by omega⟩
              omega
        ·
          refine cw_seq ?_
          refine cw_seq ?_
          refine cw_plain ?_
          refine pl_take (.int .i64 (((r : Nat) : Int) : Int)) rfl (by kernel_rfl) (by kernel_rfl) (by kernel_rfl) (by kernel_rfl) ?_
          refine pl_take (.slice ra68 rk69 rc70) rfl (by kernel_rfl) (by kernel_rfl) (by kernel_rfl) (by kernel_rfl) ?_
          refine pl_take (.int .i64 (((rk69 : Nat) : Int) : Int)) rfl (by kernel_rfl) (by kernel_rfl) (by kernel_rfl) (by kernel_rfl) ?_
          refine pl_take (.bool false) rfl (by kernel_rfl) (by kernel_rfl) (by kernel_rfl) (ev_ndec (show _ = Result.ok (Next.value (Value.bool (decide ((((r : Nat) : Int) : Int) < (((rk69 : Nat) : Int) : Int))))) _ from by kernel_rfl) (by omega)) ?_
          refine pl_nil ?_
          refine qw_then ?_
          refine cw_f (by kernel_rfl) ?_
          refine cw_exit ?_
          refine qw_then_exit ?_
          refine qw_then_exit ?_
          refine qw_block_out ?_
          refine qw_then ?_
          refine cw_seq ?_
          refine cw_plain ?_
          refine pl_take (.bool true) rfl (by kernel_rfl) (by kernel_rfl) (by kernel_rfl) (by kernel_rfl) ?_
          refine pl_take (.bool true) rfl (by kernel_rfl) (by kernel_rfl) (by kernel_rfl) (by kernel_rfl) ?_
          refine pl_nil ?_
          refine qw_then ?_
          refine cw_ret ?_
          refine qw_ret [.bool true] rfl ⟨(by kernel_rfl), trivial⟩ ?_
          exact ⟨rfl, hE⟩

end Go.Proofs.Ytnbjjddfcondlaa

/- The statement MemoryMoved: for every input the law returns true, and every argument reads as it read before; the two tables of package math/bits that the row lists are tied to the program's text. -/
namespace Go.Proofs.Ytnbjjddfcondlaa
open Go.ChangeShapes Go.WideShapes Go.ChangeAt Go.RowKit

set_option maxRecDepth 100000 in
theorem MemoryMoved_lifted (os : Os) (started : os.Started) (H : Type) (enc : TypeId × Value → H) :
    ReturnsInHanded {} Try.checked os 9 .any (Rows.memoryMovedSpec.pre6 enc Try.prog Try.f9 Rows.memoryMovedRow.domain false)
      (Rows.memoryMovedSpec.post enc Try.prog Try.f9 false true false false) := by
  refine returnsInHanded_of_change_sized (C := Try.checked) own started (by kernel_rfl) Try.func9
    (ChangeSpec.witness6 (enc := enc) (C := Try.checked) false ⟨#[], #[.slice none 0 0, .int .i64 0, .int .i64 0, .int .i64 0, .int .i64 0], []⟩ 8 (by kernel_rfl) (by kernel_rfl) (by kernel_rfl) (by kernel_rfl)) ?_
  intro W base args ds gs before hval0 hW _ hsz _
  have hval : ∀ (j : Nat) t v, Try.f9.params[j]? = some t → args[j]? = some v → Value.okWide Try.prog W .any base t v := hval0
  have hW' := hW
  obtain ⟨p, q, hA0, hV, rfl, hfz, hnd⟩ := hW
  have hA : DataW.TrodAll enc Try.prog W 0 (fun _ => true) true Try.f9.params.toList args.toList ds p := hA0
  rw [Try.params9] at hA hval
  obtain ⟨v0, vs0, d0, ds0, p0, q0, hargs, rfl, rfl, h0, r0⟩ := trodAll_cons hA
  obtain ⟨v1, vs1, d1, ds1, p1, q1, rfl, rfl, rfl, h1, r1⟩ := trodAll_cons r0
  obtain ⟨v2, vs2, d2, ds2, p2, q2, rfl, rfl, rfl, h2, r2⟩ := trodAll_cons r1
  obtain ⟨v3, vs3, d3, ds3, p3, q3, rfl, rfl, rfl, h3, r3⟩ := trodAll_cons r2
  obtain ⟨v4, vs4, d4, ds4, p4, q4, rfl, rfl, rfl, h4, r4⟩ := trodAll_cons r3
  obtain ⟨rfl, rfl, rfl⟩ := trodAll_nil r4
  obtain rfl : args = #[v0, v1, v2, v3, v4] := by cases args; simp_all
  obtain ⟨rfl, rfl⟩ := trodVars_none hV
  have k0 := h0
  have lt0 : ∀ x ∈ p0, x.block < W.heap.size := by obtain ⟨m, hm⟩ := k0; exact DataW.trod_lt m _ _ _ hm
  have op0 := open_tris (hval 0 _ v0 rfl rfl) h0
  obtain ⟨a1, rfl, rfl, rfl, w1⟩ := open_int Try.underlying3 (hval 1 3 v1 rfl rfl) h1
  obtain ⟨a2, rfl, rfl, rfl, w2⟩ := open_int Try.underlying3 (hval 2 3 v2 rfl rfl) h2
  obtain ⟨a3, rfl, rfl, rfl, w3⟩ := open_int Try.underlying3 (hval 3 3 v3 rfl rfl) h3
  obtain ⟨a4, rfl, rfl, rfl, w4⟩ := open_int Try.underlying3 (hval 4 3 v4 rfl rfl) h4
  clear hA0 hval0
  refine (MemoryMoved_walk W v0 op0 a1 (isI_of_wf w1) a2 (isI_of_wf w2) a3 (isI_of_wf w3) a4 (isI_of_wf w4)).mono fun e W' ⟨he, hE⟩ => ?_
  subst he
  have bel : Below W.heap.size W W' := hE
  exact ⟨_, rfl, _, _, _, [], _, [], hW', trodAll_mk1 (shut_bool Try.underlying4 _), (trodAll_cons_mk (Below.trod laidOut (by kernel_rfl) (of_decide_eq_true (by kernel_rfl)) k0 bel lt0) (trodAll_cons_mk (shut_int Try.underlying3 w1) (trodAll_cons_mk (shut_int Try.underlying3 w2) (trodAll_cons_mk (shut_int Try.underlying3 w3) (trodAll_cons_mk (shut_int Try.underlying3 w4) trodAll_mk0))))), rfl, bel.frame _, fun h => by cases h⟩

theorem MemoryMoved_over : Rows.MemoryMovedSaid :=
  OpenClaim.holds_of_wide 9 Try.f9 rfl rfl rfl rfl rfl rfl rfl ⟨rfl, rfl, rfl, rfl, rfl⟩ rfl rfl rfl rfl rfl (by kernel_rfl) Try.func9 (by kernel_rfl)
    (of_decide_eq_true (by kernel_rfl)) (by unfold Func.isWrapper; first | (rw [if_pos (by decide +kernel)]; kernel_rfl) | (rw [if_neg (by decide +kernel)]; exact ⟨rfl, rfl⟩))
    (fun os started H enc _ => MemoryMoved_lifted os started H enc)

theorem MemoryMoved_holds : Rows.MemoryMovedSaid := MemoryMoved_over
#print axioms MemoryMoved_holds
end Go.Proofs.Ytnbjjddfcondlaa
