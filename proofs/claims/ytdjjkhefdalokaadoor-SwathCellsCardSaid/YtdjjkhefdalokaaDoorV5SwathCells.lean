/- Part 5 of what the proof of SwathCells stands on. -/
import Derived.Test.YtdjjkhefdalokaaDoorV4SwathCells
/- Contracts of the laws' helpers of chapter 8: strip, Shot, Made. -/
namespace Go.Proofs.YtdjjkhefdalokaaDoor
open Go.RowKit

namespace Swath
def stripL (x : Nat) (ys : List Nat) : List Int := ys.foldl (fun L y => L.set y ((2 ^ x : Nat) : Int)) Globe.zeroL
theorem strip_snoc {x : Nat} {ys : List Nat} {i y : Nat} (h : ys[i]? = some y) : stripL x (ys.take (i + 1)) = (stripL x (ys.take i)).set y ((2 ^ x : Nat) : Int) := by
  unfold stripL; rw [List.take_add_one, h]; simp
theorem ys_at {w : World} {a : Option Addr} {ys : List Nat} (h : IntsAt w a (ys.map fun y => ((y : Nat) : Int))) (hl : 0 < ys.length) : ∃ b off, a = some ⟨b, off, none⟩ ∧ ∀ i y, ys[i]? = some y → w.cell? ⟨b, off + i, none⟩ = some (.int .i64 ((y : Nat) : Int)) := by
  rcases h with h | ⟨b, off, rfl, h⟩
  · have := congrArg List.length h; simp at this; rw [this] at hl; simp at hl
  · refine ⟨b, off, rfl, fun i y hy => ?_⟩
    have hi := (List.getElem?_eq_some_iff.1 hy).1
    rw [h i (by simpa using hi), Globe.nth_lt (by simpa using hi)]
    obtain ⟨h1, h2⟩ := List.getElem?_eq_some_iff.1 hy
    simp [h2]
end Swath
set_option maxRecDepth 1000000 in
set_option maxHeartbeats 4000000 in
theorem strip_c {w1 : World} {x n c : Nat} {a : Option Addr} {ys : List Nat} (w : World) (hx : x < 48) (hA : IntsAt w1 a (ys.map fun y => ((y : Nat) : Int))) (hl : ys.length = n) (hn : n ≤ 24) (hyl : ∀ y ∈ ys, y < 24) (e1 : Ext w1 w) : Calls Tryd.prog 15 #[.int .i64 ((x : Nat) : Int), .slice a n c] w (RetA w (Swath.stripL x ys)) := by
  have hln := hl
  refine calls_cw 24 [(1, .slice a n c), (0, .int .i64 (((x : Nat) : Int) : Int))] Tryd.func15 rfl Tryd.ntmps15 (by kernel_rfl) (by kernel_rfl) (fun L => ?_)
  have hE : Ext w w := Ext.refl w
  refine cw_seq ?_
  refine cw_plain ?_
  refine pl_step rfl (by kernel_rfl) (by kernel_rfl) (by kernel_rfl) (sn_new (us := #[.slice none 0 0]) (t := 39) (by kernel_rfl) ?_)
  intro O1 X2 hO hOs hb hbx
  have hzO1 := hO; have hyO1 := hOs; clear hO hOs
  have bO1_0 : BoxAt X2 O1 0 (.slice none 0 0) := hbx 0 _ rfl
  clear hbx
  replace hE := hE.trans hb
  have hs3 := hb.size
  clear hb
  have lt4 := bO1_0.lt
  refine pl_nil ?_
  refine qw_then ?_
  refine cw_seq ?_
  refine cw_plain ?_
  refine pl_step rfl (by kernel_rfl) (by kernel_rfl) (by kernel_rfl) (sn_call (f := 37) (args := #[]) (by kernel_rfl) ((rEmpty_c _).mono ?_))
  rintro e w8 ⟨B5, rfl, hn6, hr7, hb⟩
  replace hE := hE.trans hb
  replace bO1_0 := BoxAt.ext hb bO1_0
  have hs9 := hb.size
  clear hb
  have lt10 := hr7.lt
  refine ⟨_, rfl, ?_⟩
  refine pl_step rfl (by kernel_rfl) (by kernel_rfl) (by kernel_rfl) (sn_new (us := #[.slice none 0 0]) (t := 39) (by kernel_rfl) ?_)
  intro O11 X12 hO hOs hb hbx
  have hzO11 := hO; have hyO11 := hOs; clear hO hOs
  have bO11_0 : BoxAt X12 O11 0 (.slice none 0 0) := hbx 0 _ rfl
  clear hbx
  replace hE := hE.trans hb
  replace bO1_0 := BoxAt.ext hb bO1_0
  replace hr7 := hr7.ext hb
  have hs13 := hb.size
  clear hb
  have lt14 := bO11_0.lt
  refine pl_put rfl (by kernel_rfl) (by kernel_rfl) (sn_set (O := O11) (j := 0) (v := .slice (some ⟨B5, 0, none⟩) 24 24) (ex_store (p := .pointer (some ⟨O11, 0, none⟩)) (v := .agg #[.slice (some ⟨B5, 0, none⟩) 24 24]) rfl (by kernel_rfl) (by kernel_rfl) (st39 bO11_0.1 bO11_0.2)) bO11_0 ?_)
  intro X15 ho hv0 hk
  replace hE := ho.ext hE (Nat.le_trans (Nat.le_trans hs3 hs9) (Nat.le_of_eq hzO11))
  replace bO1_0 := ho.box (Nat.ne_of_gt (Nat.lt_of_lt_of_le lt4 (Nat.le_trans hs9 (Nat.le_of_eq hzO11)))) bO1_0
  replace hr7 := ho.rows (Nat.ne_of_gt (Nat.lt_of_lt_of_le lt10 (Nat.le_of_eq hzO11))) hr7
  have hs16 : X12.heap.size ≤ X15.heap.size := Nat.le_of_eq ho.size.symm
  clear ho hk bO11_0
  have bO11_0 := hv0; clear hv0
  refine pl_nil ?_
  refine qw_then ?_
  refine cw_seq ?_
  refine cw_seq ?_
  have hX17 : Ext X15 X15 := Ext.refl _
  refine cw_plain ?_
  refine pl_take (.int .i64 0) rfl (by kernel_rfl) (by kernel_rfl) (by kernel_rfl) (by kernel_rfl) ?_
  refine pl_nil ?_
  refine qw_then ?_
  refine cw_block ?_
  have hI := hA.ext (e1.trans hE)
  have bO1_t18 := bO1_0
  have hrt19 := hr7
  have bO11_t20 := bO11_0
  refine cw_loop [0, 1, 4, 5, 6] (fun ws' wr m => ∃ i : Nat, ws' = [(0, .int .i64 (((x : Nat) : Int) : Int)), (1, .slice a n c), (4, .pointer (some ⟨O1, 0, none⟩)), (5, .pointer (some ⟨O11, 0, none⟩)), (6, .int .i64 (((i : Nat) : Int) : Int))] ∧ m = n - i ∧ X15.heap.size ≤ wr.heap.size ∧ Ext w wr ∧ BoxAt wr O1 0 (.slice none 0 0) ∧ BoxAt wr O11 0 (.slice (some ⟨B5, 0, none⟩) 24 24) ∧ RowsAt wr B5 (Swath.stripL x (ys.take i)) ∧ i ≤ n) (ws0 := [(0, .int .i64 (((x : Nat) : Int) : Int)), (1, .slice a n c), (4, .pointer (some ⟨O1, 0, none⟩)), (5, .pointer (some ⟨O11, 0, none⟩)), (6, .int .i64 0)]) (by kernel_rfl) _ ⟨0, rfl, rfl, Nat.le_refl _, hE, bO1_t18, bO11_t20, hrt19, by omega⟩ ?_
  clear bO1_t18 hrt19 bO11_t20 hE
  rintro m23 L ws w22 ⟨i, rfl, rfl, hs21, hE, bO1_t18, bO11_t20, hr9, hi⟩
  by_cases hlt : i < n
  ·
    obtain ⟨y, hy⟩ : ∃ y, ys[i]? = some y := ⟨_, List.getElem?_eq_getElem (by omega)⟩
    have hy24 := hyl y (List.mem_of_getElem? hy)
    obtain ⟨b, off, rfl, hc9⟩ := Swath.ys_at hA (by omega)
    have hcy := (e1.trans hE).cell (hc9 i y hy)
    have hsn := Swath.strip_snoc (x := x) hy
    have hbw : b < w.heap.size := World.block_lt_of_cell? _ _ (e1.cell (hc9 i y hy))
    have hX24 : Ext w22 w22 := Ext.refl _
    refine cw_seq ?_
    refine cw_seq ?_
    refine cw_plain ?_
    refine pl_take (.int .i64 (((i : Nat) : Int) : Int)) rfl (by kernel_rfl) (by kernel_rfl) (by kernel_rfl) (by kernel_rfl) ?_
    refine pl_take (.slice (some ⟨b, off, none⟩) n c) rfl (by kernel_rfl) (by kernel_rfl) (by kernel_rfl) (by kernel_rfl) ?_
    refine pl_take (.int .i64 (((n : Nat) : Int) : Int)) rfl (by kernel_rfl) (by kernel_rfl) (by kernel_rfl) (by kernel_rfl) ?_
    refine pl_take (.bool true) rfl (by kernel_rfl) (by kernel_rfl) (by kernel_rfl) (ev_dec (show _ = Result.ok (Next.value (Value.bool (decide ((((i : Nat) : Int) : Int) < (((n : Nat) : Int) : Int))))) _ from by kernel_rfl) (by omega)) ?_
    refine pl_nil ?_
    refine qw_then ?_
    refine cw_t (by kernel_rfl) ?_
    refine cw_skip ?_
    refine qw_then ?_
    refine cw_seq ?_
    refine cw_block ?_
    refine cw_draw [(some 14, [5], []), (some 15, [14], [0]), (some 16, [1], []), (some 17, [6], []), (some 18, [16, 17], [2, 3]), (some 19, [18], [4]), (some 20, [0], []), (some 21, [20], [6]), (some 22, [15, 19], [1, 5, 0, 1, 2, 3, 4, 5, 6, 7]), (none, [22, 21], [8, 7, 0, 1, 2, 3, 4, 5, 6, 7])] (fun w' => w'.cell? ⟨O11, 0, none⟩ = some (.slice (some ⟨B5, 0, none⟩) 24 24) ∧ w'.cell? ⟨b, off + i, none⟩ = some (.int .i64 (((y : Nat) : Int) : Int))) (by kernel_rfl) (by kernel_rfl) (by kernel_rfl) (by kernel_rfl) ((calm_block (calm_then (calm_then (calm_block (calm_then calm_body)))))) (⟨bO11_t20.1, hcy⟩) (fun ops Q X25 hb hL hR hK => ?_)
    replace hE := hE.trans hb
    replace hX24 := hX24.trans hb
    have hs26 := hb.size
    clear hb
    have hS27 := And.intro ((BoxAt.ext hX24 bO11_t20).1) ((hX24.cell hcy))
    refine wd_take 0 (.pointer (some ⟨O11, 0, none⟩)) hR rfl (by kernel_rfl) rfl (by kernel_rfl) (fun w _ => by kernel_rfl) (hS27) ?_
    refine wd_take 1 (.slice (some ⟨B5, 0, none⟩) 24 24) hR rfl (by kernel_rfl) rfl (by kernel_rfl) (fun w hS => ex_load rfl (by kernel_rfl) (ld37 (hS.1))) (hS27) ?_
    refine wd_take 2 (.slice (some ⟨b, off, none⟩) n c) hR rfl (by kernel_rfl) rfl (by kernel_rfl) (fun w _ => by kernel_rfl) (hS27) ?_
    refine wd_take 3 (.int .i64 (((i : Nat) : Int) : Int)) hR rfl (by kernel_rfl) rfl (by kernel_rfl) (fun w _ => by kernel_rfl) (hS27) ?_
    refine wd_take 4 (.pointer (some ⟨b, off + i, none⟩)) hR rfl (by kernel_rfl) rfl (by kernel_rfl) (fun w _ => ex_index (p := .slice (some ⟨b, off, none⟩) n c) (i := .int .i64 ((i : Nat) : Int)) rfl (by kernel_rfl) (by kernel_rfl) (ix37 (k := i) (by omega))) (hS27) ?_
    refine wd_take 5 (.int .i64 (((y : Nat) : Int) : Int)) hR rfl (by kernel_rfl) rfl (by kernel_rfl) (fun w hS => ex_load rfl (by kernel_rfl) (ld3 (hS.2))) (hS27) ?_
    refine wd_take 6 (.int .i64 (((x : Nat) : Int) : Int)) hR rfl (by kernel_rfl) rfl (by kernel_rfl) (fun w _ => by kernel_rfl) (hS27) ?_
    refine wd_take 7 (.int .i64 (((2 ^ x : Nat) : Int) : Int)) hR rfl (by kernel_rfl) rfl (by kernel_rfl) (fun w _ => ex_bin rfl (by kernel_rfl) (by kernel_rfl) (bin_shl1 (by omega))) (hS27) ?_
    refine wd_take 8 (.pointer (some ⟨B5, y, none⟩)) hR rfl (by kernel_rfl) rfl (by kernel_rfl) (fun w _ => ex_index (p := .slice (some ⟨B5, 0, none⟩) 24 24) (i := .int .i64 ((y : Nat) : Int)) rfl (by kernel_rfl) (by kernel_rfl) (ix37z (k := y) (by omega))) (hS27) ?_
    have bO1_tt28 := (BoxAt.ext hX24 bO1_t18)
    have bO11_tt29 := (BoxAt.ext hX24 bO11_t20)
    have hrt30 := (hr9.ext hX24)
    have hcyt31 := (hX24.cell hcy)
    refine wd_step 9 hR rfl (by kernel_rfl) (by kernel_rfl) (by kernel_rfl) (sn_row (g := B5) (y := y) (v := ((2 ^ x : Nat) : Int)) (ex_store (p := .pointer (some ⟨B5, y, none⟩)) (v := .int .i64 (((2 ^ x : Nat) : Int) : Int)) rfl (by kernel_rfl) (by kernel_rfl) (st3 (hrt30.cell (by omega)) (hrt30.free (by omega)))) hrt30 (by omega) ?_)
    intro X32 ho hv0
    replace hE := ho.ext hE (Nat.le_trans hs3 hn6)
    replace bO1_tt28 := ho.box (Nat.ne_of_gt (Nat.lt_of_lt_of_le lt4 hn6)) bO1_tt28
    replace bO11_tt29 := ho.box (Nat.ne_of_lt (Nat.lt_of_lt_of_le lt10 (Nat.le_of_eq hzO11))) bO11_tt29
    replace hcyt31 := ho.cell (Nat.ne_of_gt (Nat.lt_of_lt_of_le hbw (Nat.le_trans hs3 hn6))) hcyt31
    have hs33 : X25.heap.size ≤ X32.heap.size := Nat.le_of_eq ho.size.symm
    clear ho hrt30; have hrt30 := hv0; clear hv0
    refine ⟨⟨bO11_tt29.1, hcyt31⟩, ?_⟩
    refine wd_end hL hR hK (by kernel_rfl) ?_
    refine qw_block ?_
    refine qw_then ?_
    refine cw_clean [0, 1, 4, 5, 6] (ws' := [(0, .int .i64 (((x : Nat) : Int) : Int)), (1, .slice (some ⟨b, off, none⟩) n c), (4, .pointer (some ⟨O1, 0, none⟩)), (5, .pointer (some ⟨O11, 0, none⟩)), (6, .int .i64 (((i : Nat) : Int) : Int))]) (by kernel_rfl) (fun L => ?_)
    have hX34 : Ext X32 X32 := Ext.refl _
    refine cw_plain ?_
    refine pl_take (.int .i64 (((i : Nat) : Int) : Int)) rfl (by kernel_rfl) (by kernel_rfl) (by kernel_rfl) (by kernel_rfl) ?_
    refine pl_take (.int .i64 (((i + 1 : Nat) : Int) : Int)) rfl (by kernel_rfl) (by kernel_rfl) (by kernel_rfl) (ev_wrap (by kernel_rfl) (by omega) (by omega)) ?_
    refine pl_take (.int .i64 (((i + 1 : Nat) : Int) : Int)) rfl (by kernel_rfl) (by kernel_rfl) (by kernel_rfl) (by kernel_rfl) ?_
    refine pl_nil ?_
    refine qw_round [0, 1, 4, 5, 6] (ws' := [(0, .int .i64 (((x : Nat) : Int) : Int)), (1, .slice (some ⟨b, off, none⟩) n c), (4, .pointer (some ⟨O1, 0, none⟩)), (5, .pointer (some ⟨O11, 0, none⟩)), (6, .int .i64 (((i + 1 : Nat) : Int) : Int))]) (by kernel_rfl) _ ?_ ⟨(i + 1), rfl, rfl, (Nat.le_trans hs21 (Nat.le_trans hs26 hs33)), hE, bO1_tt28, bO11_tt29, (by rw [hsn]; exact hrt30), by omega⟩
    omega
  ·
    have hin : i = n := by omega
    refine cw_seq ?_
    refine cw_seq ?_
    have hX35 : Ext w22 w22 := Ext.refl _
    refine cw_plain ?_
    refine pl_take (.int .i64 (((i : Nat) : Int) : Int)) rfl (by kernel_rfl) (by kernel_rfl) (by kernel_rfl) (by kernel_rfl) ?_
    refine pl_take (.slice a n c) rfl (by kernel_rfl) (by kernel_rfl) (by kernel_rfl) (by kernel_rfl) ?_
    refine pl_take (.int .i64 (((n : Nat) : Int) : Int)) rfl (by kernel_rfl) (by kernel_rfl) (by kernel_rfl) (by kernel_rfl) ?_
    refine pl_take (.bool false) rfl (by kernel_rfl) (by kernel_rfl) (by kernel_rfl) (ev_ndec (show _ = Result.ok (Next.value (Value.bool (decide ((((i : Nat) : Int) : Int) < (((n : Nat) : Int) : Int))))) _ from by kernel_rfl) (by omega)) ?_
    refine pl_nil ?_
    refine qw_then ?_
    refine cw_f (by kernel_rfl) ?_
    refine cw_exit ?_
    refine qw_then_exit ?_
    refine qw_then_exit ?_
    refine qw_block_out ?_
    refine qw_then ?_
    refine cw_seq ?_
    refine cw_plain ?_
    refine pl_take (.agg #[.slice (some ⟨B5, 0, none⟩) 24 24]) rfl (by kernel_rfl) (by kernel_rfl) (by kernel_rfl) (ex_load rfl (by kernel_rfl) (ld39 (bO11_t20.1))) ?_
    have bO1_tt37 := bO1_t18
    have bO11_tt38 := bO11_t20
    have hrt39 := hr9
    refine pl_put rfl (by kernel_rfl) (by kernel_rfl) (sn_set (O := O1) (j := 0) (v := .slice (some ⟨B5, 0, none⟩) 24 24) (ex_store (p := .pointer (some ⟨O1, 0, none⟩)) (v := .agg #[.slice (some ⟨B5, 0, none⟩) 24 24]) rfl (by kernel_rfl) (by kernel_rfl) (st39 bO1_tt37.1 bO1_tt37.2)) bO1_tt37 ?_)
    intro X36 ho hv0 hk
    replace hE := ho.ext hE (Nat.le_of_eq hzO1)
    replace bO11_tt38 := ho.box (Nat.ne_of_lt (Nat.lt_of_lt_of_le lt4 (Nat.le_trans hs9 (Nat.le_of_eq hzO11)))) bO11_tt38
    replace hrt39 := ho.rows (Nat.ne_of_lt (Nat.lt_of_lt_of_le lt4 hn6)) hrt39
    have hs40 : w22.heap.size ≤ X36.heap.size := Nat.le_of_eq ho.size.symm
    clear ho hk bO1_tt37
    have bO1_tt37 := hv0; clear hv0
    refine pl_nil ?_
    refine qw_then ?_
    refine cw_ret ?_
    refine qw_ret [.agg #[.slice (some ⟨B5, 0, none⟩) 24 24]] rfl ⟨⟨_, by kernel_rfl, res_ld (ld39 (bO1_tt37.1))⟩, trivial⟩ ?_
    exact ⟨B5, rfl, (Nat.le_trans hs3 hn6), by rw [show Swath.stripL x ys = Swath.stripL x (ys.take i) by rw [List.take_of_length_le (by omega)]]; exact hrt39, hE⟩
set_option maxRecDepth 1000000 in
set_option maxHeartbeats 4000000 in
theorem Shot_c (x0 x1 : Int) (w : World) (i0 : IsI x0) (i1 : IsI x1) : Calls Tryd.prog 6 #[.agg #[.int .i64 x0, .int .i64 x1]] w fun e w' => ∃ s : Int × Int, e = .returned (.agg #[.int .i64 s.1, .int .i64 s.2]) ∧ Swath.spB s 30 = true ∧ s.1 ≤ 2999 ∧ Ext w w' := by
  refine calls_cw 15 [(0, .agg #[.int .i64 (x0 : Int), .int .i64 (x1 : Int)])] Tryd.func6 rfl Tryd.ntmps6 (by kernel_rfl) (by kernel_rfl) (fun L => ?_)
  have hE : Ext w w := Ext.refl w
  refine cw_seq ?_
  refine cw_plain ?_
  refine pl_step rfl (by kernel_rfl) (by kernel_rfl) (by kernel_rfl) (sn_new (us := #[.int .i64 (x0 : Int), .int .i64 (x1 : Int)]) (t := 23) (by kernel_rfl) ?_)
  intro O1 X2 hO hOs hb hbx
  have hzO1 := hO; have hyO1 := hOs; clear hO hOs
  have bO1_0 : BoxAt X2 O1 0 (.int .i64 (x0 : Int)) := hbx 0 _ rfl
  have bO1_1 : BoxAt X2 O1 1 (.int .i64 (x1 : Int)) := hbx 1 _ rfl
  clear hbx
  replace hE := hE.trans hb
  have hs3 := hb.size
  clear hb
  have lt4 := bO1_0.lt
  refine pl_step rfl (by kernel_rfl) (by kernel_rfl) (by kernel_rfl) (sn_new (us := #[.int .i64 0, .int .i64 0]) (t := 29) (by kernel_rfl) ?_)
  intro O5 X6 hO hOs hb hbx
  have hzO5 := hO; have hyO5 := hOs; clear hO hOs
  have bO5_0 : BoxAt X6 O5 0 (.int .i64 0) := hbx 0 _ rfl
  have bO5_1 : BoxAt X6 O5 1 (.int .i64 0) := hbx 1 _ rfl
  clear hbx
  replace hE := hE.trans hb
  replace bO1_0 := BoxAt.ext hb bO1_0
  replace bO1_1 := BoxAt.ext hb bO1_1
  have hs7 := hb.size
  clear hb
  have lt8 := bO5_0.lt
  refine pl_nil ?_
  refine qw_then ?_
  refine cw_seq ?_
  have hX9 : Ext X6 X6 := Ext.refl _
  refine cw_plain ?_
  refine pl_take (.pointer (some ⟨O1, 0, none⟩)) rfl (by kernel_rfl) (by kernel_rfl) (by kernel_rfl) (by kernel_rfl) ?_
  refine pl_take (.int .i64 (x0 : Int)) rfl (by kernel_rfl) (by kernel_rfl) (by kernel_rfl) (ex_load rfl (by kernel_rfl) (ld3 (bO1_0.1))) ?_
  refine pl_step rfl (by kernel_rfl) (by kernel_rfl) (by kernel_rfl) (sn_call (f := 22) (args := #[.int .i64 (x0 : Int), .int .i64 3000]) (by kernel_rfl) ((pick8_n _ (3000) _ i0 (by omega) (by omega)).mono ?_))
  rintro e w' ⟨pk10, rfl, pk10l, -, rfl⟩
  refine ⟨_, rfl, ?_⟩
  refine pl_take (.int .i64 (((pk10 : Nat) : Int) : Int)) rfl (by kernel_rfl) (by kernel_rfl) (by kernel_rfl) (by kernel_rfl) ?_
  refine pl_nil ?_
  refine qw_then ?_
  refine cw_seq ?_
  refine cw_plain ?_
  refine pl_take (.int .i64 (((pk10 : Nat) : Int) : Int)) rfl (by kernel_rfl) (by kernel_rfl) (by kernel_rfl) (by kernel_rfl) ?_
  refine pl_take (.int .i64 (((pk10 : Nat) : Int) : Int)) rfl (by kernel_rfl) (by kernel_rfl) (by kernel_rfl) (by kernel_rfl) ?_
  refine pl_take (.int .i64 (((pk10 + 1 : Nat) : Int) : Int)) rfl (by kernel_rfl) (by kernel_rfl) (by kernel_rfl) (ev_wrap (by kernel_rfl) (by omega) (by omega)) ?_
  refine pl_take (.pointer (some ⟨O1, 1, none⟩)) rfl (by kernel_rfl) (by kernel_rfl) (by kernel_rfl) (by kernel_rfl) ?_
  refine pl_take (.int .i64 (x1 : Int)) rfl (by kernel_rfl) (by kernel_rfl) (by kernel_rfl) (ex_load rfl (by kernel_rfl) (ld3 (bO1_1.1))) ?_
  refine pl_step rfl (by kernel_rfl) (by kernel_rfl) (by kernel_rfl) (sn_call (f := 22) (args := #[.int .i64 (x1 : Int), .int .i64 30]) (by kernel_rfl) ((pick8_n _ (30) _ i1 (by omega) (by omega)).mono ?_))
  rintro e w' ⟨pk11, rfl, pk11l, -, rfl⟩
  refine ⟨_, rfl, ?_⟩
  refine pl_take (.int .i64 ((((pk10 + 1) + pk11 : Nat) : Int) : Int)) rfl (by kernel_rfl) (by kernel_rfl) (by kernel_rfl) (ev_wrap (by kernel_rfl) (by omega) (by omega)) ?_
  refine pl_take (.agg #[.int .i64 (((pk10 : Nat) : Int) : Int), .int .i64 ((((pk10 + 1) + pk11 : Nat) : Int) : Int)]) rfl (by kernel_rfl) (by kernel_rfl) (by kernel_rfl) (by kernel_rfl) ?_
  have bO1_t13 := bO1_0
  have bO1_t14 := bO1_1
  have bO5_t15 := bO5_0
  have bO5_t16 := bO5_1
  refine pl_put rfl (by kernel_rfl) (by kernel_rfl) (sn_set2 (O := O5) (j := 0) (v := .int .i64 (((pk10 : Nat) : Int) : Int)) (v' := .int .i64 ((((pk10 + 1) + pk11 : Nat) : Int) : Int)) (ex_store (p := .pointer (some ⟨O5, 0, none⟩)) (v := .agg #[.int .i64 (((pk10 : Nat) : Int) : Int), .int .i64 ((((pk10 + 1) + pk11 : Nat) : Int) : Int)]) rfl (by kernel_rfl) (by kernel_rfl) (st29 bO5_t15.1 bO5_t15.2 bO5_t16.1 bO5_t16.2)) bO5_t15 bO5_t16 ?_)
  intro X12 ho hv0 hv1 hk
  replace hE := ho.ext hE (Nat.le_trans hs3 (Nat.le_of_eq hzO5))
  replace bO1_t13 := ho.box (Nat.ne_of_gt (Nat.lt_of_lt_of_le lt4 (Nat.le_of_eq hzO5))) bO1_t13
  replace bO1_t14 := ho.box (Nat.ne_of_gt (Nat.lt_of_lt_of_le lt4 (Nat.le_of_eq hzO5))) bO1_t14
  have hs17 : X6.heap.size ≤ X12.heap.size := Nat.le_of_eq ho.size.symm
  clear ho hk bO5_t15 bO5_t16
  have bO5_t15 := hv0; clear hv0
  have bO5_t16 := hv1; clear hv1
  refine pl_nil ?_
  refine qw_then ?_
  refine cw_clean [2] (ws' := [(2, .pointer (some ⟨O5, 0, none⟩))]) (by kernel_rfl) (fun L => ?_)
  refine cw_ret ?_
  refine qw_ret [.agg #[.int .i64 (((pk10 : Nat) : Int) : Int), .int .i64 ((((pk10 + 1) + pk11 : Nat) : Int) : Int)]] rfl ⟨⟨_, by kernel_rfl, res_ld (ld29 (bO5_t15.1) (bO5_t16.1))⟩, trivial⟩ ?_
  exact ⟨(((pk10 : Nat) : Int), (((pk10 + 1) + pk11 : Nat) : Int)), rfl, Swath.spB_t.2 ⟨by simp only []; omega, by simp only []; omega, by simp only []; omega, by simp only []; omega⟩, by simp only []; omega, hE⟩
set_option maxRecDepth 1000000 in
set_option maxHeartbeats 4000000 in
theorem Made7_c (x0 x1 x2 x3 x4 x5 x6 : Int) (w : World) (i0 : IsI x0) (i1 : IsI x1) (i2 : IsI x2) (i3 : IsI x3) (i4 : IsI x4) (i5 : IsI x5) (i6 : IsI x6) : Calls Tryd.prog 5 #[.agg #[.int .i64 x0, .int .i64 x1, .int .i64 x2, .int .i64 x3, .int .i64 x4, .int .i64 x5, .int .i64 x6]] w fun e w' => ∃ o : Orb, e = .returned (.agg #[.int .i64 o.p, .int .i64 o.f, .int .i64 o.lo, .int .i64 o.hi, .int .i64 o.nd, .int .i64 o.tn, .int .i64 o.sl]) ∧ Orb.ok o = true ∧ o.sl ≤ 3 ∧ Ext w w' := by
  refine calls_cw 38 [(0, .agg #[.int .i64 (x0 : Int), .int .i64 (x1 : Int), .int .i64 (x2 : Int), .int .i64 (x3 : Int), .int .i64 (x4 : Int), .int .i64 (x5 : Int), .int .i64 (x6 : Int)])] Tryd.func5 rfl Tryd.ntmps5 (by kernel_rfl) (by kernel_rfl) (fun L => ?_)
  have hE : Ext w w := Ext.refl w
  refine cw_seq ?_
  refine cw_plain ?_
  refine pl_step rfl (by kernel_rfl) (by kernel_rfl) (by kernel_rfl) (sn_new (us := #[.int .i64 (x0 : Int), .int .i64 (x1 : Int), .int .i64 (x2 : Int), .int .i64 (x3 : Int), .int .i64 (x4 : Int), .int .i64 (x5 : Int), .int .i64 (x6 : Int)]) (t := 22) (by kernel_rfl) ?_)
  intro O1 X2 hO hOs hb hbx
  have hzO1 := hO; have hyO1 := hOs; clear hO hOs
  have bO1_0 : BoxAt X2 O1 0 (.int .i64 (x0 : Int)) := hbx 0 _ rfl
  have bO1_1 : BoxAt X2 O1 1 (.int .i64 (x1 : Int)) := hbx 1 _ rfl
  have bO1_2 : BoxAt X2 O1 2 (.int .i64 (x2 : Int)) := hbx 2 _ rfl
  have bO1_3 : BoxAt X2 O1 3 (.int .i64 (x3 : Int)) := hbx 3 _ rfl
  have bO1_4 : BoxAt X2 O1 4 (.int .i64 (x4 : Int)) := hbx 4 _ rfl
  have bO1_5 : BoxAt X2 O1 5 (.int .i64 (x5 : Int)) := hbx 5 _ rfl
  have bO1_6 : BoxAt X2 O1 6 (.int .i64 (x6 : Int)) := hbx 6 _ rfl
  clear hbx
  replace hE := hE.trans hb
  have hs3 := hb.size
  clear hb
  have lt4 := bO1_0.lt
  refine pl_step rfl (by kernel_rfl) (by kernel_rfl) (by kernel_rfl) (sn_new (us := #[.int .i64 0, .int .i64 0, .int .i64 0, .int .i64 0, .int .i64 0, .int .i64 0, .int .i64 0]) (t := 26) (by kernel_rfl) ?_)
  intro O5 X6 hO hOs hb hbx
  have hzO5 := hO; have hyO5 := hOs; clear hO hOs
  have bO5_0 : BoxAt X6 O5 0 (.int .i64 0) := hbx 0 _ rfl
  have bO5_1 : BoxAt X6 O5 1 (.int .i64 0) := hbx 1 _ rfl
  have bO5_2 : BoxAt X6 O5 2 (.int .i64 0) := hbx 2 _ rfl
  have bO5_3 : BoxAt X6 O5 3 (.int .i64 0) := hbx 3 _ rfl
  have bO5_4 : BoxAt X6 O5 4 (.int .i64 0) := hbx 4 _ rfl
  have bO5_5 : BoxAt X6 O5 5 (.int .i64 0) := hbx 5 _ rfl
  have bO5_6 : BoxAt X6 O5 6 (.int .i64 0) := hbx 6 _ rfl
  clear hbx
  replace hE := hE.trans hb
  replace bO1_0 := BoxAt.ext hb bO1_0
  replace bO1_1 := BoxAt.ext hb bO1_1
  replace bO1_2 := BoxAt.ext hb bO1_2
  replace bO1_3 := BoxAt.ext hb bO1_3
  replace bO1_4 := BoxAt.ext hb bO1_4
  replace bO1_5 := BoxAt.ext hb bO1_5
  replace bO1_6 := BoxAt.ext hb bO1_6
  have hs7 := hb.size
  clear hb
  have lt8 := bO5_0.lt
  refine pl_nil ?_
  refine qw_then ?_
  refine cw_seq ?_
  have hX9 : Ext X6 X6 := Ext.refl _
  refine cw_join (fun ws' Y => ∃ pk13 : Nat, ∃ pk14 : Nat, ∃ pk15 : Nat, ∃ pk16 : Nat, ∃ pk17 : Nat, ∃ O18 : Nat, ws' = [(1, .pointer (some ⟨O1, 0, none⟩)), (2, .pointer (some ⟨O5, 0, none⟩)), (3, .pointer (some ⟨O18, 0, none⟩))] ∧ Ext w Y ∧ Ext X6 Y ∧ pk13 < 90 ∧ pk14 < 10000 ∧ pk15 < 48000 ∧ pk16 < 1601 ∧ pk17 < 4 ∧ BoxAt Y O18 0 (.int .i64 (((2 * (10 + pk13) : Nat) : Int) : Int)) ∧ BoxAt Y O18 1 (.int .i64 0) ∧ BoxAt Y O18 2 (.int .i64 (((pk14 : Nat) : Int) : Int)) ∧ BoxAt Y O18 3 (.int .i64 0) ∧ BoxAt Y O18 4 (.int .i64 (((pk15 : Nat) : Int) : Int)) ∧ BoxAt Y O18 5 (.int .i64 ((((pk16 : Nat) : Int)) - 800 : Int)) ∧ BoxAt Y O18 6 (.int .i64 (((pk17 : Nat) : Int) : Int)) ∧ X6.heap.size ≤ Y.heap.size ∧ X6.heap.size ≤ O18) (fun hJ => ?_) ?_
  ·
    refine cw_draw [(some 4, [1], []), (some 5, [4], [0]), (some 6, [5], [1]), (some 7, [6], [2]), (some 8, [7], [3]), (some 9, [1], []), (some 10, [9], [5]), (some 11, [10], [6, 2]), (some 12, [1], []), (some 13, [12], [8]), (some 14, [13], [9, 7]), (some 15, [1], []), (some 16, [15], [11]), (some 17, [16], [12, 10]), (some 18, [17], [13]), (some 19, [1], []), (some 20, [19], [15]), (some 21, [20], [16, 13]), (some 22, [8, 11, 14, 18, 21], [4, 7, 10, 14, 17]), (some 3, [], []), (none, [3, 22], [19, 18, 17, 0, 1, 2, 3, 4, 5, 6, 7, 8, 9, 10, 11, 12, 13, 14, 15, 16, 17, 18, 19])] (fun w' => w'.cell? ⟨O1, 0, none⟩ = some (.int .i64 (x0 : Int)) ∧ w'.cell? ⟨O1, 2, none⟩ = some (.int .i64 (x2 : Int)) ∧ w'.cell? ⟨O1, 4, none⟩ = some (.int .i64 (x4 : Int)) ∧ w'.cell? ⟨O1, 5, none⟩ = some (.int .i64 (x5 : Int)) ∧ w'.cell? ⟨O1, 6, none⟩ = some (.int .i64 (x6 : Int))) (by kernel_rfl) (by kernel_rfl) (by kernel_rfl) (by kernel_rfl) ((calm_then calm_body)) (⟨bO1_0.1, bO1_2.1, bO1_4.1, bO1_5.1, bO1_6.1⟩) (fun ops Q X10 hb hL hR hK => ?_)
    replace hE := hE.trans hb
    replace hX9 := hX9.trans hb
    have hs11 := hb.size
    clear hb
    have hS12 := And.intro ((BoxAt.ext hX9 bO1_0).1) (And.intro ((BoxAt.ext hX9 bO1_2).1) (And.intro ((BoxAt.ext hX9 bO1_4).1) (And.intro ((BoxAt.ext hX9 bO1_5).1) ((BoxAt.ext hX9 bO1_6).1))))
    refine wd_take 0 (.pointer (some ⟨O1, 0, none⟩)) hR rfl (by kernel_rfl) rfl (by kernel_rfl) (fun w _ => by kernel_rfl) (hS12) ?_
    refine wd_take 1 (.int .i64 (x0 : Int)) hR rfl (by kernel_rfl) rfl (by kernel_rfl) (fun w hS => ex_load rfl (by kernel_rfl) (ld3 (hS.1))) (hS12) ?_
    refine wd_take 5 (.pointer (some ⟨O1, 2, none⟩)) hR rfl (by kernel_rfl) rfl (by kernel_rfl) (fun w _ => by kernel_rfl) (hS12) ?_
    refine wd_take 6 (.int .i64 (x2 : Int)) hR rfl (by kernel_rfl) rfl (by kernel_rfl) (fun w hS => ex_load rfl (by kernel_rfl) (ld3 (hS.2.1))) (hS12) ?_
    refine wd_take 8 (.pointer (some ⟨O1, 4, none⟩)) hR rfl (by kernel_rfl) rfl (by kernel_rfl) (fun w _ => by kernel_rfl) (hS12) ?_
    refine wd_take 9 (.int .i64 (x4 : Int)) hR rfl (by kernel_rfl) rfl (by kernel_rfl) (fun w hS => ex_load rfl (by kernel_rfl) (ld3 (hS.2.2.1))) (hS12) ?_
    refine wd_take 11 (.pointer (some ⟨O1, 5, none⟩)) hR rfl (by kernel_rfl) rfl (by kernel_rfl) (fun w _ => by kernel_rfl) (hS12) ?_
    refine wd_take 12 (.int .i64 (x5 : Int)) hR rfl (by kernel_rfl) rfl (by kernel_rfl) (fun w hS => ex_load rfl (by kernel_rfl) (ld3 (hS.2.2.2.1))) (hS12) ?_
    refine wd_take 15 (.pointer (some ⟨O1, 6, none⟩)) hR rfl (by kernel_rfl) rfl (by kernel_rfl) (fun w _ => by kernel_rfl) (hS12) ?_
    refine wd_take 16 (.int .i64 (x6 : Int)) hR rfl (by kernel_rfl) rfl (by kernel_rfl) (fun w hS => ex_load rfl (by kernel_rfl) (ld3 (hS.2.2.2.2))) (hS12) ?_
    refine wd_two 2 19 hR rfl rfl (by kernel_rfl) (by kernel_rfl) (by kernel_rfl) (by kernel_rfl) ?_ ?_
    ·
      refine sn_call (f := 21) (args := #[.int .i64 (x0 : Int), .int .i64 90]) (by kernel_rfl) ((pick7_n _ (90) _ i0 (by omega) (by omega)).mono ?_)
      rintro e w' ⟨pk13, rfl, pk13l, -, rfl⟩
      refine ⟨_, rfl, hS12, ?_⟩
      refine wd_take 3 (.int .i64 (((10 + pk13 : Nat) : Int) : Int)) hR rfl (by kernel_rfl) rfl (by kernel_rfl) (fun w _ => ev_wrap (by kernel_rfl) (by omega) (by omega)) (hS12) ?_
      refine wd_take 4 (.int .i64 (((2 * (10 + pk13) : Nat) : Int) : Int)) hR rfl (by kernel_rfl) rfl (by kernel_rfl) (fun w _ => ev_wrap (by kernel_rfl) (by omega) (by omega)) (hS12) ?_
      refine wd_two 7 19 hR rfl rfl (by kernel_rfl) (by kernel_rfl) (by kernel_rfl) (by kernel_rfl) ?_ ?_
      ·
        refine sn_call (f := 21) (args := #[.int .i64 (x2 : Int), .int .i64 10000]) (by kernel_rfl) ((pick7_n _ (10000) _ i2 (by omega) (by omega)).mono ?_)
        rintro e w' ⟨pk14, rfl, pk14l, -, rfl⟩
        refine ⟨_, rfl, hS12, ?_⟩
        refine wd_two 10 19 hR rfl rfl (by kernel_rfl) (by kernel_rfl) (by kernel_rfl) (by kernel_rfl) ?_ ?_
        ·
          refine sn_call (f := 21) (args := #[.int .i64 (x4 : Int), .int .i64 48000]) (by kernel_rfl) ((pick7_n _ (48000) _ i4 (by omega) (by omega)).mono ?_)
          rintro e w' ⟨pk15, rfl, pk15l, -, rfl⟩
          refine ⟨_, rfl, hS12, ?_⟩
          refine wd_two 13 19 hR rfl rfl (by kernel_rfl) (by kernel_rfl) (by kernel_rfl) (by kernel_rfl) ?_ ?_
          ·
            refine sn_call (f := 21) (args := #[.int .i64 (x5 : Int), .int .i64 1601]) (by kernel_rfl) ((pick7_n _ (1601) _ i5 (by omega) (by omega)).mono ?_)
            rintro e w' ⟨pk16, rfl, pk16l, -, rfl⟩
            refine ⟨_, rfl, hS12, ?_⟩
            refine wd_take 14 (.int .i64 ((((pk16 : Nat) : Int)) - 800 : Int)) hR rfl (by kernel_rfl) rfl (by kernel_rfl) (fun w _ => ev_wrap (by kernel_rfl) (by omega) (by omega)) (hS12) ?_
            refine wd_two 17 19 hR rfl rfl (by kernel_rfl) (by kernel_rfl) (by kernel_rfl) (by kernel_rfl) ?_ ?_
            ·
              refine sn_call (f := 21) (args := #[.int .i64 (x6 : Int), .int .i64 4]) (by kernel_rfl) ((pick7_n _ (4) _ i6 (by omega) (by omega)).mono ?_)
              rintro e w' ⟨pk17, rfl, pk17l, -, rfl⟩
              refine ⟨_, rfl, hS12, ?_⟩
              refine wd_take 18 (.agg #[.int .i64 (((2 * (10 + pk13) : Nat) : Int) : Int), .int .i64 0, .int .i64 (((pk14 : Nat) : Int) : Int), .int .i64 0, .int .i64 (((pk15 : Nat) : Int) : Int), .int .i64 ((((pk16 : Nat) : Int)) - 800 : Int), .int .i64 (((pk17 : Nat) : Int) : Int)]) hR rfl (by kernel_rfl) rfl (by kernel_rfl) (fun w _ => by kernel_rfl) (hS12) ?_
              refine wd_step 19 hR rfl (by kernel_rfl) (by kernel_rfl) (by kernel_rfl) (sn_new (us := #[.int .i64 0, .int .i64 0, .int .i64 0, .int .i64 0, .int .i64 0, .int .i64 0, .int .i64 0]) (t := 26) (by kernel_rfl) ?_)
              intro O18 X19 hO hOs hb hbx
              have hzO18 := hO; have hyO18 := hOs; clear hO hOs
              have bO18_0 : BoxAt X19 O18 0 (.int .i64 0) := hbx 0 _ rfl
              have bO18_1 : BoxAt X19 O18 1 (.int .i64 0) := hbx 1 _ rfl
              have bO18_2 : BoxAt X19 O18 2 (.int .i64 0) := hbx 2 _ rfl
              have bO18_3 : BoxAt X19 O18 3 (.int .i64 0) := hbx 3 _ rfl
              have bO18_4 : BoxAt X19 O18 4 (.int .i64 0) := hbx 4 _ rfl
              have bO18_5 : BoxAt X19 O18 5 (.int .i64 0) := hbx 5 _ rfl
              have bO18_6 : BoxAt X19 O18 6 (.int .i64 0) := hbx 6 _ rfl
              clear hbx
              replace hE := hE.trans hb
              replace hX9 := hX9.trans hb
              have hs20 := hb.size
              clear hb
              have lt21 := bO18_0.lt
              have hS22 := And.intro ((BoxAt.ext hX9 bO1_0).1) (And.intro ((BoxAt.ext hX9 bO1_2).1) (And.intro ((BoxAt.ext hX9 bO1_4).1) (And.intro ((BoxAt.ext hX9 bO1_5).1) ((BoxAt.ext hX9 bO1_6).1))))
              refine ⟨hS22, ?_⟩
              refine wd_step 20 hR rfl (by kernel_rfl) (by kernel_rfl) (by kernel_rfl) (sn_setK7 (O := O18) (j := 0) (v0 := .int .i64 (((2 * (10 + pk13) : Nat) : Int) : Int)) (v1 := .int .i64 0) (v2 := .int .i64 (((pk14 : Nat) : Int) : Int)) (v3 := .int .i64 0) (v4 := .int .i64 (((pk15 : Nat) : Int) : Int)) (v5 := .int .i64 ((((pk16 : Nat) : Int)) - 800 : Int)) (v6 := .int .i64 (((pk17 : Nat) : Int) : Int)) (ex_store (p := .pointer (some ⟨O18, 0, none⟩)) (v := .agg #[.int .i64 (((2 * (10 + pk13) : Nat) : Int) : Int), .int .i64 0, .int .i64 (((pk14 : Nat) : Int) : Int), .int .i64 0, .int .i64 (((pk15 : Nat) : Int) : Int), .int .i64 ((((pk16 : Nat) : Int)) - 800 : Int), .int .i64 (((pk17 : Nat) : Int) : Int)]) rfl (by kernel_rfl) (by kernel_rfl) (st26 bO18_0.1 bO18_0.2 bO18_1.1 bO18_1.2 bO18_2.1 bO18_2.2 bO18_3.1 bO18_3.2 bO18_4.1 bO18_4.2 bO18_5.1 bO18_5.2 bO18_6.1 bO18_6.2)) bO18_0 bO18_1 bO18_2 bO18_3 bO18_4 bO18_5 bO18_6 ?_)
              intro X23 ho hv0 hv1 hv2 hv3 hv4 hv5 hv6 hk
              replace hE := ho.ext hE (Nat.le_trans (Nat.le_trans hs3 (Nat.le_trans hs7 hs11)) (Nat.le_of_eq hzO18))
              replace hX9 := ho.ext hX9 (Nat.le_trans hs11 (Nat.le_of_eq hzO18))
              have hs24 : X19.heap.size ≤ X23.heap.size := Nat.le_of_eq ho.size.symm
              clear ho hk bO18_0 bO18_1 bO18_2 bO18_3 bO18_4 bO18_5 bO18_6
              have bO18_0 := hv0; clear hv0
              have bO18_1 := hv1; clear hv1
              have bO18_2 := hv2; clear hv2
              have bO18_3 := hv3; clear hv3
              have bO18_4 := hv4; clear hv4
              have bO18_5 := hv5; clear hv5
              have bO18_6 := hv6; clear hv6
              have hS25 := And.intro ((BoxAt.ext hX9 bO1_0).1) (And.intro ((BoxAt.ext hX9 bO1_2).1) (And.intro ((BoxAt.ext hX9 bO1_4).1) (And.intro ((BoxAt.ext hX9 bO1_5).1) ((BoxAt.ext hX9 bO1_6).1))))
              refine ⟨hS25, ?_⟩
              refine wd_end hL hR hK (by kernel_rfl) ?_
              exact qw_leaf hJ [1, 2, 3] (ws' := [(1, .pointer (some ⟨O1, 0, none⟩)), (2, .pointer (some ⟨O5, 0, none⟩)), (3, .pointer (some ⟨O18, 0, none⟩))]) (by kernel_rfl) ⟨pk13, pk14, pk15, pk16, pk17, O18, rfl, hE, hX9, pk13l, pk14l, pk15l, pk16l, pk17l, bO18_0, bO18_1, bO18_2, bO18_3, bO18_4, bO18_5, bO18_6, (Nat.le_trans hs11 (Nat.le_trans hs20 hs24)), (Nat.le_trans hs11 (Nat.le_of_eq hzO18))⟩
            ·
              refine sn_new (us := #[.int .i64 0, .int .i64 0, .int .i64 0, .int .i64 0, .int .i64 0, .int .i64 0, .int .i64 0]) (t := 26) (by kernel_rfl) ?_
              intro O26 X27 hO hOs hb hbx
              have hzO26 := hO; have hyO26 := hOs; clear hO hOs
              have bO26_0 : BoxAt X27 O26 0 (.int .i64 0) := hbx 0 _ rfl
              have bO26_1 : BoxAt X27 O26 1 (.int .i64 0) := hbx 1 _ rfl
              have bO26_2 : BoxAt X27 O26 2 (.int .i64 0) := hbx 2 _ rfl
              have bO26_3 : BoxAt X27 O26 3 (.int .i64 0) := hbx 3 _ rfl
              have bO26_4 : BoxAt X27 O26 4 (.int .i64 0) := hbx 4 _ rfl
              have bO26_5 : BoxAt X27 O26 5 (.int .i64 0) := hbx 5 _ rfl
              have bO26_6 : BoxAt X27 O26 6 (.int .i64 0) := hbx 6 _ rfl
              clear hbx
              replace hE := hE.trans hb
              replace hX9 := hX9.trans hb
              have hs28 := hb.size
              clear hb
              have lt29 := bO26_0.lt
              have hS30 := And.intro ((BoxAt.ext hX9 bO1_0).1) (And.intro ((BoxAt.ext hX9 bO1_2).1) (And.intro ((BoxAt.ext hX9 bO1_4).1) (And.intro ((BoxAt.ext hX9 bO1_5).1) ((BoxAt.ext hX9 bO1_6).1))))
              refine ⟨hS30, ?_⟩
              refine wd_step 17 hR rfl (by kernel_rfl) (by kernel_rfl) (by kernel_rfl) (sn_call (f := 21) (args := #[.int .i64 (x6 : Int), .int .i64 4]) (by kernel_rfl) ((pick7_n _ (4) _ i6 (by omega) (by omega)).mono ?_))
              rintro e w' ⟨pk31, rfl, pk31l, -, rfl⟩
              refine ⟨_, rfl, hS30, ?_⟩
              refine wd_take 18 (.agg #[.int .i64 (((2 * (10 + pk13) : Nat) : Int) : Int), .int .i64 0, .int .i64 (((pk14 : Nat) : Int) : Int), .int .i64 0, .int .i64 (((pk15 : Nat) : Int) : Int), .int .i64 ((((pk16 : Nat) : Int)) - 800 : Int), .int .i64 (((pk31 : Nat) : Int) : Int)]) hR rfl (by kernel_rfl) rfl (by kernel_rfl) (fun w _ => by kernel_rfl) (hS30) ?_
              refine wd_step 20 hR rfl (by kernel_rfl) (by kernel_rfl) (by kernel_rfl) (sn_setK7 (O := O26) (j := 0) (v0 := .int .i64 (((2 * (10 + pk13) : Nat) : Int) : Int)) (v1 := .int .i64 0) (v2 := .int .i64 (((pk14 : Nat) : Int) : Int)) (v3 := .int .i64 0) (v4 := .int .i64 (((pk15 : Nat) : Int) : Int)) (v5 := .int .i64 ((((pk16 : Nat) : Int)) - 800 : Int)) (v6 := .int .i64 (((pk31 : Nat) : Int) : Int)) (ex_store (p := .pointer (some ⟨O26, 0, none⟩)) (v := .agg #[.int .i64 (((2 * (10 + pk13) : Nat) : Int) : Int), .int .i64 0, .int .i64 (((pk14 : Nat) : Int) : Int), .int .i64 0, .int .i64 (((pk15 : Nat) : Int) : Int), .int .i64 ((((pk16 : Nat) : Int)) - 800 : Int), .int .i64 (((pk31 : Nat) : Int) : Int)]) rfl (by kernel_rfl) (by kernel_rfl) (st26 bO26_0.1 bO26_0.2 bO26_1.1 bO26_1.2 bO26_2.1 bO26_2.2 bO26_3.1 bO26_3.2 bO26_4.1 bO26_4.2 bO26_5.1 bO26_5.2 bO26_6.1 bO26_6.2)) bO26_0 bO26_1 bO26_2 bO26_3 bO26_4 bO26_5 bO26_6 ?_)
              intro X32 ho hv0 hv1 hv2 hv3 hv4 hv5 hv6 hk
              replace hE := ho.ext hE (Nat.le_trans (Nat.le_trans hs3 (Nat.le_trans hs7 hs11)) (Nat.le_of_eq hzO26))
              replace hX9 := ho.ext hX9 (Nat.le_trans hs11 (Nat.le_of_eq hzO26))
              have hs33 : X27.heap.size ≤ X32.heap.size := Nat.le_of_eq ho.size.symm
              clear ho hk bO26_0 bO26_1 bO26_2 bO26_3 bO26_4 bO26_5 bO26_6
              have bO26_0 := hv0; clear hv0
              have bO26_1 := hv1; clear hv1
              have bO26_2 := hv2; clear hv2
              have bO26_3 := hv3; clear hv3
              have bO26_4 := hv4; clear hv4
              have bO26_5 := hv5; clear hv5
              have bO26_6 := hv6; clear hv6
              have hS34 := And.intro ((BoxAt.ext hX9 bO1_0).1) (And.intro ((BoxAt.ext hX9 bO1_2).1) (And.intro ((BoxAt.ext hX9 bO1_4).1) (And.intro ((BoxAt.ext hX9 bO1_5).1) ((BoxAt.ext hX9 bO1_6).1))))
              refine ⟨hS34, ?_⟩
              refine wd_end hL hR hK (by kernel_rfl) ?_
              exact qw_leaf hJ [1, 2, 3] (ws' := [(1, .pointer (some ⟨O1, 0, none⟩)), (2, .pointer (some ⟨O5, 0, none⟩)), (3, .pointer (some ⟨O26, 0, none⟩))]) (by kernel_rfl) ⟨pk13, pk14, pk15, pk16, pk31, O26, rfl, hE, hX9, pk13l, pk14l, pk15l, pk16l, pk31l, bO26_0, bO26_1, bO26_2, bO26_3, bO26_4, bO26_5, bO26_6, (Nat.le_trans hs11 (Nat.le_trans hs28 hs33)), (Nat.le_trans hs11 (Nat.le_of_eq hzO26))⟩
          ·
            refine sn_new (us := #[.int .i64 0, .int .i64 0, .int .i64 0, .int .i64 0, .int .i64 0, .int .i64 0, .int .i64 0]) (t := 26) (by kernel_rfl) ?_
            intro O35 X36 hO hOs hb hbx
            have hzO35 := hO; have hyO35 := hOs; clear hO hOs
            have bO35_0 : BoxAt X36 O35 0 (.int .i64 0) := hbx 0 _ rfl
            have bO35_1 : BoxAt X36 O35 1 (.int .i64 0) := hbx 1 _ rfl
            have bO35_2 : BoxAt X36 O35 2 (.int .i64 0) := hbx 2 _ rfl
            have bO35_3 : BoxAt X36 O35 3 (.int .i64 0) := hbx 3 _ rfl
            have bO35_4 : BoxAt X36 O35 4 (.int .i64 0) := hbx 4 _ rfl
            have bO35_5 : BoxAt X36 O35 5 (.int .i64 0) := hbx 5 _ rfl
            have bO35_6 : BoxAt X36 O35 6 (.int .i64 0) := hbx 6 _ rfl
            clear hbx
            replace hE := hE.trans hb
            replace hX9 := hX9.trans hb
            have hs37 := hb.size
            clear hb
            have lt38 := bO35_0.lt
            have hS39 := And.intro ((BoxAt.ext hX9 bO1_0).1) (And.intro ((BoxAt.ext hX9 bO1_2).1) (And.intro ((BoxAt.ext hX9 bO1_4).1) (And.intro ((BoxAt.ext hX9 bO1_5).1) ((BoxAt.ext hX9 bO1_6).1))))
            refine ⟨hS39, ?_⟩
            refine wd_step 13 hR rfl (by kernel_rfl) (by kernel_rfl) (by kernel_rfl) (sn_call (f := 21) (args := #[.int .i64 (x5 : Int), .int .i64 1601]) (by kernel_rfl) ((pick7_n _ (1601) _ i5 (by omega) (by omega)).mono ?_))
            rintro e w' ⟨pk40, rfl, pk40l, -, rfl⟩
            refine ⟨_, rfl, hS39, ?_⟩
            refine wd_take 14 (.int .i64 ((((pk40 : Nat) : Int)) - 800 : Int)) hR rfl (by kernel_rfl) rfl (by kernel_rfl) (fun w _ => ev_wrap (by kernel_rfl) (by omega) (by omega)) (hS39) ?_
            refine wd_step 17 hR rfl (by kernel_rfl) (by kernel_rfl) (by kernel_rfl) (sn_call (f := 21) (args := #[.int .i64 (x6 : Int), .int .i64 4]) (by kernel_rfl) ((pick7_n _ (4) _ i6 (by omega) (by omega)).mono ?_))
            rintro e w' ⟨pk41, rfl, pk41l, -, rfl⟩
            refine ⟨_, rfl, hS39, ?_⟩
            refine wd_take 18 (.agg #[.int .i64 (((2 * (10 + pk13) : Nat) : Int) : Int), .int .i64 0, .int .i64 (((pk14 : Nat) : Int) : Int), .int .i64 0, .int .i64 (((pk15 : Nat) : Int) : Int), .int .i64 ((((pk40 : Nat) : Int)) - 800 : Int), .int .i64 (((pk41 : Nat) : Int) : Int)]) hR rfl (by kernel_rfl) rfl (by kernel_rfl) (fun w _ => by kernel_rfl) (hS39) ?_
            refine wd_step 20 hR rfl (by kernel_rfl) (by kernel_rfl) (by kernel_rfl) (sn_setK7 (O := O35) (j := 0) (v0 := .int .i64 (((2 * (10 + pk13) : Nat) : Int) : Int)) (v1 := .int .i64 0) (v2 := .int .i64 (((pk14 : Nat) : Int) : Int)) (v3 := .int .i64 0) (v4 := .int .i64 (((pk15 : Nat) : Int) : Int)) (v5 := .int .i64 ((((pk40 : Nat) : Int)) - 800 : Int)) (v6 := .int .i64 (((pk41 : Nat) : Int) : Int)) (ex_store (p := .pointer (some ⟨O35, 0, none⟩)) (v := .agg #[.int .i64 (((2 * (10 + pk13) : Nat) : Int) : Int), .int .i64 0, .int .i64 (((pk14 : Nat) : Int) : Int), .int .i64 0, .int .i64 (((pk15 : Nat) : Int) : Int), .int .i64 ((((pk40 : Nat) : Int)) - 800 : Int), .int .i64 (((pk41 : Nat) : Int) : Int)]) rfl (by kernel_rfl) (by kernel_rfl) (st26 bO35_0.1 bO35_0.2 bO35_1.1 bO35_1.2 bO35_2.1 bO35_2.2 bO35_3.1 bO35_3.2 bO35_4.1 bO35_4.2 bO35_5.1 bO35_5.2 bO35_6.1 bO35_6.2)) bO35_0 bO35_1 bO35_2 bO35_3 bO35_4 bO35_5 bO35_6 ?_)
            intro X42 ho hv0 hv1 hv2 hv3 hv4 hv5 hv6 hk
            replace hE := ho.ext hE (Nat.le_trans (Nat.le_trans hs3 (Nat.le_trans hs7 hs11)) (Nat.le_of_eq hzO35))
            replace hX9 := ho.ext hX9 (Nat.le_trans hs11 (Nat.le_of_eq hzO35))
            have hs43 : X36.heap.size ≤ X42.heap.size := Nat.le_of_eq ho.size.symm
            clear ho hk bO35_0 bO35_1 bO35_2 bO35_3 bO35_4 bO35_5 bO35_6
            have bO35_0 := hv0; clear hv0
            have bO35_1 := hv1; clear hv1
            have bO35_2 := hv2; clear hv2
            have bO35_3 := hv3; clear hv3
            have bO35_4 := hv4; clear hv4
            have bO35_5 := hv5; clear hv5
            have bO35_6 := hv6; clear hv6
            have hS44 := And.intro ((BoxAt.ext hX9 bO1_0).1) (And.intro ((BoxAt.ext hX9 bO1_2).1) (And.intro ((BoxAt.ext hX9 bO1_4).1) (And.intro ((BoxAt.ext hX9 bO1_5).1) ((BoxAt.ext hX9 bO1_6).1))))
            refine ⟨hS44, ?_⟩
            refine wd_end hL hR hK (by kernel_rfl) ?_
            exact qw_leaf hJ [1, 2, 3] (ws' := [(1, .pointer (some ⟨O1, 0, none⟩)), (2, .pointer (some ⟨O5, 0, none⟩)), (3, .pointer (some ⟨O35, 0, none⟩))]) (by kernel_rfl) ⟨pk13, pk14, pk15, pk40, pk41, O35, rfl, hE, hX9, pk13l, pk14l, pk15l, pk40l, pk41l, bO35_0, bO35_1, bO35_2, bO35_3, bO35_4, bO35_5, bO35_6, (Nat.le_trans hs11 (Nat.le_trans hs37 hs43)), (Nat.le_trans hs11 (Nat.le_of_eq hzO35))⟩
        ·
          refine sn_new (us := #[.int .i64 0, .int .i64 0, .int .i64 0, .int .i64 0, .int .i64 0, .int .i64 0, .int .i64 0]) (t := 26) (by kernel_rfl) ?_
          intro O45 X46 hO hOs hb hbx
          have hzO45 := hO; have hyO45 := hOs; clear hO hOs
          have bO45_0 : BoxAt X46 O45 0 (.int .i64 0) := hbx 0 _ rfl
          have bO45_1 : BoxAt X46 O45 1 (.int .i64 0) := hbx 1 _ rfl
          have bO45_2 : BoxAt X46 O45 2 (.int .i64 0) := hbx 2 _ rfl
          have bO45_3 : BoxAt X46 O45 3 (.int .i64 0) := hbx 3 _ rfl
          have bO45_4 : BoxAt X46 O45 4 (.int .i64 0) := hbx 4 _ rfl
          have bO45_5 : BoxAt X46 O45 5 (.int .i64 0) := hbx 5 _ rfl
          have bO45_6 : BoxAt X46 O45 6 (.int .i64 0) := hbx 6 _ rfl
          clear hbx
          replace hE := hE.trans hb
          replace hX9 := hX9.trans hb
          have hs47 := hb.size
          clear hb
          have lt48 := bO45_0.lt
          have hS49 := And.intro ((BoxAt.ext hX9 bO1_0).1) (And.intro ((BoxAt.ext hX9 bO1_2).1) (And.intro ((BoxAt.ext hX9 bO1_4).1) (And.intro ((BoxAt.ext hX9 bO1_5).1) ((BoxAt.ext hX9 bO1_6).1))))
          refine ⟨hS49, ?_⟩
          refine wd_step 10 hR rfl (by kernel_rfl) (by kernel_rfl) (by kernel_rfl) (sn_call (f := 21) (args := #[.int .i64 (x4 : Int), .int .i64 48000]) (by kernel_rfl) ((pick7_n _ (48000) _ i4 (by omega) (by omega)).mono ?_))
          rintro e w' ⟨pk50, rfl, pk50l, -, rfl⟩
          refine ⟨_, rfl, hS49, ?_⟩
          refine wd_step 13 hR rfl (by kernel_rfl) (by kernel_rfl) (by kernel_rfl) (sn_call (f := 21) (args := #[.int .i64 (x5 : Int), .int .i64 1601]) (by kernel_rfl) ((pick7_n _ (1601) _ i5 (by omega) (by omega)).mono ?_))
          rintro e w' ⟨pk51, rfl, pk51l, -, rfl⟩
          refine ⟨_, rfl, hS49, ?_⟩
          refine wd_take 14 (.int .i64 ((((pk51 : Nat) : Int)) - 800 : Int)) hR rfl (by kernel_rfl) rfl (by kernel_rfl) (fun w _ => ev_wrap (by kernel_rfl) (by omega) (by omega)) (hS49) ?_
          refine wd_step 17 hR rfl (by kernel_rfl) (by kernel_rfl) (by kernel_rfl) (sn_call (f := 21) (args := #[.int .i64 (x6 : Int), .int .i64 4]) (by kernel_rfl) ((pick7_n _ (4) _ i6 (by omega) (by omega)).mono ?_))
          rintro e w' ⟨pk52, rfl, pk52l, -, rfl⟩
          refine ⟨_, rfl, hS49, ?_⟩
          refine wd_take 18 (.agg #[.int .i64 (((2 * (10 + pk13) : Nat) : Int) : Int), .int .i64 0, .int .i64 (((pk14 : Nat) : Int) : Int), .int .i64 0, .int .i64 (((pk50 : Nat) : Int) : Int), .int .i64 ((((pk51 : Nat) : Int)) - 800 : Int), .int .i64 (((pk52 : Nat) : Int) : Int)]) hR rfl (by kernel_rfl) rfl (by kernel_rfl) (fun w _ => by kernel_rfl) (hS49) ?_
          refine wd_step 20 hR rfl (by kernel_rfl) (by kernel_rfl) (by kernel_rfl) (sn_setK7 (O := O45) (j := 0) (v0 := .int .i64 (((2 * (10 + pk13) : Nat) : Int) : Int)) (v1 := .int .i64 0) (v2 := .int .i64 (((pk14 : Nat) : Int) : Int)) (v3 := .int .i64 0) (v4 := .int .i64 (((pk50 : Nat) : Int) : Int)) (v5 := .int .i64 ((((pk51 : Nat) : Int)) - 800 : Int)) (v6 := .int .i64 (((pk52 : Nat) : Int) : Int)) (ex_store (p := .pointer (some ⟨O45, 0, none⟩)) (v := .agg #[.int .i64 (((2 * (10 + pk13) : Nat) : Int) : Int), .int .i64 0, .int .i64 (((pk14 : Nat) : Int) : Int), .int .i64 0, .int .i64 (((pk50 : Nat) : Int) : Int), .int .i64 ((((pk51 : Nat) : Int)) - 800 : Int), .int .i64 (((pk52 : Nat) : Int) : Int)]) rfl (by kernel_rfl) (by kernel_rfl) (st26 bO45_0.1 bO45_0.2 bO45_1.1 bO45_1.2 bO45_2.1 bO45_2.2 bO45_3.1 bO45_3.2 bO45_4.1 bO45_4.2 bO45_5.1 bO45_5.2 bO45_6.1 bO45_6.2)) bO45_0 bO45_1 bO45_2 bO45_3 bO45_4 bO45_5 bO45_6 ?_)
          intro X53 ho hv0 hv1 hv2 hv3 hv4 hv5 hv6 hk
          replace hE := ho.ext hE (Nat.le_trans (Nat.le_trans hs3 (Nat.le_trans hs7 hs11)) (Nat.le_of_eq hzO45))
          replace hX9 := ho.ext hX9 (Nat.le_trans hs11 (Nat.le_of_eq hzO45))
          have hs54 : X46.heap.size ≤ X53.heap.size := Nat.le_of_eq ho.size.symm
          clear ho hk bO45_0 bO45_1 bO45_2 bO45_3 bO45_4 bO45_5 bO45_6
          have bO45_0 := hv0; clear hv0
          have bO45_1 := hv1; clear hv1
          have bO45_2 := hv2; clear hv2
          have bO45_3 := hv3; clear hv3
          have bO45_4 := hv4; clear hv4
          have bO45_5 := hv5; clear hv5
          have bO45_6 := hv6; clear hv6
          have hS55 := And.intro ((BoxAt.ext hX9 bO1_0).1) (And.intro ((BoxAt.ext hX9 bO1_2).1) (And.intro ((BoxAt.ext hX9 bO1_4).1) (And.intro ((BoxAt.ext hX9 bO1_5).1) ((BoxAt.ext hX9 bO1_6).1))))
          refine ⟨hS55, ?_⟩
          refine wd_end hL hR hK (by kernel_rfl) ?_
          exact qw_leaf hJ [1, 2, 3] (ws' := [(1, .pointer (some ⟨O1, 0, none⟩)), (2, .pointer (some ⟨O5, 0, none⟩)), (3, .pointer (some ⟨O45, 0, none⟩))]) (by kernel_rfl) ⟨pk13, pk14, pk50, pk51, pk52, O45, rfl, hE, hX9, pk13l, pk14l, pk50l, pk51l, pk52l, bO45_0, bO45_1, bO45_2, bO45_3, bO45_4, bO45_5, bO45_6, (Nat.le_trans hs11 (Nat.le_trans hs47 hs54)), (Nat.le_trans hs11 (Nat.le_of_eq hzO45))⟩
      ·
        refine sn_new (us := #[.int .i64 0, .int .i64 0, .int .i64 0, .int .i64 0, .int .i64 0, .int .i64 0, .int .i64 0]) (t := 26) (by kernel_rfl) ?_
        intro O56 X57 hO hOs hb hbx
        have hzO56 := hO; have hyO56 := hOs; clear hO hOs
        have bO56_0 : BoxAt X57 O56 0 (.int .i64 0) := hbx 0 _ rfl
        have bO56_1 : BoxAt X57 O56 1 (.int .i64 0) := hbx 1 _ rfl
        have bO56_2 : BoxAt X57 O56 2 (.int .i64 0) := hbx 2 _ rfl
        have bO56_3 : BoxAt X57 O56 3 (.int .i64 0) := hbx 3 _ rfl
        have bO56_4 : BoxAt X57 O56 4 (.int .i64 0) := hbx 4 _ rfl
        have bO56_5 : BoxAt X57 O56 5 (.int .i64 0) := hbx 5 _ rfl
        have bO56_6 : BoxAt X57 O56 6 (.int .i64 0) := hbx 6 _ rfl
        clear hbx
        replace hE := hE.trans hb
        replace hX9 := hX9.trans hb
        have hs58 := hb.size
        clear hb
        have lt59 := bO56_0.lt
        have hS60 := And.intro ((BoxAt.ext hX9 bO1_0).1) (And.intro ((BoxAt.ext hX9 bO1_2).1) (And.intro ((BoxAt.ext hX9 bO1_4).1) (And.intro ((BoxAt.ext hX9 bO1_5).1) ((BoxAt.ext hX9 bO1_6).1))))
        refine ⟨hS60, ?_⟩
        refine wd_step 7 hR rfl (by kernel_rfl) (by kernel_rfl) (by kernel_rfl) (sn_call (f := 21) (args := #[.int .i64 (x2 : Int), .int .i64 10000]) (by kernel_rfl) ((pick7_n _ (10000) _ i2 (by omega) (by omega)).mono ?_))
        rintro e w' ⟨pk61, rfl, pk61l, -, rfl⟩
        refine ⟨_, rfl, hS60, ?_⟩
        refine wd_step 10 hR rfl (by kernel_rfl) (by kernel_rfl) (by kernel_rfl) (sn_call (f := 21) (args := #[.int .i64 (x4 : Int), .int .i64 48000]) (by kernel_rfl) ((pick7_n _ (48000) _ i4 (by omega) (by omega)).mono ?_))
        rintro e w' ⟨pk62, rfl, pk62l, -, rfl⟩
        refine ⟨_, rfl, hS60, ?_⟩
        refine wd_step 13 hR rfl (by kernel_rfl) (by kernel_rfl) (by kernel_rfl) (sn_call (f := 21) (args := #[.int .i64 (x5 : Int), .int .i64 1601]) (by kernel_rfl) ((pick7_n _ (1601) _ i5 (by omega) (by omega)).mono ?_))
        rintro e w' ⟨pk63, rfl, pk63l, -, rfl⟩
        refine ⟨_, rfl, hS60, ?_⟩
        refine wd_take 14 (.int .i64 ((((pk63 : Nat) : Int)) - 800 : Int)) hR rfl (by kernel_rfl) rfl (by kernel_rfl) (fun w _ => ev_wrap (by kernel_rfl) (by omega) (by omega)) (hS60) ?_
        refine wd_step 17 hR rfl (by kernel_rfl) (by kernel_rfl) (by kernel_rfl) (sn_call (f := 21) (args := #[.int .i64 (x6 : Int), .int .i64 4]) (by kernel_rfl) ((pick7_n _ (4) _ i6 (by omega) (by omega)).mono ?_))
        rintro e w' ⟨pk64, rfl, pk64l, -, rfl⟩
        refine ⟨_, rfl, hS60, ?_⟩
        refine wd_take 18 (.agg #[.int .i64 (((2 * (10 + pk13) : Nat) : Int) : Int), .int .i64 0, .int .i64 (((pk61 : Nat) : Int) : Int), .int .i64 0, .int .i64 (((pk62 : Nat) : Int) : Int), .int .i64 ((((pk63 : Nat) : Int)) - 800 : Int), .int .i64 (((pk64 : Nat) : Int) : Int)]) hR rfl (by kernel_rfl) rfl (by kernel_rfl) (fun w _ => by kernel_rfl) (hS60) ?_
        refine wd_step 20 hR rfl (by kernel_rfl) (by kernel_rfl) (by kernel_rfl) (sn_setK7 (O := O56) (j := 0) (v0 := .int .i64 (((2 * (10 + pk13) : Nat) : Int) : Int)) (v1 := .int .i64 0) (v2 := .int .i64 (((pk61 : Nat) : Int) : Int)) (v3 := .int .i64 0) (v4 := .int .i64 (((pk62 : Nat) : Int) : Int)) (v5 := .int .i64 ((((pk63 : Nat) : Int)) - 800 : Int)) (v6 := .int .i64 (((pk64 : Nat) : Int) : Int)) (ex_store (p := .pointer (some ⟨O56, 0, none⟩)) (v := .agg #[.int .i64 (((2 * (10 + pk13) : Nat) : Int) : Int), .int .i64 0, .int .i64 (((pk61 : Nat) : Int) : Int), .int .i64 0, .int .i64 (((pk62 : Nat) : Int) : Int), .int .i64 ((((pk63 : Nat) : Int)) - 800 : Int), .int .i64 (((pk64 : Nat) : Int) : Int)]) rfl (by kernel_rfl) (by kernel_rfl) (st26 bO56_0.1 bO56_0.2 bO56_1.1 bO56_1.2 bO56_2.1 bO56_2.2 bO56_3.1 bO56_3.2 bO56_4.1 bO56_4.2 bO56_5.1 bO56_5.2 bO56_6.1 bO56_6.2)) bO56_0 bO56_1 bO56_2 bO56_3 bO56_4 bO56_5 bO56_6 ?_)
        intro X65 ho hv0 hv1 hv2 hv3 hv4 hv5 hv6 hk
        replace hE := ho.ext hE (Nat.le_trans (Nat.le_trans hs3 (Nat.le_trans hs7 hs11)) (Nat.le_of_eq hzO56))
        replace hX9 := ho.ext hX9 (Nat.le_trans hs11 (Nat.le_of_eq hzO56))
        have hs66 : X57.heap.size ≤ X65.heap.size := Nat.le_of_eq ho.size.symm
        clear ho hk bO56_0 bO56_1 bO56_2 bO56_3 bO56_4 bO56_5 bO56_6
        have bO56_0 := hv0; clear hv0
        have bO56_1 := hv1; clear hv1
        have bO56_2 := hv2; clear hv2
        have bO56_3 := hv3; clear hv3
        have bO56_4 := hv4; clear hv4
        have bO56_5 := hv5; clear hv5
        have bO56_6 := hv6; clear hv6
        have hS67 := And.intro ((BoxAt.ext hX9 bO1_0).1) (And.intro ((BoxAt.ext hX9 bO1_2).1) (And.intro ((BoxAt.ext hX9 bO1_4).1) (And.intro ((BoxAt.ext hX9 bO1_5).1) ((BoxAt.ext hX9 bO1_6).1))))
        refine ⟨hS67, ?_⟩
        refine wd_end hL hR hK (by kernel_rfl) ?_
        exact qw_leaf hJ [1, 2, 3] (ws' := [(1, .pointer (some ⟨O1, 0, none⟩)), (2, .pointer (some ⟨O5, 0, none⟩)), (3, .pointer (some ⟨O56, 0, none⟩))]) (by kernel_rfl) ⟨pk13, pk61, pk62, pk63, pk64, O56, rfl, hE, hX9, pk13l, pk61l, pk62l, pk63l, pk64l, bO56_0, bO56_1, bO56_2, bO56_3, bO56_4, bO56_5, bO56_6, (Nat.le_trans hs11 (Nat.le_trans hs58 hs66)), (Nat.le_trans hs11 (Nat.le_of_eq hzO56))⟩
    ·
      refine sn_new (us := #[.int .i64 0, .int .i64 0, .int .i64 0, .int .i64 0, .int .i64 0, .int .i64 0, .int .i64 0]) (t := 26) (by kernel_rfl) ?_
      intro O68 X69 hO hOs hb hbx
      have hzO68 := hO; have hyO68 := hOs; clear hO hOs
      have bO68_0 : BoxAt X69 O68 0 (.int .i64 0) := hbx 0 _ rfl
      have bO68_1 : BoxAt X69 O68 1 (.int .i64 0) := hbx 1 _ rfl
      have bO68_2 : BoxAt X69 O68 2 (.int .i64 0) := hbx 2 _ rfl
      have bO68_3 : BoxAt X69 O68 3 (.int .i64 0) := hbx 3 _ rfl
      have bO68_4 : BoxAt X69 O68 4 (.int .i64 0) := hbx 4 _ rfl
      have bO68_5 : BoxAt X69 O68 5 (.int .i64 0) := hbx 5 _ rfl
      have bO68_6 : BoxAt X69 O68 6 (.int .i64 0) := hbx 6 _ rfl
      clear hbx
      replace hE := hE.trans hb
      replace hX9 := hX9.trans hb
      have hs70 := hb.size
      clear hb
      have lt71 := bO68_0.lt
      have hS72 := And.intro ((BoxAt.ext hX9 bO1_0).1) (And.intro ((BoxAt.ext hX9 bO1_2).1) (And.intro ((BoxAt.ext hX9 bO1_4).1) (And.intro ((BoxAt.ext hX9 bO1_5).1) ((BoxAt.ext hX9 bO1_6).1))))
      refine ⟨hS72, ?_⟩
      refine wd_step 2 hR rfl (by kernel_rfl) (by kernel_rfl) (by kernel_rfl) (sn_call (f := 21) (args := #[.int .i64 (x0 : Int), .int .i64 90]) (by kernel_rfl) ((pick7_n _ (90) _ i0 (by omega) (by omega)).mono ?_))
      rintro e w' ⟨pk73, rfl, pk73l, -, rfl⟩
      refine ⟨_, rfl, hS72, ?_⟩
      refine wd_take 3 (.int .i64 (((10 + pk73 : Nat) : Int) : Int)) hR rfl (by kernel_rfl) rfl (by kernel_rfl) (fun w _ => ev_wrap (by kernel_rfl) (by omega) (by omega)) (hS72) ?_
      refine wd_take 4 (.int .i64 (((2 * (10 + pk73) : Nat) : Int) : Int)) hR rfl (by kernel_rfl) rfl (by kernel_rfl) (fun w _ => ev_wrap (by kernel_rfl) (by omega) (by omega)) (hS72) ?_
      refine wd_step 7 hR rfl (by kernel_rfl) (by kernel_rfl) (by kernel_rfl) (sn_call (f := 21) (args := #[.int .i64 (x2 : Int), .int .i64 10000]) (by kernel_rfl) ((pick7_n _ (10000) _ i2 (by omega) (by omega)).mono ?_))
      rintro e w' ⟨pk74, rfl, pk74l, -, rfl⟩
      refine ⟨_, rfl, hS72, ?_⟩
      refine wd_step 10 hR rfl (by kernel_rfl) (by kernel_rfl) (by kernel_rfl) (sn_call (f := 21) (args := #[.int .i64 (x4 : Int), .int .i64 48000]) (by kernel_rfl) ((pick7_n _ (48000) _ i4 (by omega) (by omega)).mono ?_))
      rintro e w' ⟨pk75, rfl, pk75l, -, rfl⟩
      refine ⟨_, rfl, hS72, ?_⟩
      refine wd_step 13 hR rfl (by kernel_rfl) (by kernel_rfl) (by kernel_rfl) (sn_call (f := 21) (args := #[.int .i64 (x5 : Int), .int .i64 1601]) (by kernel_rfl) ((pick7_n _ (1601) _ i5 (by omega) (by omega)).mono ?_))
      rintro e w' ⟨pk76, rfl, pk76l, -, rfl⟩
      refine ⟨_, rfl, hS72, ?_⟩
      refine wd_take 14 (.int .i64 ((((pk76 : Nat) : Int)) - 800 : Int)) hR rfl (by kernel_rfl) rfl (by kernel_rfl) (fun w _ => ev_wrap (by kernel_rfl) (by omega) (by omega)) (hS72) ?_
      refine wd_step 17 hR rfl (by kernel_rfl) (by kernel_rfl) (by kernel_rfl) (sn_call (f := 21) (args := #[.int .i64 (x6 : Int), .int .i64 4]) (by kernel_rfl) ((pick7_n _ (4) _ i6 (by omega) (by omega)).mono ?_))
      rintro e w' ⟨pk77, rfl, pk77l, -, rfl⟩
      refine ⟨_, rfl, hS72, ?_⟩
      refine wd_take 18 (.agg #[.int .i64 (((2 * (10 + pk73) : Nat) : Int) : Int), .int .i64 0, .int .i64 (((pk74 : Nat) : Int) : Int), .int .i64 0, .int .i64 (((pk75 : Nat) : Int) : Int), .int .i64 ((((pk76 : Nat) : Int)) - 800 : Int), .int .i64 (((pk77 : Nat) : Int) : Int)]) hR rfl (by kernel_rfl) rfl (by kernel_rfl) (fun w _ => by kernel_rfl) (hS72) ?_
      refine wd_step 20 hR rfl (by kernel_rfl) (by kernel_rfl) (by kernel_rfl) (sn_setK7 (O := O68) (j := 0) (v0 := .int .i64 (((2 * (10 + pk73) : Nat) : Int) : Int)) (v1 := .int .i64 0) (v2 := .int .i64 (((pk74 : Nat) : Int) : Int)) (v3 := .int .i64 0) (v4 := .int .i64 (((pk75 : Nat) : Int) : Int)) (v5 := .int .i64 ((((pk76 : Nat) : Int)) - 800 : Int)) (v6 := .int .i64 (((pk77 : Nat) : Int) : Int)) (ex_store (p := .pointer (some ⟨O68, 0, none⟩)) (v := .agg #[.int .i64 (((2 * (10 + pk73) : Nat) : Int) : Int), .int .i64 0, .int .i64 (((pk74 : Nat) : Int) : Int), .int .i64 0, .int .i64 (((pk75 : Nat) : Int) : Int), .int .i64 ((((pk76 : Nat) : Int)) - 800 : Int), .int .i64 (((pk77 : Nat) : Int) : Int)]) rfl (by kernel_rfl) (by kernel_rfl) (st26 bO68_0.1 bO68_0.2 bO68_1.1 bO68_1.2 bO68_2.1 bO68_2.2 bO68_3.1 bO68_3.2 bO68_4.1 bO68_4.2 bO68_5.1 bO68_5.2 bO68_6.1 bO68_6.2)) bO68_0 bO68_1 bO68_2 bO68_3 bO68_4 bO68_5 bO68_6 ?_)
      intro X78 ho hv0 hv1 hv2 hv3 hv4 hv5 hv6 hk
      replace hE := ho.ext hE (Nat.le_trans (Nat.le_trans hs3 (Nat.le_trans hs7 hs11)) (Nat.le_of_eq hzO68))
      replace hX9 := ho.ext hX9 (Nat.le_trans hs11 (Nat.le_of_eq hzO68))
      have hs79 : X69.heap.size ≤ X78.heap.size := Nat.le_of_eq ho.size.symm
      clear ho hk bO68_0 bO68_1 bO68_2 bO68_3 bO68_4 bO68_5 bO68_6
      have bO68_0 := hv0; clear hv0
      have bO68_1 := hv1; clear hv1
      have bO68_2 := hv2; clear hv2
      have bO68_3 := hv3; clear hv3
      have bO68_4 := hv4; clear hv4
      have bO68_5 := hv5; clear hv5
      have bO68_6 := hv6; clear hv6
      have hS80 := And.intro ((BoxAt.ext hX9 bO1_0).1) (And.intro ((BoxAt.ext hX9 bO1_2).1) (And.intro ((BoxAt.ext hX9 bO1_4).1) (And.intro ((BoxAt.ext hX9 bO1_5).1) ((BoxAt.ext hX9 bO1_6).1))))
      refine ⟨hS80, ?_⟩
      refine wd_end hL hR hK (by kernel_rfl) ?_
      exact qw_leaf hJ [1, 2, 3] (ws' := [(1, .pointer (some ⟨O1, 0, none⟩)), (2, .pointer (some ⟨O5, 0, none⟩)), (3, .pointer (some ⟨O68, 0, none⟩))]) (by kernel_rfl) ⟨pk73, pk74, pk75, pk76, pk77, O68, rfl, hE, hX9, pk73l, pk74l, pk75l, pk76l, pk77l, bO68_0, bO68_1, bO68_2, bO68_3, bO68_4, bO68_5, bO68_6, (Nat.le_trans hs11 (Nat.le_trans hs70 hs79)), (Nat.le_trans hs11 (Nat.le_of_eq hzO68))⟩
  ·
    clear hE hX9
    rintro L ws Y81 ⟨pk13, pk14, pk15, pk16, pk17, O18, rfl, hE, hX9, pk13l, pk14l, pk15l, pk16l, pk17l, bO18_0, bO18_1, bO18_2, bO18_3, bO18_4, bO18_5, bO18_6, hn82, hn83⟩
    have lt84 := bO18_0.lt
    refine qw_then ?_
    refine cw_seq ?_
    have hX85 : Ext Y81 Y81 := Ext.refl _
    refine cw_plain ?_
    refine pl_take (.pointer (some ⟨O1, 1, none⟩)) rfl (by kernel_rfl) (by kernel_rfl) (by kernel_rfl) (by kernel_rfl) ?_
    refine pl_take (.int .i64 (x1 : Int)) rfl (by kernel_rfl) (by kernel_rfl) (by kernel_rfl) (ex_load rfl (by kernel_rfl) (ld3 ((BoxAt.ext (hX9.trans hX85) bO1_1).1))) ?_
    refine pl_take (.pointer (some ⟨O18, 0, none⟩)) rfl (by kernel_rfl) (by kernel_rfl) (by kernel_rfl) (by kernel_rfl) ?_
    refine pl_take (.int .i64 (((2 * (10 + pk13) : Nat) : Int) : Int)) rfl (by kernel_rfl) (by kernel_rfl) (by kernel_rfl) (ex_load rfl (by kernel_rfl) (ld3 (bO18_0.1))) ?_
    refine pl_step rfl (by kernel_rfl) (by kernel_rfl) (by kernel_rfl) (sn_call (f := 21) (args := #[.int .i64 (x1 : Int), .int .i64 (((2 * (10 + pk13) : Nat) : Int) : Int)]) (by kernel_rfl) ((pick7_n _ (2 * (10 + pk13)) _ i1 (by omega) (by omega)).mono ?_))
    rintro e w' ⟨pk86, rfl, pk86l, -, rfl⟩
    refine ⟨_, rfl, ?_⟩
    refine pl_take (.pointer (some ⟨O18, 1, none⟩)) rfl (by kernel_rfl) (by kernel_rfl) (by kernel_rfl) (by kernel_rfl) ?_
    have bO18_t88 := bO18_0
    have bO18_t89 := bO18_1
    have bO18_t90 := bO18_2
    have bO18_t91 := bO18_3
    have bO18_t92 := bO18_4
    have bO18_t93 := bO18_5
    have bO18_t94 := bO18_6
    have hX95 := (hX9.trans hX85)
    refine pl_put rfl (by kernel_rfl) (by kernel_rfl) (sn_set (O := O18) (j := 1) (v := .int .i64 (((pk86 : Nat) : Int) : Int)) (ex_store (p := .pointer (some ⟨O18, 1, none⟩)) (v := .int .i64 (((pk86 : Nat) : Int) : Int)) rfl (by kernel_rfl) (by kernel_rfl) (st3 bO18_t89.1 bO18_t89.2)) bO18_t89 ?_)
    intro X87 ho hv0 hk
    replace hE := ho.ext hE (Nat.le_trans (Nat.le_trans hs3 hs7) hn83)
    replace hX95 := ho.ext hX95 hn83
    replace bO18_t88 := hk 0 _ (by omega) bO18_t88
    replace bO18_t90 := hk 2 _ (by omega) bO18_t90
    replace bO18_t91 := hk 3 _ (by omega) bO18_t91
    replace bO18_t92 := hk 4 _ (by omega) bO18_t92
    replace bO18_t93 := hk 5 _ (by omega) bO18_t93
    replace bO18_t94 := hk 6 _ (by omega) bO18_t94
    have hs96 : Y81.heap.size ≤ X87.heap.size := Nat.le_of_eq ho.size.symm
    clear ho hk bO18_t89
    have bO18_t89 := hv0; clear hv0
    refine pl_nil ?_
    refine qw_then ?_
    refine cw_seq ?_
    have hX97 : Ext X87 X87 := Ext.refl _
    refine cw_draw [(some 29, [3], []), (some 30, [29], [0]), (some 31, [30], [1]), (some 32, [1], []), (some 33, [32], [3]), (some 34, [33], [4]), (some 35, [31, 34], [2, 5]), (some 36, [3], [0, 1, 2, 3, 4, 5, 6]), (none, [36, 35], [7, 6, 5, 0, 1, 2, 3, 4, 5, 6])] (fun w' => w'.cell? ⟨O18, 2, none⟩ = some (.int .i64 (((pk14 : Nat) : Int) : Int)) ∧ w'.cell? ⟨O1, 3, none⟩ = some (.int .i64 (x3 : Int))) (by kernel_rfl) (by kernel_rfl) (by kernel_rfl) (by kernel_rfl) ((calm_then calm_body)) (⟨bO18_t90.1, (BoxAt.ext (hX95.trans hX97) bO1_3).1⟩) (fun ops Q X98 hb hL hR hK => ?_)
    replace hE := hE.trans hb
    replace hX97 := hX97.trans hb
    have hs99 := hb.size
    clear hb
    have hS100 := And.intro ((BoxAt.ext hX97 bO18_t90).1) ((BoxAt.ext (hX95.trans hX97) bO1_3).1)
    refine wd_take 0 (.pointer (some ⟨O18, 2, none⟩)) hR rfl (by kernel_rfl) rfl (by kernel_rfl) (fun w _ => by kernel_rfl) (hS100) ?_
    refine wd_take 1 (.int .i64 (((pk14 : Nat) : Int) : Int)) hR rfl (by kernel_rfl) rfl (by kernel_rfl) (fun w hS => ex_load rfl (by kernel_rfl) (ld3 (hS.1))) (hS100) ?_
    refine wd_take 2 (.int .i64 (((pk14 + 4000 : Nat) : Int) : Int)) hR rfl (by kernel_rfl) rfl (by kernel_rfl) (fun w _ => ev_wrap (by kernel_rfl) (by omega) (by omega)) (hS100) ?_
    refine wd_take 3 (.pointer (some ⟨O1, 3, none⟩)) hR rfl (by kernel_rfl) rfl (by kernel_rfl) (fun w _ => by kernel_rfl) (hS100) ?_
    refine wd_take 4 (.int .i64 (x3 : Int)) hR rfl (by kernel_rfl) rfl (by kernel_rfl) (fun w hS => ex_load rfl (by kernel_rfl) (ld3 (hS.2))) (hS100) ?_
    refine wd_step 5 hR rfl (by kernel_rfl) (by kernel_rfl) (by kernel_rfl) (sn_call (f := 21) (args := #[.int .i64 (x3 : Int), .int .i64 10000]) (by kernel_rfl) ((pick7_n _ (10000) _ i3 (by omega) (by omega)).mono ?_))
    rintro e w' ⟨pk101, rfl, pk101l, -, rfl⟩
    refine ⟨_, rfl, hS100, ?_⟩
    refine wd_take 6 (.int .i64 ((((pk14 + 4000) + pk101 : Nat) : Int) : Int)) hR rfl (by kernel_rfl) rfl (by kernel_rfl) (fun w _ => ev_wrap (by kernel_rfl) (by omega) (by omega)) (hS100) ?_
    refine wd_take 7 (.pointer (some ⟨O18, 3, none⟩)) hR rfl (by kernel_rfl) rfl (by kernel_rfl) (fun w _ => by kernel_rfl) (hS100) ?_
    have bO18_tt103 := (BoxAt.ext hX97 bO18_t88)
    have bO18_tt104 := (BoxAt.ext hX97 bO18_t90)
    have bO18_tt105 := (BoxAt.ext hX97 bO18_t91)
    have bO18_tt106 := (BoxAt.ext hX97 bO18_t92)
    have bO18_tt107 := (BoxAt.ext hX97 bO18_t93)
    have bO18_tt108 := (BoxAt.ext hX97 bO18_t94)
    have bO18_tt109 := (BoxAt.ext hX97 bO18_t89)
    have hX110 := (hX95.trans hX97)
    refine wd_step 8 hR rfl (by kernel_rfl) (by kernel_rfl) (by kernel_rfl) (sn_set (O := O18) (j := 3) (v := .int .i64 ((((pk14 + 4000) + pk101 : Nat) : Int) : Int)) (ex_store (p := .pointer (some ⟨O18, 3, none⟩)) (v := .int .i64 ((((pk14 + 4000) + pk101 : Nat) : Int) : Int)) rfl (by kernel_rfl) (by kernel_rfl) (st3 bO18_tt105.1 bO18_tt105.2)) bO18_tt105 ?_)
    intro X102 ho hv0 hk
    replace hE := ho.ext hE (Nat.le_trans (Nat.le_trans hs3 hs7) hn83)
    replace hX110 := ho.ext hX110 hn83
    replace bO18_tt103 := hk 0 _ (by omega) bO18_tt103
    replace bO18_tt104 := hk 2 _ (by omega) bO18_tt104
    replace bO18_tt106 := hk 4 _ (by omega) bO18_tt106
    replace bO18_tt107 := hk 5 _ (by omega) bO18_tt107
    replace bO18_tt108 := hk 6 _ (by omega) bO18_tt108
    replace bO18_tt109 := hk 1 _ (by omega) bO18_tt109
    have hs111 : X98.heap.size ≤ X102.heap.size := Nat.le_of_eq ho.size.symm
    clear ho hk bO18_tt105
    have bO18_tt105 := hv0; clear hv0
    have hS112 := And.intro (bO18_tt104.1) ((BoxAt.ext hX110 bO1_3).1)
    refine ⟨hS112, ?_⟩
    refine wd_end hL hR hK (by kernel_rfl) ?_
    refine qw_then ?_
    refine cw_clean [2, 3] (ws' := [(2, .pointer (some ⟨O5, 0, none⟩)), (3, .pointer (some ⟨O18, 0, none⟩))]) (by kernel_rfl) (fun L => ?_)
    refine cw_seq ?_
    have hX113 : Ext X102 X102 := Ext.refl _
    refine cw_plain ?_
    refine pl_take (.agg #[.int .i64 (((2 * (10 + pk13) : Nat) : Int) : Int), .int .i64 (((pk86 : Nat) : Int) : Int), .int .i64 (((pk14 : Nat) : Int) : Int), .int .i64 ((((pk14 + 4000) + pk101 : Nat) : Int) : Int), .int .i64 (((pk15 : Nat) : Int) : Int), .int .i64 ((((pk16 : Nat) : Int)) - 800 : Int), .int .i64 (((pk17 : Nat) : Int) : Int)]) rfl (by kernel_rfl) (by kernel_rfl) (by kernel_rfl) (ex_load rfl (by kernel_rfl) (ld26 (bO18_tt103.1) (bO18_tt109.1) (bO18_tt104.1) (bO18_tt105.1) (bO18_tt106.1) (bO18_tt107.1) (bO18_tt108.1))) ?_
    have bO1_t115 := (BoxAt.ext (hX110.trans hX113) bO1_0)
    have bO1_t116 := (BoxAt.ext (hX110.trans hX113) bO1_1)
    have bO1_t117 := (BoxAt.ext (hX110.trans hX113) bO1_2)
    have bO1_t118 := (BoxAt.ext (hX110.trans hX113) bO1_3)
    have bO1_t119 := (BoxAt.ext (hX110.trans hX113) bO1_4)
    have bO1_t120 := (BoxAt.ext (hX110.trans hX113) bO1_5)
    have bO1_t121 := (BoxAt.ext (hX110.trans hX113) bO1_6)
    have bO5_t122 := (BoxAt.ext (hX110.trans hX113) bO5_0)
    have bO5_t123 := (BoxAt.ext (hX110.trans hX113) bO5_1)
    have bO5_t124 := (BoxAt.ext (hX110.trans hX113) bO5_2)
    have bO5_t125 := (BoxAt.ext (hX110.trans hX113) bO5_3)
    have bO5_t126 := (BoxAt.ext (hX110.trans hX113) bO5_4)
    have bO5_t127 := (BoxAt.ext (hX110.trans hX113) bO5_5)
    have bO5_t128 := (BoxAt.ext (hX110.trans hX113) bO5_6)
    have bO18_ttt129 := bO18_tt103
    have bO18_ttt130 := bO18_tt104
    have bO18_ttt131 := bO18_tt106
    have bO18_ttt132 := bO18_tt107
    have bO18_ttt133 := bO18_tt108
    have bO18_ttt134 := bO18_tt109
    have bO18_ttt135 := bO18_tt105
    refine pl_put rfl (by kernel_rfl) (by kernel_rfl) (sn_setK7 (O := O5) (j := 0) (v0 := .int .i64 (((2 * (10 + pk13) : Nat) : Int) : Int)) (v1 := .int .i64 (((pk86 : Nat) : Int) : Int)) (v2 := .int .i64 (((pk14 : Nat) : Int) : Int)) (v3 := .int .i64 ((((pk14 + 4000) + pk101 : Nat) : Int) : Int)) (v4 := .int .i64 (((pk15 : Nat) : Int) : Int)) (v5 := .int .i64 ((((pk16 : Nat) : Int)) - 800 : Int)) (v6 := .int .i64 (((pk17 : Nat) : Int) : Int)) (ex_store (p := .pointer (some ⟨O5, 0, none⟩)) (v := .agg #[.int .i64 (((2 * (10 + pk13) : Nat) : Int) : Int), .int .i64 (((pk86 : Nat) : Int) : Int), .int .i64 (((pk14 : Nat) : Int) : Int), .int .i64 ((((pk14 + 4000) + pk101 : Nat) : Int) : Int), .int .i64 (((pk15 : Nat) : Int) : Int), .int .i64 ((((pk16 : Nat) : Int)) - 800 : Int), .int .i64 (((pk17 : Nat) : Int) : Int)]) rfl (by kernel_rfl) (by kernel_rfl) (st26 bO5_t122.1 bO5_t122.2 bO5_t123.1 bO5_t123.2 bO5_t124.1 bO5_t124.2 bO5_t125.1 bO5_t125.2 bO5_t126.1 bO5_t126.2 bO5_t127.1 bO5_t127.2 bO5_t128.1 bO5_t128.2)) bO5_t122 bO5_t123 bO5_t124 bO5_t125 bO5_t126 bO5_t127 bO5_t128 ?_)
    intro X114 ho hv0 hv1 hv2 hv3 hv4 hv5 hv6 hk
    replace hE := ho.ext hE (Nat.le_trans hs3 (Nat.le_of_eq hzO5))
    replace bO1_t115 := ho.box (Nat.ne_of_gt (Nat.lt_of_lt_of_le lt4 (Nat.le_of_eq hzO5))) bO1_t115
    replace bO1_t116 := ho.box (Nat.ne_of_gt (Nat.lt_of_lt_of_le lt4 (Nat.le_of_eq hzO5))) bO1_t116
    replace bO1_t117 := ho.box (Nat.ne_of_gt (Nat.lt_of_lt_of_le lt4 (Nat.le_of_eq hzO5))) bO1_t117
    replace bO1_t118 := ho.box (Nat.ne_of_gt (Nat.lt_of_lt_of_le lt4 (Nat.le_of_eq hzO5))) bO1_t118
    replace bO1_t119 := ho.box (Nat.ne_of_gt (Nat.lt_of_lt_of_le lt4 (Nat.le_of_eq hzO5))) bO1_t119
    replace bO1_t120 := ho.box (Nat.ne_of_gt (Nat.lt_of_lt_of_le lt4 (Nat.le_of_eq hzO5))) bO1_t120
    replace bO1_t121 := ho.box (Nat.ne_of_gt (Nat.lt_of_lt_of_le lt4 (Nat.le_of_eq hzO5))) bO1_t121
    replace bO18_ttt129 := ho.box (Nat.ne_of_lt (Nat.lt_of_lt_of_le lt8 hn83)) bO18_ttt129
    replace bO18_ttt130 := ho.box (Nat.ne_of_lt (Nat.lt_of_lt_of_le lt8 hn83)) bO18_ttt130
    replace bO18_ttt131 := ho.box (Nat.ne_of_lt (Nat.lt_of_lt_of_le lt8 hn83)) bO18_ttt131
    replace bO18_ttt132 := ho.box (Nat.ne_of_lt (Nat.lt_of_lt_of_le lt8 hn83)) bO18_ttt132
    replace bO18_ttt133 := ho.box (Nat.ne_of_lt (Nat.lt_of_lt_of_le lt8 hn83)) bO18_ttt133
    replace bO18_ttt134 := ho.box (Nat.ne_of_lt (Nat.lt_of_lt_of_le lt8 hn83)) bO18_ttt134
    replace bO18_ttt135 := ho.box (Nat.ne_of_lt (Nat.lt_of_lt_of_le lt8 hn83)) bO18_ttt135
    have hs136 : X102.heap.size ≤ X114.heap.size := Nat.le_of_eq ho.size.symm
    clear ho hk bO5_t122 bO5_t123 bO5_t124 bO5_t125 bO5_t126 bO5_t127 bO5_t128
    have bO5_t122 := hv0; clear hv0
    have bO5_t123 := hv1; clear hv1
    have bO5_t124 := hv2; clear hv2
    have bO5_t125 := hv3; clear hv3
    have bO5_t126 := hv4; clear hv4
    have bO5_t127 := hv5; clear hv5
    have bO5_t128 := hv6; clear hv6
    refine pl_nil ?_
    refine qw_then ?_
    refine cw_ret ?_
    refine qw_ret [.agg #[.int .i64 (((2 * (10 + pk13) : Nat) : Int) : Int), .int .i64 (((pk86 : Nat) : Int) : Int), .int .i64 (((pk14 : Nat) : Int) : Int), .int .i64 ((((pk14 + 4000) + pk101 : Nat) : Int) : Int), .int .i64 (((pk15 : Nat) : Int) : Int), .int .i64 ((((pk16 : Nat) : Int)) - 800 : Int), .int .i64 (((pk17 : Nat) : Int) : Int)]] rfl ⟨⟨_, by kernel_rfl, res_ld (ld26 (bO5_t122.1) (bO5_t123.1) (bO5_t124.1) (bO5_t125.1) (bO5_t126.1) (bO5_t127.1) (bO5_t128.1))⟩, trivial⟩ ?_
    refine ⟨⟨((2 * (10 + pk13) : Nat) : Int), ((pk86 : Nat) : Int), ((pk14 : Nat) : Int), (((pk14 + 4000) + pk101 : Nat) : Int), ((pk15 : Nat) : Int), (((pk16 : Nat) : Int)) - 800, ((pk17 : Nat) : Int)⟩, rfl, Orb.ok_t.2 ⟨⟨?_, ?_, ?_⟩, ⟨?_, ?_⟩, ⟨?_, ?_⟩, ⟨?_, ?_⟩, ?_, ⟨?_, ?_⟩, ⟨?_, ?_⟩, ?_, ?_⟩, ?_, hE⟩ <;> simp only [] <;> first | omega | (rw [Int.tmod_eq_emod_of_nonneg (by omega)]; omega)

end Go.Proofs.YtdjjkhefdalokaaDoor

/- Contracts of package sun's small functions. -/
namespace Go.Proofs.YtdjjkhefdalokaaDoor
open Go.RowKit

theorem isMinute_c (t : Int) (w : World) : Calls Tryd.prog 62 #[.int .i64 t] w fun e w' => e = .returned (.bool (Sun.minB t)) ∧ w = w' := by
  go_enter Tryd.func62, Tryd.ntmps62
  go_wp2
  all_goals (go_ret; refine ⟨ret_bool ?_, rfl⟩; first | (rw [Sun.minB_f.2 (by omega)]; done) | (simp [Sun.minB]; omega))

theorem tdiv3 (n : Int) (h : n < 0) : n - 2 ≤ 3 * n.tdiv 3 ∧ 3 * n.tdiv 3 ≤ n + 2 ∧ n ≤ 3 * n.tdiv 3 := by
  obtain ⟨m, rfl⟩ : ∃ m : Int, n = -m := ⟨-n, by omega⟩
  rw [Int.neg_tdiv, Int.tdiv_eq_ediv_of_nonneg (by omega)]
  omega

theorem third_c (n : Int) (w : World) (h0 : -1000000000 ≤ n) (h1 : n ≤ 1000000000) : Calls Tryd.prog 77 #[.int .i64 n] w fun e w' => e = .returned (.int .i64 (n / 3)) ∧ w = w' := by
  by_cases h : n < 0
  · obtain ⟨h2, h3, h4⟩ := tdiv3 n h
    go_enter Tryd.func77, Tryd.ntmps77
    go_wp2
    all_goals (go_ret; refine ⟨?_, rfl⟩; exact ret_int (by omega))
  · go_enter Tryd.func77, Tryd.ntmps77
    go_wp2
    all_goals (go_ret; exact ⟨rfl, rfl⟩)

theorem away_c (a b : Int) (w : World) (h1 : -100000000 ≤ a) (h2 : a ≤ 1000000000) (h3 : -1000000000 ≤ b) (h4 : b ≤ 1000000000) :
    Calls Tryd.prog 65 #[.int .i64 a, .int .i64 b] w fun e w' => e = .returned (.int .i64 (Sun.away a b)) ∧ w = w' := by
  go_enter Tryd.func65, Tryd.ntmps65
  go_wp2
  all_goals (go_ret; refine ⟨ret_int ?_, rfl⟩; unfold Sun.away; omega)

theorem Noon_yes (t : Int) (w : World) (h : Sun.minB t = true) : Calls Tryd.prog 63 #[.int .i64 t] w fun e w' => e = .returned (.tuple #[.int .i64 (Sun.noon t), .int .i64 0]) ∧ w = w' := by
  obtain ⟨h0, h1⟩ := Sun.minB_t.1 h
  go_enter Tryd.func63, Tryd.ntmps63
  go_wp2_with (first | (go_at_call 62; refine (isMinute_c _ _).mono ?_; rintro e w' ⟨rfl, rfl⟩) | (go_at_call 77; refine (third_c _ _ (by omega) (by omega)).mono ?_; rintro e w' ⟨rfl, rfl⟩))
  go_ret2
  exact ⟨rfl, rfl⟩
/-! The parts of the year: three functions. -/
theorem part1_c (d : Int) (w : World) (h0 : 0 ≤ d) (h1 : d ≤ 360) : Calls Tryd.prog 84 #[.int .i64 d] w fun e w' => e = .returned (.int .i64 (100 * d)) ∧ w = w' := by
  go_enter Tryd.func84, Tryd.ntmps84
  go_wp2
  go_ret
  exact ⟨rfl, rfl⟩
theorem part2_c (d : Int) (w : World) (h0 : 0 ≤ d) (h1 : d ≤ 360) : Calls Tryd.prog 85 #[.int .i64 d] w fun e w' => e = .returned (.int .i64 (100 * (180 - d))) ∧ w = w' := by
  go_enter Tryd.func85, Tryd.ntmps85
  go_wp2
  go_ret
  exact ⟨rfl, rfl⟩
theorem part3_c (d : Int) (w : World) (h0 : 0 ≤ d) (h1 : d ≤ 360) : Calls Tryd.prog 86 #[.int .i64 d] w fun e w' => e = .returned (.int .i64 (100 * (d - 360))) ∧ w = w' := by
  go_enter Tryd.func86, Tryd.ntmps86
  go_wp2
  go_ret
  exact ⟨rfl, rfl⟩
theorem parts_c (w : World) : Calls Tryd.prog 78 #[] w fun e w' => e = .returned (.agg #[.int .i64 90, .func (.func 84) #[] #[], .int .i64 270, .func (.func 85) #[] #[], .int .i64 360, .func (.func 86) #[] #[]]) ∧ Ext w w' := by
  go_enter Tryd.func78, Tryd.ntmps78
  go_wp2
  go_returns
  exact ⟨rfl, by (repeat' (first | (with_reducible assumption) | (with_reducible exact Ext.refl _) | (with_reducible refine Ext.alloc ?_ _) | (with_reducible refine Ext.drew ?_) | (with_reducible refine Ext.drewN ?_ _) | (with_reducible refine Ext.setCell ?_ ?_ _) | (with_reducible refine Ext.trans ?_ (by assumption)) | go_size))⟩

end Go.Proofs.YtdjjkhefdalokaaDoor

/- Contracts of package sun: Season, Height, Lit, Dark. -/
namespace Go.Proofs.YtdjjkhefdalokaaDoor
open Go.RowKit

theorem part_0 (w : World) : (Instr.index 124 (.agg #[.int .i64 90, .func (.func 84) #[] #[], .int .i64 270, .func (.func 85) #[] #[], .int .i64 360, .func (.func 86) #[] #[]]) (.int .i64 0)).run Tryd.prog w = .ok (.agg #[.int .i64 90, .func (.func 84) #[] #[]]) w := by kernel_rfl
theorem part_1 (w : World) : (Instr.index 124 (.agg #[.int .i64 90, .func (.func 84) #[] #[], .int .i64 270, .func (.func 85) #[] #[], .int .i64 360, .func (.func 86) #[] #[]]) (.int .i64 1)).run Tryd.prog w = .ok (.agg #[.int .i64 270, .func (.func 85) #[] #[]]) w := by kernel_rfl
theorem part_2 (w : World) : (Instr.index 124 (.agg #[.int .i64 90, .func (.func 84) #[] #[], .int .i64 270, .func (.func 85) #[] #[], .int .i64 360, .func (.func 86) #[] #[]]) (.int .i64 2)).run Tryd.prog w = .ok (.agg #[.int .i64 360, .func (.func 86) #[] #[]]) w := by kernel_rfl

theorem Season_yes (t : Int) (w : World) (h : Sun.minB t = true) : Calls Tryd.prog 64 #[.int .i64 t] w fun e w' => e = .returned (.tuple #[.int .i64 (Sun.season t), .int .i64 0]) ∧ Ext w w' := by
  obtain ⟨h0, h1⟩ := Sun.minB_t.1 h
  have i0 := part_0
  have i1 := part_1
  have i2 := part_2
  by_cases c1 : t / 1440 % 360 ≤ 90
  · go_enter Tryd.func64, Tryd.ntmps64
    go_wp2_with (first | (go_at_call 62; refine (isMinute_c _ _).mono ?_; rintro e w' ⟨rfl, rfl⟩) | (go_at_call 78; refine (parts_c _).mono ?_; rintro e w1 ⟨rfl, hb⟩; have hc := hb.cellE; have hf := hb.frozenE; have hz := hb.size; have ha := alloc_keeps w1; (try simp only [World.size_alloc] at hc hf hz); (try simp only [World.size_setCell] at hc hf hz); (try simp only [World.size_drew] at hc hf hz)))
    refine wp_loop_rounds 4 ?_
    rw [rounds_succ]
    go_wp2_with (first | (go_at_call 84; refine (part1_c _ _ (by omega) (by omega)).mono ?_; rintro e w' ⟨rfl, rfl⟩) | (go_at_call 77; refine (third_c _ _ (by omega) (by omega)).mono ?_; rintro e w' ⟨rfl, rfl⟩))
    go_ret2
    exact ⟨by rw [Sun.season_a (by omega)]; rfl, by (repeat' (first | (with_reducible assumption) | (with_reducible exact Ext.refl _) | (with_reducible refine Ext.alloc ?_ _) | (with_reducible refine Ext.drew ?_) | (with_reducible refine Ext.drewN ?_ _) | (with_reducible refine Ext.setCell ?_ ?_ _) | (with_reducible refine Ext.trans ?_ (by assumption)) | go_size))⟩
  · by_cases c2 : t / 1440 % 360 ≤ 270
    · go_enter Tryd.func64, Tryd.ntmps64
      go_wp2_with (first | (go_at_call 62; refine (isMinute_c _ _).mono ?_; rintro e w' ⟨rfl, rfl⟩) | (go_at_call 78; refine (parts_c _).mono ?_; rintro e w1 ⟨rfl, hb⟩; have hc := hb.cellE; have hf := hb.frozenE; have hz := hb.size; have ha := alloc_keeps w1; (try simp only [World.size_alloc] at hc hf hz); (try simp only [World.size_setCell] at hc hf hz); (try simp only [World.size_drew] at hc hf hz)))
      refine wp_loop_rounds 4 ?_
      rw [rounds_succ]
      go_wp2_with fail
      rw [rounds_succ]
      go_wp2_with (first | (go_at_call 85; refine (part2_c _ _ (by omega) (by omega)).mono ?_; rintro e w' ⟨rfl, rfl⟩) | (go_at_call 77; refine (third_c _ _ (by omega) (by omega)).mono ?_; rintro e w' ⟨rfl, rfl⟩))
      go_ret2
      exact ⟨by rw [Sun.season_b (by omega) (by omega)]; rfl, by (repeat' (first | (with_reducible assumption) | (with_reducible exact Ext.refl _) | (with_reducible refine Ext.alloc ?_ _) | (with_reducible refine Ext.drew ?_) | (with_reducible refine Ext.drewN ?_ _) | (with_reducible refine Ext.setCell ?_ ?_ _) | (with_reducible refine Ext.trans ?_ (by assumption)) | go_size))⟩
    · go_enter Tryd.func64, Tryd.ntmps64
      go_wp2_with (first | (go_at_call 62; refine (isMinute_c _ _).mono ?_; rintro e w' ⟨rfl, rfl⟩) | (go_at_call 78; refine (parts_c _).mono ?_; rintro e w1 ⟨rfl, hb⟩; have hc := hb.cellE; have hf := hb.frozenE; have hz := hb.size; have ha := alloc_keeps w1; (try simp only [World.size_alloc] at hc hf hz); (try simp only [World.size_setCell] at hc hf hz); (try simp only [World.size_drew] at hc hf hz)))
      refine wp_loop_rounds 4 ?_
      rw [rounds_succ]
      go_wp2_with fail
      rw [rounds_succ]
      go_wp2_with fail
      rw [rounds_succ]
      go_wp2_with (first | (go_at_call 86; refine (part3_c _ _ (by omega) (by omega)).mono ?_; rintro e w' ⟨rfl, rfl⟩) | (go_at_call 77; refine (third_c _ _ (by omega) (by omega)).mono ?_; rintro e w' ⟨rfl, rfl⟩))
      go_ret2
      exact ⟨by rw [Sun.season_c (by omega)]; rfl, by (repeat' (first | (with_reducible assumption) | (with_reducible exact Ext.refl _) | (with_reducible refine Ext.alloc ?_ _) | (with_reducible refine Ext.drew ?_) | (with_reducible refine Ext.drewN ?_ _) | (with_reducible refine Ext.setCell ?_ ?_ _) | (with_reducible refine Ext.trans ?_ (by assumption)) | go_size))⟩
theorem Height_yes (x y t : Int) (w : World) (h : Sun.minB t = true) (hv : Globe.vcB x y = true) :
    Calls Tryd.prog 40 #[.agg #[.int .i64 x, .int .i64 y], .int .i64 t] w fun e w' => e = .returned (.tuple #[.int .i64 (Sun.height x y t), .int .i64 0]) ∧ Ext w w' := by
  obtain ⟨h0, h1⟩ := Sun.minB_t.1 h
  obtain ⟨h2, h3, h4, h5⟩ := Globe.vcB_t.1 hv
  have hn := Sun.noon_bd h0
  have hs := Sun.season_bd t
  have ha := @Sun.away_bd (1000 * x + 500) (Sun.noon t) 48000 (by omega) (by omega) (by omega) (by omega)
  have hy := @Sun.away_bd (1000 * y + 500) (Sun.season t) 24000 (by omega) (by omega) (by omega) (by omega)
  go_enter Tryd.func40, Tryd.ntmps40
  go_wp2_with (first | (go_at_call 62; refine (isMinute_c _ _).mono ?_; rintro e w' ⟨rfl, rfl⟩) | (go_at_call 33; refine (ValidCell_c _ _ _).mono ?_; rintro e w1 ⟨rfl, hb⟩; have hc := hb.cellE; have hf := hb.frozenE; have hz := hb.size; have ha := alloc_keeps w1; (try simp only [World.size_alloc] at hc hf hz); (try simp only [World.size_setCell] at hc hf hz); (try simp only [World.size_drew] at hc hf hz)) | (go_at_call 63; refine (Noon_yes _ _ h).mono ?_; rintro e w' ⟨rfl, rfl⟩) | (go_at_call 64; refine (Season_yes _ _ h).mono ?_; rintro e w1 ⟨rfl, hb⟩; have hc := hb.cellE; have hf := hb.frozenE; have hz := hb.size; have ha := alloc_keeps w1; (try simp only [World.size_alloc] at hc hf hz); (try simp only [World.size_setCell] at hc hf hz); (try simp only [World.size_drew] at hc hf hz)) | (go_at_call 65; refine (away_c _ _ _ (by omega) (by omega) (by omega) (by omega)).mono ?_; rintro e w' ⟨rfl, rfl⟩))
  all_goals (go_ret2; exact ⟨ret2_int (by unfold Sun.height Sun.ac Sun.ds; omega), by (repeat' (first | (with_reducible assumption) | (with_reducible exact Ext.refl _) | (with_reducible refine Ext.alloc ?_ _) | (with_reducible refine Ext.drew ?_) | (with_reducible refine Ext.drewN ?_ _) | (with_reducible refine Ext.setCell ?_ ?_ _) | (with_reducible refine Ext.trans ?_ (by assumption)) | go_size))⟩)
end Go.Proofs.YtdjjkhefdalokaaDoor

/- Contracts of package swath: Suns. -/
namespace Go.Proofs.YtdjjkhefdalokaaDoor
open Go.RowKit

set_option maxRecDepth 1000000 in
set_option maxHeartbeats 4000000 in
theorem sfirst_c (x y : Int) (w : World) : Calls Tryd.prog 43 #[.agg #[.int .i64 x, .int .i64 y]] w fun e w' => e = .returned (.agg #[.int .i64 x, .int .i64 y]) ∧ Ext w w' := by
  refine calls_cw 4 [(0, .agg #[.int .i64 (x : Int), .int .i64 (y : Int)])] Tryd.func43 rfl Tryd.ntmps43 (by kernel_rfl) (by kernel_rfl) (fun L => ?_)
  have hE : Ext w w := Ext.refl w
  refine cw_seq ?_
  refine cw_plain ?_
  refine pl_step rfl (by kernel_rfl) (by kernel_rfl) (by kernel_rfl) (sn_new (us := #[.int .i64 (x : Int), .int .i64 (y : Int)]) (t := 23) (by kernel_rfl) ?_)
  intro O1 X2 hO hOs hb hbx
  have hzO1 := hO; have hyO1 := hOs; clear hO hOs
  have bO1_0 : BoxAt X2 O1 0 (.int .i64 (x : Int)) := hbx 0 _ rfl
  have bO1_1 : BoxAt X2 O1 1 (.int .i64 (y : Int)) := hbx 1 _ rfl
  clear hbx
  replace hE := hE.trans hb
  have hs3 := hb.size
  clear hb
  have lt4 := bO1_0.lt
  refine pl_step rfl (by kernel_rfl) (by kernel_rfl) (by kernel_rfl) (sn_new (us := #[.int .i64 0, .int .i64 0]) (t := 23) (by kernel_rfl) ?_)
  intro O5 X6 hO hOs hb hbx
  have hzO5 := hO; have hyO5 := hOs; clear hO hOs
  have bO5_0 : BoxAt X6 O5 0 (.int .i64 0) := hbx 0 _ rfl
  have bO5_1 : BoxAt X6 O5 1 (.int .i64 0) := hbx 1 _ rfl
  clear hbx
  replace hE := hE.trans hb
  replace bO1_0 := BoxAt.ext hb bO1_0
  replace bO1_1 := BoxAt.ext hb bO1_1
  have hs7 := hb.size
  clear hb
  have lt8 := bO5_0.lt
  refine pl_nil ?_
  refine qw_then ?_
  refine cw_seq ?_
  have hX9 : Ext X6 X6 := Ext.refl _
  refine cw_plain ?_
  refine pl_take (.agg #[.int .i64 (x : Int), .int .i64 (y : Int)]) rfl (by kernel_rfl) (by kernel_rfl) (by kernel_rfl) (ex_load rfl (by kernel_rfl) (ld23 (bO1_0.1) (bO1_1.1))) ?_
  have bO1_t11 := bO1_0
  have bO1_t12 := bO1_1
  have bO5_t13 := bO5_0
  have bO5_t14 := bO5_1
  refine pl_put rfl (by kernel_rfl) (by kernel_rfl) (sn_set2 (O := O5) (j := 0) (v := .int .i64 (x : Int)) (v' := .int .i64 (y : Int)) (ex_store (p := .pointer (some ⟨O5, 0, none⟩)) (v := .agg #[.int .i64 (x : Int), .int .i64 (y : Int)]) rfl (by kernel_rfl) (by kernel_rfl) (st23 bO5_t13.1 bO5_t13.2 bO5_t14.1 bO5_t14.2)) bO5_t13 bO5_t14 ?_)
  intro X10 ho hv0 hv1 hk
  replace hE := ho.ext hE (Nat.le_trans hs3 (Nat.le_of_eq hzO5))
  replace bO1_t11 := ho.box (Nat.ne_of_gt (Nat.lt_of_lt_of_le lt4 (Nat.le_of_eq hzO5))) bO1_t11
  replace bO1_t12 := ho.box (Nat.ne_of_gt (Nat.lt_of_lt_of_le lt4 (Nat.le_of_eq hzO5))) bO1_t12
  have hs15 : X6.heap.size ≤ X10.heap.size := Nat.le_of_eq ho.size.symm
  clear ho hk bO5_t13 bO5_t14
  have bO5_t13 := hv0; clear hv0
  have bO5_t14 := hv1; clear hv1
  refine pl_nil ?_
  refine qw_then ?_
  refine cw_ret ?_
  refine qw_ret [.agg #[.int .i64 (x : Int), .int .i64 (y : Int)]] rfl ⟨⟨_, by kernel_rfl, res_ld (ld23 (bO5_t13.1) (bO5_t14.1))⟩, trivial⟩ ?_
  exact ⟨rfl, hE⟩
set_option maxRecDepth 1000000 in
set_option maxHeartbeats 4000000 in
theorem wider_c (x y u v : Int) (w : World) : Calls Tryd.prog 41 #[.agg #[.int .i64 x, .int .i64 y], .agg #[.int .i64 u, .int .i64 v]] w fun e w' => e = .returned (.agg #[.int .i64 (min x u), .int .i64 (max y v)]) ∧ Ext w w' := by
  refine calls_cw 16 [(1, .agg #[.int .i64 (u : Int), .int .i64 (v : Int)]), (0, .agg #[.int .i64 (x : Int), .int .i64 (y : Int)])] Tryd.func41 rfl Tryd.ntmps41 (by kernel_rfl) (by kernel_rfl) (fun L => ?_)
  have hE : Ext w w := Ext.refl w
  refine cw_seq ?_
  refine cw_plain ?_
  refine pl_step rfl (by kernel_rfl) (by kernel_rfl) (by kernel_rfl) (sn_new (us := #[.int .i64 (x : Int), .int .i64 (y : Int)]) (t := 23) (by kernel_rfl) ?_)
  intro O1 X2 hO hOs hb hbx
  have hzO1 := hO; have hyO1 := hOs; clear hO hOs
  have bO1_0 : BoxAt X2 O1 0 (.int .i64 (x : Int)) := hbx 0 _ rfl
  have bO1_1 : BoxAt X2 O1 1 (.int .i64 (y : Int)) := hbx 1 _ rfl
  clear hbx
  replace hE := hE.trans hb
  have hs3 := hb.size
  clear hb
  have lt4 := bO1_0.lt
  refine pl_step rfl (by kernel_rfl) (by kernel_rfl) (by kernel_rfl) (sn_new (us := #[.int .i64 (u : Int), .int .i64 (v : Int)]) (t := 23) (by kernel_rfl) ?_)
  intro O5 X6 hO hOs hb hbx
  have hzO5 := hO; have hyO5 := hOs; clear hO hOs
  have bO5_0 : BoxAt X6 O5 0 (.int .i64 (u : Int)) := hbx 0 _ rfl
  have bO5_1 : BoxAt X6 O5 1 (.int .i64 (v : Int)) := hbx 1 _ rfl
  clear hbx
  replace hE := hE.trans hb
  replace bO1_0 := BoxAt.ext hb bO1_0
  replace bO1_1 := BoxAt.ext hb bO1_1
  have hs7 := hb.size
  clear hb
  have lt8 := bO5_0.lt
  refine pl_step rfl (by kernel_rfl) (by kernel_rfl) (by kernel_rfl) (sn_new (us := #[.int .i64 0, .int .i64 0]) (t := 23) (by kernel_rfl) ?_)
  intro O9 X10 hO hOs hb hbx
  have hzO9 := hO; have hyO9 := hOs; clear hO hOs
  have bO9_0 : BoxAt X10 O9 0 (.int .i64 0) := hbx 0 _ rfl
  have bO9_1 : BoxAt X10 O9 1 (.int .i64 0) := hbx 1 _ rfl
  clear hbx
  replace hE := hE.trans hb
  replace bO1_0 := BoxAt.ext hb bO1_0
  replace bO1_1 := BoxAt.ext hb bO1_1
  replace bO5_0 := BoxAt.ext hb bO5_0
  replace bO5_1 := BoxAt.ext hb bO5_1
  have hs11 := hb.size
  clear hb
  have lt12 := bO9_0.lt
  refine pl_nil ?_
  refine qw_then ?_
  refine cw_seq ?_
  have hX13 : Ext X10 X10 := Ext.refl _
  refine cw_plain ?_
  refine pl_take (.pointer (some ⟨O1, 0, none⟩)) rfl (by kernel_rfl) (by kernel_rfl) (by kernel_rfl) (by kernel_rfl) ?_
  refine pl_take (.int .i64 (x : Int)) rfl (by kernel_rfl) (by kernel_rfl) (by kernel_rfl) (ex_load rfl (by kernel_rfl) (ld3 (bO1_0.1))) ?_
  refine pl_take (.pointer (some ⟨O5, 0, none⟩)) rfl (by kernel_rfl) (by kernel_rfl) (by kernel_rfl) (by kernel_rfl) ?_
  refine pl_take (.int .i64 (u : Int)) rfl (by kernel_rfl) (by kernel_rfl) (by kernel_rfl) (ex_load rfl (by kernel_rfl) (ld3 (bO5_0.1))) ?_
  refine pl_take (.int .i64 (min (x : Int) (u : Int) : Int)) rfl (by kernel_rfl) (by kernel_rfl) (by kernel_rfl) (ev_int (show _ = Result.ok (Next.value (Value.int .i64 (if (u : Int) < (x : Int) then (u : Int) else (x : Int)))) _ from by kernel_rfl) (by split <;> omega)) ?_
  refine pl_take (.pointer (some ⟨O1, 1, none⟩)) rfl (by kernel_rfl) (by kernel_rfl) (by kernel_rfl) (by kernel_rfl) ?_
  refine pl_take (.int .i64 (y : Int)) rfl (by kernel_rfl) (by kernel_rfl) (by kernel_rfl) (ex_load rfl (by kernel_rfl) (ld3 (bO1_1.1))) ?_
  refine pl_take (.pointer (some ⟨O5, 1, none⟩)) rfl (by kernel_rfl) (by kernel_rfl) (by kernel_rfl) (by kernel_rfl) ?_
  refine pl_take (.int .i64 (v : Int)) rfl (by kernel_rfl) (by kernel_rfl) (by kernel_rfl) (ex_load rfl (by kernel_rfl) (ld3 (bO5_1.1))) ?_
  refine pl_take (.int .i64 (max (y : Int) (v : Int) : Int)) rfl (by kernel_rfl) (by kernel_rfl) (by kernel_rfl) (ev_int (show _ = Result.ok (Next.value (Value.int .i64 (if (y : Int) < (v : Int) then (v : Int) else (y : Int)))) _ from by kernel_rfl) (by split <;> omega)) ?_
  refine pl_take (.agg #[.int .i64 (min (x : Int) (u : Int) : Int), .int .i64 (max (y : Int) (v : Int) : Int)]) rfl (by kernel_rfl) (by kernel_rfl) (by kernel_rfl) (by kernel_rfl) ?_
  have bO1_t15 := bO1_0
  have bO1_t16 := bO1_1
  have bO5_t17 := bO5_0
  have bO5_t18 := bO5_1
  have bO9_t19 := bO9_0
  have bO9_t20 := bO9_1
  refine pl_put rfl (by kernel_rfl) (by kernel_rfl) (sn_set2 (O := O9) (j := 0) (v := .int .i64 (min (x : Int) (u : Int) : Int)) (v' := .int .i64 (max (y : Int) (v : Int) : Int)) (ex_store (p := .pointer (some ⟨O9, 0, none⟩)) (v := .agg #[.int .i64 (min (x : Int) (u : Int) : Int), .int .i64 (max (y : Int) (v : Int) : Int)]) rfl (by kernel_rfl) (by kernel_rfl) (st23 bO9_t19.1 bO9_t19.2 bO9_t20.1 bO9_t20.2)) bO9_t19 bO9_t20 ?_)
  intro X14 ho hv0 hv1 hk
  replace hE := ho.ext hE (Nat.le_trans (Nat.le_trans hs3 hs7) (Nat.le_of_eq hzO9))
  replace bO1_t15 := ho.box (Nat.ne_of_gt (Nat.lt_of_lt_of_le lt4 (Nat.le_trans hs7 (Nat.le_of_eq hzO9)))) bO1_t15
  replace bO1_t16 := ho.box (Nat.ne_of_gt (Nat.lt_of_lt_of_le lt4 (Nat.le_trans hs7 (Nat.le_of_eq hzO9)))) bO1_t16
  replace bO5_t17 := ho.box (Nat.ne_of_gt (Nat.lt_of_lt_of_le lt8 (Nat.le_of_eq hzO9))) bO5_t17
  replace bO5_t18 := ho.box (Nat.ne_of_gt (Nat.lt_of_lt_of_le lt8 (Nat.le_of_eq hzO9))) bO5_t18
  have hs21 : X10.heap.size ≤ X14.heap.size := Nat.le_of_eq ho.size.symm
  clear ho hk bO9_t19 bO9_t20
  have bO9_t19 := hv0; clear hv0
  have bO9_t20 := hv1; clear hv1
  refine pl_nil ?_
  refine qw_then ?_
  refine cw_clean [4] (ws' := [(4, .pointer (some ⟨O9, 0, none⟩))]) (by kernel_rfl) (fun L => ?_)
  refine cw_ret ?_
  refine qw_ret [.agg #[.int .i64 (min (x : Int) (u : Int) : Int), .int .i64 (max (y : Int) (v : Int) : Int)]] rfl ⟨⟨_, by kernel_rfl, res_ld (ld23 (bO9_t19.1) (bO9_t20.1))⟩, trivial⟩ ?_
  exact ⟨rfl, hE⟩
set_option maxRecDepth 1000000 in
set_option maxHeartbeats 4000000 in
theorem svalue_c {w0 : World} {Bo Bs Bl : Nat} {o : Orb} {s : Int × Int} {lk : Int} (d : Int) (w : World) (hS : StAt w0 Bo Bs Bl o s lk) (e0 : Ext w0 w) (hv : Swath.shB o s lk = true) (hd9 : Globe.inB d (-o.sl) o.sl = true) : Calls Tryd.prog 38 #[.int .i64 d, .pointer (some ⟨Bo, 0, none⟩), .pointer (some ⟨Bs, 0, none⟩), .pointer (some ⟨Bl, 0, none⟩)] w fun e w' => e = .returned (.agg #[.int .i64 (Swath.mm o s lk d (s.2 - s.1).toNat).1, .int .i64 (Swath.mm o s lk d (s.2 - s.1).toNat).2]) ∧ Ext w w' := by
  obtain ⟨⟨o0, o1, o2, o3, o4, o5, o6⟩, a0, a1, l0⟩ := hS
  replace o0 := e0.cell o0
  replace o1 := e0.cell o1
  replace o2 := e0.cell o2
  replace o3 := e0.cell o3
  replace o4 := e0.cell o4
  replace o5 := e0.cell o5
  replace o6 := e0.cell o6
  replace a0 := e0.cell a0
  replace a1 := e0.cell a1
  replace l0 := e0.cell l0
  obtain ⟨hok, ⟨sp0, sp1, sp2, sp3⟩, hl0, hl1⟩ := Swath.shB_t.1 hv
  have hd := Globe.inB_t.1 hd9
  have hq0 := Orb.ok_t.1 hok
  refine icalls_cw 37 [(3, .pointer (some ⟨Bl, 0, none⟩)), (2, .pointer (some ⟨Bs, 0, none⟩)), (1, .pointer (some ⟨Bo, 0, none⟩)), (0, .int .i64 (d : Int))] Tryd.func38 rfl Tryd.ntmps38 (by kernel_rfl) (by kernel_rfl) (fun L mm => ?_)
  have hE : Ext w w := Ext.refl w
  refine icw_seq ?_
  refine icw_plain ?_
  refine ipl_step rfl (by kernel_rfl) (by kernel_rfl) (by kernel_rfl) (sn_new (us := #[.int .i64 0, .int .i64 0]) (t := 23) (by kernel_rfl) ?_)
  intro O1 X2 hO hOs hb hbx
  have hzO1 := hO; have hyO1 := hOs; clear hO hOs
  have bO1_0 : BoxAt X2 O1 0 (.int .i64 0) := hbx 0 _ rfl
  have bO1_1 : BoxAt X2 O1 1 (.int .i64 0) := hbx 1 _ rfl
  clear hbx
  replace hE := hE.trans hb
  have hs3 := hb.size
  clear hb
  have lt4 := bO1_0.lt
  refine ipl_nil ?_
  refine iqw_then ?_
  refine icw_seq ?_
  refine icw_plain ?_
  refine ipl_take (.agg #[.int .i64 90, .int .i64 (-90 : Int)]) rfl (by kernel_rfl) (by kernel_rfl) (by kernel_rfl) (by kernel_rfl) ?_
  refine ipl_step rfl (by kernel_rfl) (by kernel_rfl) (by kernel_rfl) (sn_new (us := #[.int .i64 0, .int .i64 0]) (t := 23) (by kernel_rfl) ?_)
  intro O5 X6 hO hOs hb hbx
  have hzO5 := hO; have hyO5 := hOs; clear hO hOs
  have bO5_0 : BoxAt X6 O5 0 (.int .i64 0) := hbx 0 _ rfl
  have bO5_1 : BoxAt X6 O5 1 (.int .i64 0) := hbx 1 _ rfl
  clear hbx
  replace hE := hE.trans hb
  replace bO1_0 := BoxAt.ext hb bO1_0
  replace bO1_1 := BoxAt.ext hb bO1_1
  have hs7 := hb.size
  clear hb
  have lt8 := bO5_0.lt
  refine ipl_put rfl (by kernel_rfl) (by kernel_rfl) (sn_set2 (O := O5) (j := 0) (v := .int .i64 90) (v' := .int .i64 (-90 : Int)) (ex_store (p := .pointer (some ⟨O5, 0, none⟩)) (v := .agg #[.int .i64 90, .int .i64 (-90 : Int)]) rfl (by kernel_rfl) (by kernel_rfl) (st23 bO5_0.1 bO5_0.2 bO5_1.1 bO5_1.2)) bO5_0 bO5_1 ?_)
  intro X9 ho hv0 hv1 hk
  replace hE := ho.ext hE (Nat.le_trans hs3 (Nat.le_of_eq hzO5))
  replace bO1_0 := ho.box (Nat.ne_of_gt (Nat.lt_of_lt_of_le lt4 (Nat.le_of_eq hzO5))) bO1_0
  replace bO1_1 := ho.box (Nat.ne_of_gt (Nat.lt_of_lt_of_le lt4 (Nat.le_of_eq hzO5))) bO1_1
  have hs10 : X6.heap.size ≤ X9.heap.size := Nat.le_of_eq ho.size.symm
  clear ho hk bO5_0 bO5_1
  have bO5_0 := hv0; clear hv0
  have bO5_1 := hv1; clear hv1
  refine ipl_nil ?_
  refine iqw_then ?_
  refine icw_seq ?_
  refine icw_seq ?_
  refine icw_plain ?_
  refine ipl_take (.agg #[.int .i64 (o.p : Int), .int .i64 (o.f : Int), .int .i64 (o.lo : Int), .int .i64 (o.hi : Int), .int .i64 (o.nd : Int), .int .i64 (o.tn : Int), .int .i64 (o.sl : Int)]) rfl (by kernel_rfl) (by kernel_rfl) (by kernel_rfl) (ex_load rfl (by kernel_rfl) (ld26 ((hE.cell o0)) ((hE.cell o1)) ((hE.cell o2)) ((hE.cell o3)) ((hE.cell o4)) ((hE.cell o5)) ((hE.cell o6)))) ?_
  refine ipl_take (.agg #[.int .i64 (s.1 : Int), .int .i64 (s.2 : Int)]) rfl (by kernel_rfl) (by kernel_rfl) (by kernel_rfl) (ex_load rfl (by kernel_rfl) (ld29 ((hE.cell a0)) ((hE.cell a1)))) ?_
  refine ipl_take (.int .i64 (lk : Int)) rfl (by kernel_rfl) (by kernel_rfl) (by kernel_rfl) (ex_load rfl (by kernel_rfl) (ld3 ((hE.cell l0)))) ?_
  refine ipl_take (.int .i64 (d : Int)) rfl (by kernel_rfl) (by kernel_rfl) (by kernel_rfl) (by kernel_rfl) ?_
  refine ipl_step rfl (by kernel_rfl) (by kernel_rfl) (by kernel_rfl) (sn_call (f := 39) (args := #[.agg #[.int .i64 (o.p : Int), .int .i64 (o.f : Int), .int .i64 (o.lo : Int), .int .i64 (o.hi : Int), .int .i64 (o.nd : Int), .int .i64 (o.tn : Int), .int .i64 (o.sl : Int)], .agg #[.int .i64 (s.1 : Int), .int .i64 (s.2 : Int)], .int .i64 (lk : Int), .int .i64 (d : Int)]) (by kernel_rfl) ((shown_c o s lk d _).mono ?_))
  rintro e w20 ⟨B11, B12, B13, B14, rfl, ⟨hn15, hn16, hn17, hn18⟩, hS19, hb⟩
  replace hE := hE.trans hb
  replace bO1_0 := BoxAt.ext hb bO1_0
  replace bO1_1 := BoxAt.ext hb bO1_1
  replace bO5_0 := BoxAt.ext hb bO5_0
  replace bO5_1 := BoxAt.ext hb bO5_1
  have hs21 := hb.size
  clear hb
  have hX22 : Ext w20 w20 := Ext.refl _
  refine ⟨_, rfl, ?_⟩
  refine ipl_nil ?_
  refine iqw_then ?_
  refine icw_block ?_
  refine icw_range (ps := [16]) (by kernel_rfl) (enters_of Tryd.func61 (by kernel_rfl) rfl) (shown_seq hv hd9 (fun b hb hx => (fun h => h.elim (fun e => (Nat.ne_of_gt (Nat.lt_of_lt_of_le lt8 (Nat.le_trans hs10 hn15))) (e.symm.trans hx)) (fun h => h.elim (fun e => (Nat.ne_of_gt (Nat.lt_of_lt_of_le lt8 (Nat.le_trans hs10 hn16))) (e.symm.trans hx)) (fun h => h.elim (fun e => (Nat.ne_of_gt (Nat.lt_of_lt_of_le lt8 (Nat.le_trans hs10 hn17))) (e.symm.trans hx)) (fun e => (Nat.ne_of_gt (Nat.lt_of_lt_of_le lt8 (Nat.le_trans hs10 hn18))) (e.symm.trans hx))))) hb) (fun k hk => hk ▸ (Nat.lt_of_lt_of_le lt8 (Nat.le_trans hs10 hs21))) hS19) (Ext.refl _) (fun _ => rfl) (by kernel_rfl) (fun i W => w20.heap.size ≤ W.heap.size ∧ Ext w W ∧ BoxAt W O1 0 (.int .i64 0) ∧ BoxAt W O1 1 (.int .i64 0) ∧ BoxAt W O5 0 (.int .i64 ((Swath.mm o s lk d i).1 : Int)) ∧ BoxAt W O5 1 (.int .i64 ((Swath.mm o s lk d i).2 : Int))) (fun _ _ _ => False) (fun i A B h hm => by obtain ⟨hsz, hE, bO1_0, bO1_1, z0, z1⟩ := h; exact ⟨Nat.le_trans hsz hm.size, hm.ext hE (Nat.le_trans hs3 (Nat.le_trans hs7 (Nat.le_trans hs10 hs21))), hm.box bO1_0, hm.box bO1_1, hm.box z0, hm.box z1⟩) (fun _ _ _ _ h _ => h.elim) ⟨Nat.le_refl _, hE, bO1_0, bO1_1, bO5_0, bO5_1⟩ ?_ ?_ ?_
  ·
    clear bO1_0 bO1_1 bO5_0 bO5_1 hE
    intro l25 k26 i w23 hii h _
    obtain ⟨hs24, hE, bO1_0, bO1_1, z0, z1⟩ := h
    refine icw_clean [6, 16] (ws' := [(6, .pointer (some ⟨O5, 0, none⟩)), (16, .agg #[.int .i64 (((Swath.sx o lk (s.1 + ((i : Nat) : Int) - d) : Nat) : Int) : Int), .int .i64 (((Orb.cy o (s.1 + ((i : Nat) : Int) - d) : Nat) : Int) : Int), .int .i64 (s.1 + ((i : Nat) : Int) : Int)])]) (by kernel_rfl) (fun L => ?_)
    have hrk27 : RK w20.heap.size (fun k => k = O5) w23 w23 := RK.refl _ _ _
    refine icw_plain ?_
    refine ipl_step rfl (by kernel_rfl) (by kernel_rfl) (by kernel_rfl) (sn_new (us := #[.int .i64 0, .int .i64 0, .int .i64 0]) (t := 86) (by kernel_rfl) ?_)
    intro O28 X29 hO hOs hb hbx
    have hzO28 := hO; have hyO28 := hOs; clear hO hOs
    have bO28_0 : BoxAt X29 O28 0 (.int .i64 0) := hbx 0 _ rfl
    have bO28_1 : BoxAt X29 O28 1 (.int .i64 0) := hbx 1 _ rfl
    have bO28_2 : BoxAt X29 O28 2 (.int .i64 0) := hbx 2 _ rfl
    clear hbx
    replace hE := hE.trans hb
    replace bO1_0 := BoxAt.ext hb bO1_0
    replace bO1_1 := BoxAt.ext hb bO1_1
    replace z0 := BoxAt.ext hb z0
    replace z1 := BoxAt.ext hb z1
    replace hrk27 := hrk27.ext hb
    have hs30 := hb.size
    clear hb
    have lt31 := bO28_0.lt
    refine ipl_put rfl (by kernel_rfl) (by kernel_rfl) (sn_setK3 (O := O28) (j := 0) (v0 := .int .i64 (((Swath.sx o lk (s.1 + ((i : Nat) : Int) - d) : Nat) : Int) : Int)) (v1 := .int .i64 (((Orb.cy o (s.1 + ((i : Nat) : Int) - d) : Nat) : Int) : Int)) (v2 := .int .i64 (s.1 + ((i : Nat) : Int) : Int)) (ex_store (p := .pointer (some ⟨O28, 0, none⟩)) (v := .agg #[.int .i64 (((Swath.sx o lk (s.1 + ((i : Nat) : Int) - d) : Nat) : Int) : Int), .int .i64 (((Orb.cy o (s.1 + ((i : Nat) : Int) - d) : Nat) : Int) : Int), .int .i64 (s.1 + ((i : Nat) : Int) : Int)]) rfl (by kernel_rfl) (by kernel_rfl) (st86 bO28_0.1 bO28_0.2 bO28_1.1 bO28_1.2 bO28_2.1 bO28_2.2)) bO28_0 bO28_1 bO28_2 ?_)
    intro X32 ho hv0 hv1 hv2 hk
    replace hE := ho.ext hE (Nat.le_trans (Nat.le_trans hs3 (Nat.le_trans hs7 (Nat.le_trans hs10 (Nat.le_trans hs21 hs24)))) (Nat.le_of_eq hzO28))
    replace bO1_0 := ho.box (Nat.ne_of_gt (Nat.lt_of_lt_of_le lt4 (Nat.le_trans (Nat.le_trans hs7 (Nat.le_trans hs10 (Nat.le_trans hs21 hs24))) (Nat.le_of_eq hzO28)))) bO1_0
    replace bO1_1 := ho.box (Nat.ne_of_gt (Nat.lt_of_lt_of_le lt4 (Nat.le_trans (Nat.le_trans hs7 (Nat.le_trans hs10 (Nat.le_trans hs21 hs24))) (Nat.le_of_eq hzO28)))) bO1_1
    replace z0 := ho.box (Nat.ne_of_gt (Nat.lt_of_lt_of_le lt8 (Nat.le_trans (Nat.le_trans hs10 (Nat.le_trans hs21 hs24)) (Nat.le_of_eq hzO28)))) z0
    replace z1 := ho.box (Nat.ne_of_gt (Nat.lt_of_lt_of_le lt8 (Nat.le_trans (Nat.le_trans hs10 (Nat.le_trans hs21 hs24)) (Nat.le_of_eq hzO28)))) z1
    replace hrk27 := hrk27.turn ho (.inr (Nat.le_of_eq hzO28))
    have hs33 : X29.heap.size ≤ X32.heap.size := Nat.le_of_eq ho.size.symm
    clear ho hk bO28_0 bO28_1 bO28_2
    have bO28_0 := hv0; clear hv0
    have bO28_1 := hv1; clear hv1
    have bO28_2 := hv2; clear hv2
    refine ipl_nil ?_
    refine iqw_asg hrk27 (fun w35 hm34 => ?_)
    replace hE := hm34.ext hE (Nat.le_trans hs3 (Nat.le_trans hs7 (Nat.le_trans hs10 hs21)))
    replace bO1_0 := hm34.box bO1_0
    replace bO1_1 := hm34.box bO1_1
    replace z0 := hm34.box z0
    replace z1 := hm34.box z1
    replace bO28_0 := hm34.box bO28_0
    replace bO28_1 := hm34.box bO28_1
    replace bO28_2 := hm34.box bO28_2
    have hs36 := hm34.size
    have hrk37 : RK w20.heap.size (fun k => k = O5) w35 w35 := RK.refl _ _ _
    refine icw_block ?_
    refine icw_seq ?_
    have hmin : Sun.minB (s.1 + ((i : Nat) : Int)) = true := Sun.minB_t.2 ⟨by omega, by omega⟩
    have hsx := Swath.sx_lt o lk (s.1 + ((i : Nat) : Int) - d)
    have hcy := Orb.cy_lt hok (s.1 + ((i : Nat) : Int) - d)
    have hvc : Globe.vcB ((Swath.sx o lk (s.1 + ((i : Nat) : Int) - d) : Nat) : Int) ((Orb.cy o (s.1 + ((i : Nat) : Int) - d) : Nat) : Int) = true := Globe.vcB_t.2 ⟨by omega, by omega, by omega, by omega⟩
    refine icw_plain ?_
    refine ipl_take (.pointer (some ⟨O28, 0, none⟩)) rfl (by kernel_rfl) (by kernel_rfl) (by kernel_rfl) (by kernel_rfl) ?_
    refine ipl_take (.agg #[.int .i64 (((Swath.sx o lk (s.1 + ((i : Nat) : Int) - d) : Nat) : Int) : Int), .int .i64 (((Orb.cy o (s.1 + ((i : Nat) : Int) - d) : Nat) : Int) : Int)]) rfl (by kernel_rfl) (by kernel_rfl) (by kernel_rfl) (ex_load rfl (by kernel_rfl) (ld33 (bO28_0.1) (bO28_1.1))) ?_
    refine ipl_take (.pointer (some ⟨O28, 2, none⟩)) rfl (by kernel_rfl) (by kernel_rfl) (by kernel_rfl) (by kernel_rfl) ?_
    refine ipl_take (.int .i64 (s.1 + ((i : Nat) : Int) : Int)) rfl (by kernel_rfl) (by kernel_rfl) (by kernel_rfl) (ex_load rfl (by kernel_rfl) (ld3 (bO28_2.1))) ?_
    refine ipl_step rfl (by kernel_rfl) (by kernel_rfl) (by kernel_rfl) (sn_call (f := 40) (args := #[.agg #[.int .i64 (((Swath.sx o lk (s.1 + ((i : Nat) : Int) - d) : Nat) : Int) : Int), .int .i64 (((Orb.cy o (s.1 + ((i : Nat) : Int) - d) : Nat) : Int) : Int)], .int .i64 (s.1 + ((i : Nat) : Int) : Int)]) (by kernel_rfl) ((Height_yes _ _ _ _ hmin hvc).mono ?_))
    rintro e w38 ⟨rfl, hb⟩
    replace hE := hE.trans hb
    replace bO1_0 := BoxAt.ext hb bO1_0
    replace bO1_1 := BoxAt.ext hb bO1_1
    replace z0 := BoxAt.ext hb z0
    replace z1 := BoxAt.ext hb z1
    replace bO28_0 := BoxAt.ext hb bO28_0
    replace bO28_1 := BoxAt.ext hb bO28_1
    replace bO28_2 := BoxAt.ext hb bO28_2
    replace hrk37 := hrk37.ext hb
    have hs39 := hb.size
    clear hb
    refine ⟨_, rfl, ?_⟩
    refine ipl_take (.tuple #[.int .i64 (Swath.hgt o s lk d i : Int), .int .i64 0]) rfl (by kernel_rfl) (by kernel_rfl) (by kernel_rfl) (by kernel_rfl) ?_
    refine ipl_take (.int .i64 (Swath.hgt o s lk d i : Int)) rfl (by kernel_rfl) (by kernel_rfl) (by kernel_rfl) (by kernel_rfl) ?_
    refine ipl_take (.int .i64 0) rfl (by kernel_rfl) (by kernel_rfl) (by kernel_rfl) (by kernel_rfl) ?_
    refine ipl_take (.int .i64 (Swath.hgt o s lk d i : Int)) rfl (by kernel_rfl) (by kernel_rfl) (by kernel_rfl) (by kernel_rfl) ?_
    refine ipl_take (.int .i64 0) rfl (by kernel_rfl) (by kernel_rfl) (by kernel_rfl) (by kernel_rfl) ?_
    refine ipl_nil ?_
    refine iqw_then ?_
    refine icw_seq ?_
    refine icw_seq ?_
    refine icw_plain ?_
    refine ipl_take (.int .i64 0) rfl (by kernel_rfl) (by kernel_rfl) (by kernel_rfl) (by kernel_rfl) ?_
    refine ipl_take (.bool false) rfl (by kernel_rfl) (by kernel_rfl) (by kernel_rfl) (by kernel_rfl) ?_
    refine ipl_nil ?_
    refine iqw_then ?_
    refine icw_clean [6, 8, 26] (ws' := [(6, .pointer (some ⟨O5, 0, none⟩)), (8, .int .i64 (Swath.hgt o s lk d i : Int)), (26, .bool false)]) (by kernel_rfl) (fun L => ?_)
    refine icw_f (by kernel_rfl) ?_
    refine icw_skip ?_
    refine iqw_then ?_
    refine icw_plain ?_
    refine ipl_take (.pointer (some ⟨O5, 0, none⟩)) rfl (by kernel_rfl) (by kernel_rfl) (by kernel_rfl) (by kernel_rfl) ?_
    refine ipl_take (.int .i64 ((Swath.mm o s lk d i).1 : Int)) rfl (by kernel_rfl) (by kernel_rfl) (by kernel_rfl) (ex_load rfl (by kernel_rfl) (ld3 (z0.1))) ?_
    refine ipl_take (.int .i64 (Swath.hgt o s lk d i : Int)) rfl (by kernel_rfl) (by kernel_rfl) (by kernel_rfl) (by kernel_rfl) ?_
    refine ipl_take (.int .i64 (min ((Swath.mm o s lk d i).1 : Int) (Swath.hgt o s lk d i : Int) : Int)) rfl (by kernel_rfl) (by kernel_rfl) (by kernel_rfl) (ev_int (show _ = Result.ok (Next.value (Value.int .i64 (if (Swath.hgt o s lk d i : Int) < ((Swath.mm o s lk d i).1 : Int) then (Swath.hgt o s lk d i : Int) else ((Swath.mm o s lk d i).1 : Int)))) _ from by kernel_rfl) (by split <;> omega)) ?_
    refine ipl_take (.pointer (some ⟨O5, 1, none⟩)) rfl (by kernel_rfl) (by kernel_rfl) (by kernel_rfl) (by kernel_rfl) ?_
    refine ipl_take (.int .i64 ((Swath.mm o s lk d i).2 : Int)) rfl (by kernel_rfl) (by kernel_rfl) (by kernel_rfl) (ex_load rfl (by kernel_rfl) (ld3 (z1.1))) ?_
    refine ipl_take (.int .i64 (Swath.hgt o s lk d i : Int)) rfl (by kernel_rfl) (by kernel_rfl) (by kernel_rfl) (by kernel_rfl) ?_
    refine ipl_take (.int .i64 (max ((Swath.mm o s lk d i).2 : Int) (Swath.hgt o s lk d i : Int) : Int)) rfl (by kernel_rfl) (by kernel_rfl) (by kernel_rfl) (ev_int (show _ = Result.ok (Next.value (Value.int .i64 (if ((Swath.mm o s lk d i).2 : Int) < (Swath.hgt o s lk d i : Int) then (Swath.hgt o s lk d i : Int) else ((Swath.mm o s lk d i).2 : Int)))) _ from by kernel_rfl) (by split <;> omega)) ?_
    refine ipl_take (.agg #[.int .i64 (min ((Swath.mm o s lk d i).1 : Int) (Swath.hgt o s lk d i : Int) : Int), .int .i64 (max ((Swath.mm o s lk d i).2 : Int) (Swath.hgt o s lk d i : Int) : Int)]) rfl (by kernel_rfl) (by kernel_rfl) (by kernel_rfl) (by kernel_rfl) ?_
    refine ipl_put rfl (by kernel_rfl) (by kernel_rfl) (sn_set2 (O := O5) (j := 0) (v := .int .i64 (min ((Swath.mm o s lk d i).1 : Int) (Swath.hgt o s lk d i : Int) : Int)) (v' := .int .i64 (max ((Swath.mm o s lk d i).2 : Int) (Swath.hgt o s lk d i : Int) : Int)) (ex_store (p := .pointer (some ⟨O5, 0, none⟩)) (v := .agg #[.int .i64 (min ((Swath.mm o s lk d i).1 : Int) (Swath.hgt o s lk d i : Int) : Int), .int .i64 (max ((Swath.mm o s lk d i).2 : Int) (Swath.hgt o s lk d i : Int) : Int)]) rfl (by kernel_rfl) (by kernel_rfl) (st23 z0.1 z0.2 z1.1 z1.2)) z0 z1 ?_)
    intro X40 ho hv0 hv1 hk
    replace hE := ho.ext hE (Nat.le_trans hs3 (Nat.le_of_eq hzO5))
    replace bO1_0 := ho.box (Nat.ne_of_gt (Nat.lt_of_lt_of_le lt4 (Nat.le_of_eq hzO5))) bO1_0
    replace bO1_1 := ho.box (Nat.ne_of_gt (Nat.lt_of_lt_of_le lt4 (Nat.le_of_eq hzO5))) bO1_1
    replace bO28_0 := ho.box (Nat.ne_of_lt (Nat.lt_of_lt_of_le lt8 (Nat.le_trans (Nat.le_trans hs10 (Nat.le_trans hs21 hs24)) (Nat.le_of_eq hzO28)))) bO28_0
    replace bO28_1 := ho.box (Nat.ne_of_lt (Nat.lt_of_lt_of_le lt8 (Nat.le_trans (Nat.le_trans hs10 (Nat.le_trans hs21 hs24)) (Nat.le_of_eq hzO28)))) bO28_1
    replace bO28_2 := ho.box (Nat.ne_of_lt (Nat.lt_of_lt_of_le lt8 (Nat.le_trans (Nat.le_trans hs10 (Nat.le_trans hs21 hs24)) (Nat.le_of_eq hzO28)))) bO28_2
    replace hrk37 := hrk37.turn ho (.inl (rfl))
    have hs41 : w38.heap.size ≤ X40.heap.size := Nat.le_of_eq ho.size.symm
    clear ho hk z0 z1
    have z0 := hv0; clear hv0
    have z1 := hv1; clear hv1
    refine ipl_nil ?_
    refine iqw_block ?_
    exact iqw_next hrk37 ⟨(Nat.le_trans hs24 (Nat.le_trans hs30 (Nat.le_trans hs33 (Nat.le_trans hs36 (Nat.le_trans hs39 hs41))))), hE, bO1_0, bO1_1, z0, z1⟩
  ·
    clear bO1_0 bO1_1 bO5_0 bO5_1 hE
    intro D42 w43 hD46 hDl47 h hmk45
    obtain ⟨hs44, hE, bO1_0, bO1_1, z0, z1⟩ := h
    refine iqw_block ?_
    refine iqw_then ?_
    refine icw_seq ?_
    refine icw_plain ?_
    refine ipl_take (.agg #[.int .i64 ((Swath.mm o s lk d ((s.2 - s.1).toNat)).1 : Int), .int .i64 ((Swath.mm o s lk d ((s.2 - s.1).toNat)).2 : Int)]) rfl (by kernel_rfl) (by kernel_rfl) (by kernel_rfl) (ex_load rfl (by kernel_rfl) (ld23 (z0.1) (z1.1))) ?_
    refine ipl_put rfl (by kernel_rfl) (by kernel_rfl) (sn_set2 (O := O1) (j := 0) (v := .int .i64 ((Swath.mm o s lk d ((s.2 - s.1).toNat)).1 : Int)) (v' := .int .i64 ((Swath.mm o s lk d ((s.2 - s.1).toNat)).2 : Int)) (ex_store (p := .pointer (some ⟨O1, 0, none⟩)) (v := .agg #[.int .i64 ((Swath.mm o s lk d ((s.2 - s.1).toNat)).1 : Int), .int .i64 ((Swath.mm o s lk d ((s.2 - s.1).toNat)).2 : Int)]) rfl (by kernel_rfl) (by kernel_rfl) (st23 bO1_0.1 bO1_0.2 bO1_1.1 bO1_1.2)) bO1_0 bO1_1 ?_)
    intro X48 ho hv0 hv1 hk
    replace hE := ho.ext hE (Nat.le_of_eq hzO1)
    replace z0 := ho.box (Nat.ne_of_lt (Nat.lt_of_lt_of_le lt4 (Nat.le_of_eq hzO5))) z0
    replace z1 := ho.box (Nat.ne_of_lt (Nat.lt_of_lt_of_le lt4 (Nat.le_of_eq hzO5))) z1
    replace hmk45 := mk_turn hmk45 ho
    have hs49 : w43.heap.size ≤ X48.heap.size := Nat.le_of_eq ho.size.symm
    clear ho hk bO1_0 bO1_1
    have bO1_0 := hv0; clear hv0
    have bO1_1 := hv1; clear hv1
    refine ipl_nil ?_
    refine iqw_then ?_
    refine icw_ret ?_
    refine iqw_ret w.heap.size [.agg #[.int .i64 ((Swath.mm o s lk d ((s.2 - s.1).toNat)).1 : Int), .int .i64 ((Swath.mm o s lk d ((s.2 - s.1).toNat)).2 : Int)]] rfl (marksC (Nat.le_trans (Nat.le_trans hs3 (Nat.le_trans hs7 (Nat.le_trans hs10 hs21))) hD46) hmk45 (fun _ h => by cases h)) (by simp) (fun W9 hm9 => ?_)
    replace hE := hm9.ext hE (Nat.le_refl _)
    replace z0 := hm9.box z0
    replace z1 := hm9.box z1
    replace bO1_0 := hm9.box bO1_0
    replace bO1_1 := hm9.box bO1_1
    have hs50 := hm9.size
    refine ⟨⟨⟨_, by kernel_rfl, res_ld (ld23 (bO1_0.1) (bO1_1.1))⟩, trivial⟩, ?_⟩
    exact ⟨rfl, hE⟩
  · intro _ _ _ _ _ _ _ h _; exact h.elim
set_option maxRecDepth 1000000 in
set_option maxHeartbeats 4000000 in
theorem foldN_c {w0 : World} {Bo Bs Bl : Nat} {o : Orb} {s : Int × Int} {lk : Int} (w : World) (hS : StAt w0 Bo Bs Bl o s lk) (e0 : Ext w0 w) (hv : Swath.shB o s lk = true) :
    Calls Tryd.prog 42 #[.agg #[.int .i64 o.p, .int .i64 o.f, .int .i64 o.lo, .int .i64 o.hi, .int .i64 o.nd, .int .i64 o.tn, .int .i64 o.sl], .func (.func 38) #[] #[.pointer (some ⟨Bo, 0, none⟩), .pointer (some ⟨Bs, 0, none⟩), .pointer (some ⟨Bl, 0, none⟩)], .func (.func 43) #[] #[], .func (.func 41) #[] #[]] w fun e w' => e = .returned (.agg #[.int .i64 (Swath.suns o s lk).1, .int .i64 (Swath.suns o s lk).2]) ∧ Ext w w' := by
  obtain ⟨hok, ⟨sp0, sp1, sp2, sp3⟩, hl0, hl1⟩ := Swath.shB_t.1 hv
  have hq0 := Orb.ok_t.1 hok
  have hN : Swath.lates o = (2 * o.sl + 1).toNat := rfl
  refine icalls_cw 31 [(3, .func (.func 41) #[] #[]), (2, .func (.func 43) #[] #[]), (1, .func (.func 38) #[] #[.pointer (some ⟨Bo, 0, none⟩), .pointer (some ⟨Bs, 0, none⟩), .pointer (some ⟨Bl, 0, none⟩)]), (0, .agg #[.int .i64 (o.p : Int), .int .i64 (o.f : Int), .int .i64 (o.lo : Int), .int .i64 (o.hi : Int), .int .i64 (o.nd : Int), .int .i64 (o.tn : Int), .int .i64 (o.sl : Int)])] Tryd.func42 rfl Tryd.ntmps42 (by kernel_rfl) (by kernel_rfl) (fun L mm => ?_)
  have hE : Ext w w := Ext.refl w
  refine icw_seq ?_
  refine icw_plain ?_
  refine ipl_step rfl (by kernel_rfl) (by kernel_rfl) (by kernel_rfl) (sn_new (us := #[.int .i64 (o.p : Int), .int .i64 (o.f : Int), .int .i64 (o.lo : Int), .int .i64 (o.hi : Int), .int .i64 (o.nd : Int), .int .i64 (o.tn : Int), .int .i64 (o.sl : Int)]) (t := 26) (by kernel_rfl) ?_)
  intro O1 X2 hO hOs hb hbx
  have hzO1 := hO; have hyO1 := hOs; clear hO hOs
  have bO1_0 : BoxAt X2 O1 0 (.int .i64 (o.p : Int)) := hbx 0 _ rfl
  have bO1_1 : BoxAt X2 O1 1 (.int .i64 (o.f : Int)) := hbx 1 _ rfl
  have bO1_2 : BoxAt X2 O1 2 (.int .i64 (o.lo : Int)) := hbx 2 _ rfl
  have bO1_3 : BoxAt X2 O1 3 (.int .i64 (o.hi : Int)) := hbx 3 _ rfl
  have bO1_4 : BoxAt X2 O1 4 (.int .i64 (o.nd : Int)) := hbx 4 _ rfl
  have bO1_5 : BoxAt X2 O1 5 (.int .i64 (o.tn : Int)) := hbx 5 _ rfl
  have bO1_6 : BoxAt X2 O1 6 (.int .i64 (o.sl : Int)) := hbx 6 _ rfl
  clear hbx
  replace hE := hE.trans hb
  have hs3 := hb.size
  clear hb
  have lt4 := bO1_0.lt
  refine ipl_step rfl (by kernel_rfl) (by kernel_rfl) (by kernel_rfl) (sn_new (us := #[.func (.func 38) #[] #[.pointer (some ⟨Bo, 0, none⟩), .pointer (some ⟨Bs, 0, none⟩), .pointer (some ⟨Bl, 0, none⟩)]]) (t := 89) (by kernel_rfl) ?_)
  intro O5 X6 hO hOs hb hbx
  have hzO5 := hO; have hyO5 := hOs; clear hO hOs
  have bO5_0 : BoxAt X6 O5 0 (.func (.func 38) #[] #[.pointer (some ⟨Bo, 0, none⟩), .pointer (some ⟨Bs, 0, none⟩), .pointer (some ⟨Bl, 0, none⟩)]) := hbx 0 _ rfl
  clear hbx
  replace hE := hE.trans hb
  replace bO1_0 := BoxAt.ext hb bO1_0
  replace bO1_1 := BoxAt.ext hb bO1_1
  replace bO1_2 := BoxAt.ext hb bO1_2
  replace bO1_3 := BoxAt.ext hb bO1_3
  replace bO1_4 := BoxAt.ext hb bO1_4
  replace bO1_5 := BoxAt.ext hb bO1_5
  replace bO1_6 := BoxAt.ext hb bO1_6
  have hs7 := hb.size
  clear hb
  have lt8 := bO5_0.lt
  refine ipl_step rfl (by kernel_rfl) (by kernel_rfl) (by kernel_rfl) (sn_new (us := #[.func (.func 43) #[] #[]]) (t := 92) (by kernel_rfl) ?_)
  intro O9 X10 hO hOs hb hbx
  have hzO9 := hO; have hyO9 := hOs; clear hO hOs
  have bO9_0 : BoxAt X10 O9 0 (.func (.func 43) #[] #[]) := hbx 0 _ rfl
  clear hbx
  replace hE := hE.trans hb
  replace bO1_0 := BoxAt.ext hb bO1_0
  replace bO1_1 := BoxAt.ext hb bO1_1
  replace bO1_2 := BoxAt.ext hb bO1_2
  replace bO1_3 := BoxAt.ext hb bO1_3
  replace bO1_4 := BoxAt.ext hb bO1_4
  replace bO1_5 := BoxAt.ext hb bO1_5
  replace bO1_6 := BoxAt.ext hb bO1_6
  replace bO5_0 := BoxAt.ext hb bO5_0
  have hs11 := hb.size
  clear hb
  have lt12 := bO9_0.lt
  refine ipl_step rfl (by kernel_rfl) (by kernel_rfl) (by kernel_rfl) (sn_new (us := #[.func (.func 41) #[] #[]]) (t := 90) (by kernel_rfl) ?_)
  intro O13 X14 hO hOs hb hbx
  have hzO13 := hO; have hyO13 := hOs; clear hO hOs
  have bO13_0 : BoxAt X14 O13 0 (.func (.func 41) #[] #[]) := hbx 0 _ rfl
  clear hbx
  replace hE := hE.trans hb
  replace bO1_0 := BoxAt.ext hb bO1_0
  replace bO1_1 := BoxAt.ext hb bO1_1
  replace bO1_2 := BoxAt.ext hb bO1_2
  replace bO1_3 := BoxAt.ext hb bO1_3
  replace bO1_4 := BoxAt.ext hb bO1_4
  replace bO1_5 := BoxAt.ext hb bO1_5
  replace bO1_6 := BoxAt.ext hb bO1_6
  replace bO5_0 := BoxAt.ext hb bO5_0
  replace bO9_0 := BoxAt.ext hb bO9_0
  have hs15 := hb.size
  clear hb
  have lt16 := bO13_0.lt
  refine ipl_step rfl (by kernel_rfl) (by kernel_rfl) (by kernel_rfl) (sn_new (us := #[.int .i64 0, .int .i64 0]) (t := 23) (by kernel_rfl) ?_)
  intro O17 X18 hO hOs hb hbx
  have hzO17 := hO; have hyO17 := hOs; clear hO hOs
  have bO17_0 : BoxAt X18 O17 0 (.int .i64 0) := hbx 0 _ rfl
  have bO17_1 : BoxAt X18 O17 1 (.int .i64 0) := hbx 1 _ rfl
  clear hbx
  replace hE := hE.trans hb
  replace bO1_0 := BoxAt.ext hb bO1_0
  replace bO1_1 := BoxAt.ext hb bO1_1
  replace bO1_2 := BoxAt.ext hb bO1_2
  replace bO1_3 := BoxAt.ext hb bO1_3
  replace bO1_4 := BoxAt.ext hb bO1_4
  replace bO1_5 := BoxAt.ext hb bO1_5
  replace bO1_6 := BoxAt.ext hb bO1_6
  replace bO5_0 := BoxAt.ext hb bO5_0
  replace bO9_0 := BoxAt.ext hb bO9_0
  replace bO13_0 := BoxAt.ext hb bO13_0
  have hs19 := hb.size
  clear hb
  have lt20 := bO17_0.lt
  refine ipl_nil ?_
  refine iqw_then ?_
  refine icw_seq ?_
  refine icw_plain ?_
  refine ipl_step rfl (by kernel_rfl) (by kernel_rfl) (by kernel_rfl) (sn_new (us := #[.int .i64 0, .int .i64 0]) (t := 23) (by kernel_rfl) ?_)
  intro O21 X22 hO hOs hb hbx
  have hzO21 := hO; have hyO21 := hOs; clear hO hOs
  have bO21_0 : BoxAt X22 O21 0 (.int .i64 0) := hbx 0 _ rfl
  have bO21_1 : BoxAt X22 O21 1 (.int .i64 0) := hbx 1 _ rfl
  clear hbx
  replace hE := hE.trans hb
  replace bO1_0 := BoxAt.ext hb bO1_0
  replace bO1_1 := BoxAt.ext hb bO1_1
  replace bO1_2 := BoxAt.ext hb bO1_2
  replace bO1_3 := BoxAt.ext hb bO1_3
  replace bO1_4 := BoxAt.ext hb bO1_4
  replace bO1_5 := BoxAt.ext hb bO1_5
  replace bO1_6 := BoxAt.ext hb bO1_6
  replace bO5_0 := BoxAt.ext hb bO5_0
  replace bO9_0 := BoxAt.ext hb bO9_0
  replace bO13_0 := BoxAt.ext hb bO13_0
  replace bO17_0 := BoxAt.ext hb bO17_0
  replace bO17_1 := BoxAt.ext hb bO17_1
  have hs23 := hb.size
  clear hb
  have lt24 := bO21_0.lt
  refine ipl_nil ?_
  refine iqw_then ?_
  refine icw_seq ?_
  refine icw_seq ?_
  refine icw_plain ?_
  refine ipl_take (.agg #[.int .i64 (o.p : Int), .int .i64 (o.f : Int), .int .i64 (o.lo : Int), .int .i64 (o.hi : Int), .int .i64 (o.nd : Int), .int .i64 (o.tn : Int), .int .i64 (o.sl : Int)]) rfl (by kernel_rfl) (by kernel_rfl) (by kernel_rfl) (ex_load rfl (by kernel_rfl) (ld26 (bO1_0.1) (bO1_1.1) (bO1_2.1) (bO1_3.1) (bO1_4.1) (bO1_5.1) (bO1_6.1))) ?_
  refine ipl_step rfl (by kernel_rfl) (by kernel_rfl) (by kernel_rfl) (sn_call (f := 49) (args := #[.agg #[.int .i64 (o.p : Int), .int .i64 (o.f : Int), .int .i64 (o.lo : Int), .int .i64 (o.hi : Int), .int .i64 (o.nd : Int), .int .i64 (o.tn : Int), .int .i64 (o.sl : Int)]]) (by kernel_rfl) ((delays_c o _).mono ?_))
  rintro e w28 ⟨B25, rfl, hn26, hc27, hb⟩
  replace hE := hE.trans hb
  replace bO1_0 := BoxAt.ext hb bO1_0
  replace bO1_1 := BoxAt.ext hb bO1_1
  replace bO1_2 := BoxAt.ext hb bO1_2
  replace bO1_3 := BoxAt.ext hb bO1_3
  replace bO1_4 := BoxAt.ext hb bO1_4
  replace bO1_5 := BoxAt.ext hb bO1_5
  replace bO1_6 := BoxAt.ext hb bO1_6
  replace bO5_0 := BoxAt.ext hb bO5_0
  replace bO9_0 := BoxAt.ext hb bO9_0
  replace bO13_0 := BoxAt.ext hb bO13_0
  replace bO17_0 := BoxAt.ext hb bO17_0
  replace bO17_1 := BoxAt.ext hb bO17_1
  replace bO21_0 := BoxAt.ext hb bO21_0
  replace bO21_1 := BoxAt.ext hb bO21_1
  have hs29 := hb.size
  clear hb
  have lt30 := World.block_lt_of_cell? _ _ hc27
  refine ⟨_, rfl, ?_⟩
  refine ipl_nil ?_
  refine iqw_then ?_
  refine icw_block ?_
  refine icw_range (ps := [14]) (by kernel_rfl) (enters_of Tryd.func68 (by kernel_rfl) rfl) (delays_seq (X := fun k => k = O21) hok (fun h => (Nat.ne_of_gt (Nat.lt_of_lt_of_le lt24 hn26)) h) hc27) (Ext.refl _) (fun _ => rfl) (by kernel_rfl) (fun i W => w28.heap.size ≤ W.heap.size ∧ Ext w W ∧ BoxAt W O1 0 (.int .i64 (o.p : Int)) ∧ BoxAt W O1 1 (.int .i64 (o.f : Int)) ∧ BoxAt W O1 2 (.int .i64 (o.lo : Int)) ∧ BoxAt W O1 3 (.int .i64 (o.hi : Int)) ∧ BoxAt W O1 4 (.int .i64 (o.nd : Int)) ∧ BoxAt W O1 5 (.int .i64 (o.tn : Int)) ∧ BoxAt W O1 6 (.int .i64 (o.sl : Int)) ∧ BoxAt W O5 0 (.func (.func 38) #[] #[.pointer (some ⟨Bo, 0, none⟩), .pointer (some ⟨Bs, 0, none⟩), .pointer (some ⟨Bl, 0, none⟩)]) ∧ BoxAt W O9 0 (.func (.func 43) #[] #[]) ∧ BoxAt W O13 0 (.func (.func 41) #[] #[]) ∧ BoxAt W O17 0 (.int .i64 0) ∧ BoxAt W O17 1 (.int .i64 0) ∧ W.cell? ⟨B25, 6, none⟩ = some (.int .i64 (o.sl : Int)) ∧ BoxAt W O21 0 (.int .i64 ((Swath.sunF (Swath.sunJ o s lk) i).1 : Int)) ∧ BoxAt W O21 1 (.int .i64 ((Swath.sunF (Swath.sunJ o s lk) i).2 : Int))) (fun _ _ _ => False) (fun i A B h hm => by obtain ⟨hsz, hE, bO1_0, bO1_1, bO1_2, bO1_3, bO1_4, bO1_5, bO1_6, bO5_0, bO9_0, bO13_0, bO17_0, bO17_1, hc27, z0, z1⟩ := h; exact ⟨Nat.le_trans hsz hm.size, hm.ext hE (Nat.le_trans hs3 (Nat.le_trans hs7 (Nat.le_trans hs11 (Nat.le_trans hs15 (Nat.le_trans hs19 (Nat.le_trans hs23 hs29)))))), hm.box bO1_0, hm.box bO1_1, hm.box bO1_2, hm.box bO1_3, hm.box bO1_4, hm.box bO1_5, hm.box bO1_6, hm.box bO5_0, hm.box bO9_0, hm.box bO13_0, hm.box bO17_0, hm.box bO17_1, hm.cell hc27, hm.box z0, hm.box z1⟩) (fun _ _ _ _ h _ => h.elim) ⟨Nat.le_refl _, hE, bO1_0, bO1_1, bO1_2, bO1_3, bO1_4, bO1_5, bO1_6, bO5_0, bO9_0, bO13_0, bO17_0, bO17_1, hc27, bO21_0, bO21_1⟩ ?_ ?_ ?_
  ·
    clear bO1_0 bO1_1 bO1_2 bO1_3 bO1_4 bO1_5 bO1_6 bO5_0 bO9_0 bO13_0 bO17_0 bO17_1 bO21_0 bO21_1 hc27 hE
    intro l33 k34 i w31 hii h _
    obtain ⟨hs32, hE, bO1_0, bO1_1, bO1_2, bO1_3, bO1_4, bO1_5, bO1_6, bO5_0, bO9_0, bO13_0, bO17_0, bO17_1, hc27, z0, z1⟩ := h
    refine icw_clean [4, 5, 6, 7, 9, 14] (ws' := [(4, .pointer (some ⟨O1, 0, none⟩)), (5, .pointer (some ⟨O5, 0, none⟩)), (6, .pointer (some ⟨O9, 0, none⟩)), (7, .pointer (some ⟨O13, 0, none⟩)), (9, .pointer (some ⟨O21, 0, none⟩)), (14, .int .i64 (-o.sl + ((i : Nat) : Int) : Int))]) (by kernel_rfl) (fun L => ?_)
    have hrk35 : RK w28.heap.size (fun k => k = O21) w31 w31 := RK.refl _ _ _
    refine icw_plain ?_
    refine ipl_take (.int .i64 (-o.sl + ((i : Nat) : Int) : Int)) rfl (by kernel_rfl) (by kernel_rfl) (by kernel_rfl) (by kernel_rfl) ?_
    refine ipl_nil ?_
    refine iqw_asg hrk35 (fun w37 hm36 => ?_)
    replace hE := hm36.ext hE (Nat.le_trans hs3 (Nat.le_trans hs7 (Nat.le_trans hs11 (Nat.le_trans hs15 (Nat.le_trans hs19 (Nat.le_trans hs23 hs29))))))
    replace bO1_0 := hm36.box bO1_0
    replace bO1_1 := hm36.box bO1_1
    replace bO1_2 := hm36.box bO1_2
    replace bO1_3 := hm36.box bO1_3
    replace bO1_4 := hm36.box bO1_4
    replace bO1_5 := hm36.box bO1_5
    replace bO1_6 := hm36.box bO1_6
    replace bO5_0 := hm36.box bO5_0
    replace bO9_0 := hm36.box bO9_0
    replace bO13_0 := hm36.box bO13_0
    replace bO17_0 := hm36.box bO17_0
    replace bO17_1 := hm36.box bO17_1
    replace hc27 := hm36.cell hc27
    replace z0 := hm36.box z0
    replace z1 := hm36.box z1
    have hs38 := hm36.size
    have hrk39 : RK w28.heap.size (fun k => k = O21) w37 w37 := RK.refl _ _ _
    refine icw_block ?_
    refine icw_seq ?_
    have hd9 : Globe.inB (-o.sl + ((i : Nat) : Int)) (-o.sl) o.sl = true := Globe.inB_t.2 ⟨by omega, by omega⟩
    rcases Nat.eq_zero_or_pos i with hi0 | hi0
    ·
      refine icw_plain ?_
      refine ipl_take (.func (.func 38) #[] #[.pointer (some ⟨Bo, 0, none⟩), .pointer (some ⟨Bs, 0, none⟩), .pointer (some ⟨Bl, 0, none⟩)]) rfl (by kernel_rfl) (by kernel_rfl) (by kernel_rfl) (ex_load rfl (by kernel_rfl) (ld89 (bO5_0.1))) ?_
      refine ipl_take (.int .i64 (-o.sl + ((i : Nat) : Int) : Int)) rfl (by kernel_rfl) (by kernel_rfl) (by kernel_rfl) (by kernel_rfl) ?_
      refine ipl_step rfl (by kernel_rfl) (by kernel_rfl) (by kernel_rfl) (sn_call (f := 38) (args := #[.int .i64 (-o.sl + ((i : Nat) : Int) : Int), .pointer (some ⟨Bo, 0, none⟩), .pointer (some ⟨Bs, 0, none⟩), .pointer (some ⟨Bl, 0, none⟩)]) (by kernel_rfl) ((svalue_c (-o.sl + ((i : Nat) : Int)) _ hS (e0.trans hE) hv hd9).mono ?_))
      rintro e w40 ⟨rfl, hb⟩
      replace hE := hE.trans hb
      replace bO1_0 := BoxAt.ext hb bO1_0
      replace bO1_1 := BoxAt.ext hb bO1_1
      replace bO1_2 := BoxAt.ext hb bO1_2
      replace bO1_3 := BoxAt.ext hb bO1_3
      replace bO1_4 := BoxAt.ext hb bO1_4
      replace bO1_5 := BoxAt.ext hb bO1_5
      replace bO1_6 := BoxAt.ext hb bO1_6
      replace bO5_0 := BoxAt.ext hb bO5_0
      replace bO9_0 := BoxAt.ext hb bO9_0
      replace bO13_0 := BoxAt.ext hb bO13_0
      replace bO17_0 := BoxAt.ext hb bO17_0
      replace bO17_1 := BoxAt.ext hb bO17_1
      replace hc27 := hb.cell hc27
      replace z0 := BoxAt.ext hb z0
      replace z1 := BoxAt.ext hb z1
      replace hrk39 := hrk39.ext hb
      have hs41 := hb.size
      clear hb
      refine ⟨_, rfl, ?_⟩
      refine ipl_step rfl (by kernel_rfl) (by kernel_rfl) (by kernel_rfl) (sn_new (us := #[.int .i64 0, .int .i64 0]) (t := 23) (by kernel_rfl) ?_)
      intro O42 X43 hO hOs hb hbx
      have hzO42 := hO; have hyO42 := hOs; clear hO hOs
      have bO42_0 : BoxAt X43 O42 0 (.int .i64 0) := hbx 0 _ rfl
      have bO42_1 : BoxAt X43 O42 1 (.int .i64 0) := hbx 1 _ rfl
      clear hbx
      replace hE := hE.trans hb
      replace bO1_0 := BoxAt.ext hb bO1_0
      replace bO1_1 := BoxAt.ext hb bO1_1
      replace bO1_2 := BoxAt.ext hb bO1_2
      replace bO1_3 := BoxAt.ext hb bO1_3
      replace bO1_4 := BoxAt.ext hb bO1_4
      replace bO1_5 := BoxAt.ext hb bO1_5
      replace bO1_6 := BoxAt.ext hb bO1_6
      replace bO5_0 := BoxAt.ext hb bO5_0
      replace bO9_0 := BoxAt.ext hb bO9_0
      replace bO13_0 := BoxAt.ext hb bO13_0
      replace bO17_0 := BoxAt.ext hb bO17_0
      replace bO17_1 := BoxAt.ext hb bO17_1
      replace hc27 := hb.cell hc27
      replace z0 := BoxAt.ext hb z0
      replace z1 := BoxAt.ext hb z1
      replace hrk39 := hrk39.ext hb
      have hs44 := hb.size
      clear hb
      have lt45 := bO42_0.lt
      refine ipl_put rfl (by kernel_rfl) (by kernel_rfl) (sn_set2 (O := O42) (j := 0) (v := .int .i64 ((Swath.sunJ o s lk i).1 : Int)) (v' := .int .i64 ((Swath.sunJ o s lk i).2 : Int)) (ex_store (p := .pointer (some ⟨O42, 0, none⟩)) (v := .agg #[.int .i64 ((Swath.sunJ o s lk i).1 : Int), .int .i64 ((Swath.sunJ o s lk i).2 : Int)]) rfl (by kernel_rfl) (by kernel_rfl) (st23 bO42_0.1 bO42_0.2 bO42_1.1 bO42_1.2)) bO42_0 bO42_1 ?_)
      intro X46 ho hv0 hv1 hk
      replace hE := ho.ext hE (Nat.le_trans (Nat.le_trans hs3 (Nat.le_trans hs7 (Nat.le_trans hs11 (Nat.le_trans hs15 (Nat.le_trans hs19 (Nat.le_trans hs23 (Nat.le_trans hs29 (Nat.le_trans hs32 (Nat.le_trans hs38 hs41))))))))) (Nat.le_of_eq hzO42))
      replace bO1_0 := ho.box (Nat.ne_of_gt (Nat.lt_of_lt_of_le lt4 (Nat.le_trans (Nat.le_trans hs7 (Nat.le_trans hs11 (Nat.le_trans hs15 (Nat.le_trans hs19 (Nat.le_trans hs23 (Nat.le_trans hs29 (Nat.le_trans hs32 (Nat.le_trans hs38 hs41)))))))) (Nat.le_of_eq hzO42)))) bO1_0
      replace bO1_1 := ho.box (Nat.ne_of_gt (Nat.lt_of_lt_of_le lt4 (Nat.le_trans (Nat.le_trans hs7 (Nat.le_trans hs11 (Nat.le_trans hs15 (Nat.le_trans hs19 (Nat.le_trans hs23 (Nat.le_trans hs29 (Nat.le_trans hs32 (Nat.le_trans hs38 hs41)))))))) (Nat.le_of_eq hzO42)))) bO1_1
      replace bO1_2 := ho.box (Nat.ne_of_gt (Nat.lt_of_lt_of_le lt4 (Nat.le_trans (Nat.le_trans hs7 (Nat.le_trans hs11 (Nat.le_trans hs15 (Nat.le_trans hs19 (Nat.le_trans hs23 (Nat.le_trans hs29 (Nat.le_trans hs32 (Nat.le_trans hs38 hs41)))))))) (Nat.le_of_eq hzO42)))) bO1_2
      replace bO1_3 := ho.box (Nat.ne_of_gt (Nat.lt_of_lt_of_le lt4 (Nat.le_trans (Nat.le_trans hs7 (Nat.le_trans hs11 (Nat.le_trans hs15 (Nat.le_trans hs19 (Nat.le_trans hs23 (Nat.le_trans hs29 (Nat.le_trans hs32 (Nat.le_trans hs38 hs41)))))))) (Nat.le_of_eq hzO42)))) bO1_3
      replace bO1_4 := ho.box (Nat.ne_of_gt (Nat.lt_of_lt_of_le lt4 (Nat.le_trans (Nat.le_trans hs7 (Nat.le_trans hs11 (Nat.le_trans hs15 (Nat.le_trans hs19 (Nat.le_trans hs23 (Nat.le_trans hs29 (Nat.le_trans hs32 (Nat.le_trans hs38 hs41)))))))) (Nat.le_of_eq hzO42)))) bO1_4
      replace bO1_5 := ho.box (Nat.ne_of_gt (Nat.lt_of_lt_of_le lt4 (Nat.le_trans (Nat.le_trans hs7 (Nat.le_trans hs11 (Nat.le_trans hs15 (Nat.le_trans hs19 (Nat.le_trans hs23 (Nat.le_trans hs29 (Nat.le_trans hs32 (Nat.le_trans hs38 hs41)))))))) (Nat.le_of_eq hzO42)))) bO1_5
      replace bO1_6 := ho.box (Nat.ne_of_gt (Nat.lt_of_lt_of_le lt4 (Nat.le_trans (Nat.le_trans hs7 (Nat.le_trans hs11 (Nat.le_trans hs15 (Nat.le_trans hs19 (Nat.le_trans hs23 (Nat.le_trans hs29 (Nat.le_trans hs32 (Nat.le_trans hs38 hs41)))))))) (Nat.le_of_eq hzO42)))) bO1_6
      replace bO5_0 := ho.box (Nat.ne_of_gt (Nat.lt_of_lt_of_le lt8 (Nat.le_trans (Nat.le_trans hs11 (Nat.le_trans hs15 (Nat.le_trans hs19 (Nat.le_trans hs23 (Nat.le_trans hs29 (Nat.le_trans hs32 (Nat.le_trans hs38 hs41))))))) (Nat.le_of_eq hzO42)))) bO5_0
      replace bO9_0 := ho.box (Nat.ne_of_gt (Nat.lt_of_lt_of_le lt12 (Nat.le_trans (Nat.le_trans hs15 (Nat.le_trans hs19 (Nat.le_trans hs23 (Nat.le_trans hs29 (Nat.le_trans hs32 (Nat.le_trans hs38 hs41)))))) (Nat.le_of_eq hzO42)))) bO9_0
      replace bO13_0 := ho.box (Nat.ne_of_gt (Nat.lt_of_lt_of_le lt16 (Nat.le_trans (Nat.le_trans hs19 (Nat.le_trans hs23 (Nat.le_trans hs29 (Nat.le_trans hs32 (Nat.le_trans hs38 hs41))))) (Nat.le_of_eq hzO42)))) bO13_0
      replace bO17_0 := ho.box (Nat.ne_of_gt (Nat.lt_of_lt_of_le lt20 (Nat.le_trans (Nat.le_trans hs23 (Nat.le_trans hs29 (Nat.le_trans hs32 (Nat.le_trans hs38 hs41)))) (Nat.le_of_eq hzO42)))) bO17_0
      replace bO17_1 := ho.box (Nat.ne_of_gt (Nat.lt_of_lt_of_le lt20 (Nat.le_trans (Nat.le_trans hs23 (Nat.le_trans hs29 (Nat.le_trans hs32 (Nat.le_trans hs38 hs41)))) (Nat.le_of_eq hzO42)))) bO17_1
      replace hc27 := ho.cell (Nat.ne_of_gt (Nat.lt_of_lt_of_le lt30 (Nat.le_trans (Nat.le_trans hs32 (Nat.le_trans hs38 hs41)) (Nat.le_of_eq hzO42)))) hc27
      replace z0 := ho.box (Nat.ne_of_gt (Nat.lt_of_lt_of_le lt24 (Nat.le_trans (Nat.le_trans hs29 (Nat.le_trans hs32 (Nat.le_trans hs38 hs41))) (Nat.le_of_eq hzO42)))) z0
      replace z1 := ho.box (Nat.ne_of_gt (Nat.lt_of_lt_of_le lt24 (Nat.le_trans (Nat.le_trans hs29 (Nat.le_trans hs32 (Nat.le_trans hs38 hs41))) (Nat.le_of_eq hzO42)))) z1
      replace hrk39 := hrk39.turn ho (.inr (Nat.le_trans hs41 (Nat.le_of_eq hzO42)))
      have hs47 : X43.heap.size ≤ X46.heap.size := Nat.le_of_eq ho.size.symm
      clear ho hk bO42_0 bO42_1
      have bO42_0 := hv0; clear hv0
      have bO42_1 := hv1; clear hv1
      refine ipl_nil ?_
      refine iqw_then ?_
      refine icw_seq ?_
      refine icw_plain ?_
      refine ipl_take (.int .i64 (-o.sl + ((i : Nat) : Int) : Int)) rfl (by kernel_rfl) (by kernel_rfl) (by kernel_rfl) (by kernel_rfl) ?_
      refine ipl_take (.pointer (some ⟨O1, 6, none⟩)) rfl (by kernel_rfl) (by kernel_rfl) (by kernel_rfl) (by kernel_rfl) ?_
      refine ipl_take (.int .i64 (o.sl : Int)) rfl (by kernel_rfl) (by kernel_rfl) (by kernel_rfl) (ex_load rfl (by kernel_rfl) (ld3 (bO1_6.1))) ?_
      refine ipl_take (.int .i64 (-o.sl : Int)) rfl (by kernel_rfl) (by kernel_rfl) (by kernel_rfl) (ev_int (ev_wrap (a := 0 - o.sl) (by kernel_rfl) (by omega) (by omega)) (by omega)) ?_
      refine ipl_take (.bool true) rfl (by kernel_rfl) (by kernel_rfl) (by kernel_rfl) (ev_eq (show _ = Result.ok (Next.value (Value.bool ((-o.sl + ((i : Nat) : Int) : Int) == (-o.sl : Int)))) _ from by kernel_rfl) (by omega)) ?_
      refine ipl_nil ?_
      refine iqw_then ?_
      refine icw_clean [6, 7, 9, 11, 22] (ws' := [(6, .pointer (some ⟨O9, 0, none⟩)), (7, .pointer (some ⟨O13, 0, none⟩)), (9, .pointer (some ⟨O21, 0, none⟩)), (11, .pointer (some ⟨O42, 0, none⟩)), (22, .bool true)]) (by kernel_rfl) (fun L => ?_)
      refine icw_t (by kernel_rfl) ?_
      refine icw_plain ?_
      refine ipl_take (.func (.func 43) #[] #[]) rfl (by kernel_rfl) (by kernel_rfl) (by kernel_rfl) (ex_load rfl (by kernel_rfl) (ld92 (bO9_0.1))) ?_
      refine ipl_take (.agg #[.int .i64 ((Swath.sunJ o s lk i).1 : Int), .int .i64 ((Swath.sunJ o s lk i).2 : Int)]) rfl (by kernel_rfl) (by kernel_rfl) (by kernel_rfl) (ex_load rfl (by kernel_rfl) (ld23 (bO42_0.1) (bO42_1.1))) ?_
      refine ipl_step rfl (by kernel_rfl) (by kernel_rfl) (by kernel_rfl) (sn_call (f := 43) (args := #[.agg #[.int .i64 ((Swath.sunJ o s lk i).1 : Int), .int .i64 ((Swath.sunJ o s lk i).2 : Int)]]) (by kernel_rfl) ((sfirst_c _ _ _).mono ?_))
      rintro e w48 ⟨rfl, hb⟩
      replace hE := hE.trans hb
      replace bO1_0 := BoxAt.ext hb bO1_0
      replace bO1_1 := BoxAt.ext hb bO1_1
      replace bO1_2 := BoxAt.ext hb bO1_2
      replace bO1_3 := BoxAt.ext hb bO1_3
      replace bO1_4 := BoxAt.ext hb bO1_4
      replace bO1_5 := BoxAt.ext hb bO1_5
      replace bO1_6 := BoxAt.ext hb bO1_6
      replace bO5_0 := BoxAt.ext hb bO5_0
      replace bO9_0 := BoxAt.ext hb bO9_0
      replace bO13_0 := BoxAt.ext hb bO13_0
      replace bO17_0 := BoxAt.ext hb bO17_0
      replace bO17_1 := BoxAt.ext hb bO17_1
      replace hc27 := hb.cell hc27
      replace z0 := BoxAt.ext hb z0
      replace z1 := BoxAt.ext hb z1
      replace hrk39 := hrk39.ext hb
      replace bO42_0 := BoxAt.ext hb bO42_0
      replace bO42_1 := BoxAt.ext hb bO42_1
      have hs49 := hb.size
      clear hb
      refine ⟨_, rfl, ?_⟩
      refine ipl_put rfl (by kernel_rfl) (by kernel_rfl) (sn_set2 (O := O21) (j := 0) (v := .int .i64 ((Swath.sunJ o s lk i).1 : Int)) (v' := .int .i64 ((Swath.sunJ o s lk i).2 : Int)) (ex_store (p := .pointer (some ⟨O21, 0, none⟩)) (v := .agg #[.int .i64 ((Swath.sunJ o s lk i).1 : Int), .int .i64 ((Swath.sunJ o s lk i).2 : Int)]) rfl (by kernel_rfl) (by kernel_rfl) (st23 z0.1 z0.2 z1.1 z1.2)) z0 z1 ?_)
      intro X50 ho hv0 hv1 hk
      replace hE := ho.ext hE (Nat.le_trans (Nat.le_trans hs3 (Nat.le_trans hs7 (Nat.le_trans hs11 (Nat.le_trans hs15 hs19)))) (Nat.le_of_eq hzO21))
      replace bO1_0 := ho.box (Nat.ne_of_gt (Nat.lt_of_lt_of_le lt4 (Nat.le_trans (Nat.le_trans hs7 (Nat.le_trans hs11 (Nat.le_trans hs15 hs19))) (Nat.le_of_eq hzO21)))) bO1_0
      replace bO1_1 := ho.box (Nat.ne_of_gt (Nat.lt_of_lt_of_le lt4 (Nat.le_trans (Nat.le_trans hs7 (Nat.le_trans hs11 (Nat.le_trans hs15 hs19))) (Nat.le_of_eq hzO21)))) bO1_1
      replace bO1_2 := ho.box (Nat.ne_of_gt (Nat.lt_of_lt_of_le lt4 (Nat.le_trans (Nat.le_trans hs7 (Nat.le_trans hs11 (Nat.le_trans hs15 hs19))) (Nat.le_of_eq hzO21)))) bO1_2
      replace bO1_3 := ho.box (Nat.ne_of_gt (Nat.lt_of_lt_of_le lt4 (Nat.le_trans (Nat.le_trans hs7 (Nat.le_trans hs11 (Nat.le_trans hs15 hs19))) (Nat.le_of_eq hzO21)))) bO1_3
      replace bO1_4 := ho.box (Nat.ne_of_gt (Nat.lt_of_lt_of_le lt4 (Nat.le_trans (Nat.le_trans hs7 (Nat.le_trans hs11 (Nat.le_trans hs15 hs19))) (Nat.le_of_eq hzO21)))) bO1_4
      replace bO1_5 := ho.box (Nat.ne_of_gt (Nat.lt_of_lt_of_le lt4 (Nat.le_trans (Nat.le_trans hs7 (Nat.le_trans hs11 (Nat.le_trans hs15 hs19))) (Nat.le_of_eq hzO21)))) bO1_5
      replace bO1_6 := ho.box (Nat.ne_of_gt (Nat.lt_of_lt_of_le lt4 (Nat.le_trans (Nat.le_trans hs7 (Nat.le_trans hs11 (Nat.le_trans hs15 hs19))) (Nat.le_of_eq hzO21)))) bO1_6
      replace bO5_0 := ho.box (Nat.ne_of_gt (Nat.lt_of_lt_of_le lt8 (Nat.le_trans (Nat.le_trans hs11 (Nat.le_trans hs15 hs19)) (Nat.le_of_eq hzO21)))) bO5_0
      replace bO9_0 := ho.box (Nat.ne_of_gt (Nat.lt_of_lt_of_le lt12 (Nat.le_trans (Nat.le_trans hs15 hs19) (Nat.le_of_eq hzO21)))) bO9_0
      replace bO13_0 := ho.box (Nat.ne_of_gt (Nat.lt_of_lt_of_le lt16 (Nat.le_trans hs19 (Nat.le_of_eq hzO21)))) bO13_0
      replace bO17_0 := ho.box (Nat.ne_of_gt (Nat.lt_of_lt_of_le lt20 (Nat.le_of_eq hzO21))) bO17_0
      replace bO17_1 := ho.box (Nat.ne_of_gt (Nat.lt_of_lt_of_le lt20 (Nat.le_of_eq hzO21))) bO17_1
      replace hc27 := ho.cell (Nat.ne_of_lt (Nat.lt_of_lt_of_le lt24 hn26)) hc27
      replace hrk39 := hrk39.turn ho (.inl (rfl))
      replace bO42_0 := ho.box (Nat.ne_of_lt (Nat.lt_of_lt_of_le lt24 (Nat.le_trans (Nat.le_trans hs29 (Nat.le_trans hs32 (Nat.le_trans hs38 hs41))) (Nat.le_of_eq hzO42)))) bO42_0
      replace bO42_1 := ho.box (Nat.ne_of_lt (Nat.lt_of_lt_of_le lt24 (Nat.le_trans (Nat.le_trans hs29 (Nat.le_trans hs32 (Nat.le_trans hs38 hs41))) (Nat.le_of_eq hzO42)))) bO42_1
      have hs51 : w48.heap.size ≤ X50.heap.size := Nat.le_of_eq ho.size.symm
      clear ho hk z0 z1
      have z0 := hv0; clear hv0
      have z1 := hv1; clear hv1
      refine ipl_nil ?_
      refine iqw_block ?_
      exact iqw_next hrk39 ⟨(Nat.le_trans hs32 (Nat.le_trans hs38 (Nat.le_trans hs41 (Nat.le_trans hs44 (Nat.le_trans hs47 (Nat.le_trans hs49 hs51)))))), hE, bO1_0, bO1_1, bO1_2, bO1_3, bO1_4, bO1_5, bO1_6, bO5_0, bO9_0, bO13_0, bO17_0, bO17_1, hc27, (by rw [hi0]; rw [hi0] at z0; exact z0), (by rw [hi0]; rw [hi0] at z1; exact z1)⟩
    ·
      refine icw_plain ?_
      refine ipl_take (.func (.func 38) #[] #[.pointer (some ⟨Bo, 0, none⟩), .pointer (some ⟨Bs, 0, none⟩), .pointer (some ⟨Bl, 0, none⟩)]) rfl (by kernel_rfl) (by kernel_rfl) (by kernel_rfl) (ex_load rfl (by kernel_rfl) (ld89 (bO5_0.1))) ?_
      refine ipl_take (.int .i64 (-o.sl + ((i : Nat) : Int) : Int)) rfl (by kernel_rfl) (by kernel_rfl) (by kernel_rfl) (by kernel_rfl) ?_
      refine ipl_step rfl (by kernel_rfl) (by kernel_rfl) (by kernel_rfl) (sn_call (f := 38) (args := #[.int .i64 (-o.sl + ((i : Nat) : Int) : Int), .pointer (some ⟨Bo, 0, none⟩), .pointer (some ⟨Bs, 0, none⟩), .pointer (some ⟨Bl, 0, none⟩)]) (by kernel_rfl) ((svalue_c (-o.sl + ((i : Nat) : Int)) _ hS (e0.trans hE) hv hd9).mono ?_))
      rintro e w52 ⟨rfl, hb⟩
      replace hE := hE.trans hb
      replace bO1_0 := BoxAt.ext hb bO1_0
      replace bO1_1 := BoxAt.ext hb bO1_1
      replace bO1_2 := BoxAt.ext hb bO1_2
      replace bO1_3 := BoxAt.ext hb bO1_3
      replace bO1_4 := BoxAt.ext hb bO1_4
      replace bO1_5 := BoxAt.ext hb bO1_5
      replace bO1_6 := BoxAt.ext hb bO1_6
      replace bO5_0 := BoxAt.ext hb bO5_0
      replace bO9_0 := BoxAt.ext hb bO9_0
      replace bO13_0 := BoxAt.ext hb bO13_0
      replace bO17_0 := BoxAt.ext hb bO17_0
      replace bO17_1 := BoxAt.ext hb bO17_1
      replace hc27 := hb.cell hc27
      replace z0 := BoxAt.ext hb z0
      replace z1 := BoxAt.ext hb z1
      replace hrk39 := hrk39.ext hb
      have hs53 := hb.size
      clear hb
      refine ⟨_, rfl, ?_⟩
      refine ipl_step rfl (by kernel_rfl) (by kernel_rfl) (by kernel_rfl) (sn_new (us := #[.int .i64 0, .int .i64 0]) (t := 23) (by kernel_rfl) ?_)
      intro O54 X55 hO hOs hb hbx
      have hzO54 := hO; have hyO54 := hOs; clear hO hOs
      have bO54_0 : BoxAt X55 O54 0 (.int .i64 0) := hbx 0 _ rfl
      have bO54_1 : BoxAt X55 O54 1 (.int .i64 0) := hbx 1 _ rfl
      clear hbx
      replace hE := hE.trans hb
      replace bO1_0 := BoxAt.ext hb bO1_0
      replace bO1_1 := BoxAt.ext hb bO1_1
      replace bO1_2 := BoxAt.ext hb bO1_2
      replace bO1_3 := BoxAt.ext hb bO1_3
      replace bO1_4 := BoxAt.ext hb bO1_4
      replace bO1_5 := BoxAt.ext hb bO1_5
      replace bO1_6 := BoxAt.ext hb bO1_6
      replace bO5_0 := BoxAt.ext hb bO5_0
      replace bO9_0 := BoxAt.ext hb bO9_0
      replace bO13_0 := BoxAt.ext hb bO13_0
      replace bO17_0 := BoxAt.ext hb bO17_0
      replace bO17_1 := BoxAt.ext hb bO17_1
      replace hc27 := hb.cell hc27
      replace z0 := BoxAt.ext hb z0
      replace z1 := BoxAt.ext hb z1
      replace hrk39 := hrk39.ext hb
      have hs56 := hb.size
      clear hb
      have lt57 := bO54_0.lt
      refine ipl_put rfl (by kernel_rfl) (by kernel_rfl) (sn_set2 (O := O54) (j := 0) (v := .int .i64 ((Swath.sunJ o s lk i).1 : Int)) (v' := .int .i64 ((Swath.sunJ o s lk i).2 : Int)) (ex_store (p := .pointer (some ⟨O54, 0, none⟩)) (v := .agg #[.int .i64 ((Swath.sunJ o s lk i).1 : Int), .int .i64 ((Swath.sunJ o s lk i).2 : Int)]) rfl (by kernel_rfl) (by kernel_rfl) (st23 bO54_0.1 bO54_0.2 bO54_1.1 bO54_1.2)) bO54_0 bO54_1 ?_)
      intro X58 ho hv0 hv1 hk
      replace hE := ho.ext hE (Nat.le_trans (Nat.le_trans hs3 (Nat.le_trans hs7 (Nat.le_trans hs11 (Nat.le_trans hs15 (Nat.le_trans hs19 (Nat.le_trans hs23 (Nat.le_trans hs29 (Nat.le_trans hs32 (Nat.le_trans hs38 hs53))))))))) (Nat.le_of_eq hzO54))
      replace bO1_0 := ho.box (Nat.ne_of_gt (Nat.lt_of_lt_of_le lt4 (Nat.le_trans (Nat.le_trans hs7 (Nat.le_trans hs11 (Nat.le_trans hs15 (Nat.le_trans hs19 (Nat.le_trans hs23 (Nat.le_trans hs29 (Nat.le_trans hs32 (Nat.le_trans hs38 hs53)))))))) (Nat.le_of_eq hzO54)))) bO1_0
      replace bO1_1 := ho.box (Nat.ne_of_gt (Nat.lt_of_lt_of_le lt4 (Nat.le_trans (Nat.le_trans hs7 (Nat.le_trans hs11 (Nat.le_trans hs15 (Nat.le_trans hs19 (Nat.le_trans hs23 (Nat.le_trans hs29 (Nat.le_trans hs32 (Nat.le_trans hs38 hs53)))))))) (Nat.le_of_eq hzO54)))) bO1_1
      replace bO1_2 := ho.box (Nat.ne_of_gt (Nat.lt_of_lt_of_le lt4 (Nat.le_trans (Nat.le_trans hs7 (Nat.le_trans hs11 (Nat.le_trans hs15 (Nat.le_trans hs19 (Nat.le_trans hs23 (Nat.le_trans hs29 (Nat.le_trans hs32 (Nat.le_trans hs38 hs53)))))))) (Nat.le_of_eq hzO54)))) bO1_2
      replace bO1_3 := ho.box (Nat.ne_of_gt (Nat.lt_of_lt_of_le lt4 (Nat.le_trans (Nat.le_trans hs7 (Nat.le_trans hs11 (Nat.le_trans hs15 (Nat.le_trans hs19 (Nat.le_trans hs23 (Nat.le_trans hs29 (Nat.le_trans hs32 (Nat.le_trans hs38 hs53)))))))) (Nat.le_of_eq hzO54)))) bO1_3
      replace bO1_4 := ho.box (Nat.ne_of_gt (Nat.lt_of_lt_of_le lt4 (Nat.le_trans (Nat.le_trans hs7 (Nat.le_trans hs11 (Nat.le_trans hs15 (Nat.le_trans hs19 (Nat.le_trans hs23 (Nat.le_trans hs29 (Nat.le_trans hs32 (Nat.le_trans hs38 hs53)))))))) (Nat.le_of_eq hzO54)))) bO1_4
      replace bO1_5 := ho.box (Nat.ne_of_gt (Nat.lt_of_lt_of_le lt4 (Nat.le_trans (Nat.le_trans hs7 (Nat.le_trans hs11 (Nat.le_trans hs15 (Nat.le_trans hs19 (Nat.le_trans hs23 (Nat.le_trans hs29 (Nat.le_trans hs32 (Nat.le_trans hs38 hs53)))))))) (Nat.le_of_eq hzO54)))) bO1_5
      replace bO1_6 := ho.box (Nat.ne_of_gt (Nat.lt_of_lt_of_le lt4 (Nat.le_trans (Nat.le_trans hs7 (Nat.le_trans hs11 (Nat.le_trans hs15 (Nat.le_trans hs19 (Nat.le_trans hs23 (Nat.le_trans hs29 (Nat.le_trans hs32 (Nat.le_trans hs38 hs53)))))))) (Nat.le_of_eq hzO54)))) bO1_6
      replace bO5_0 := ho.box (Nat.ne_of_gt (Nat.lt_of_lt_of_le lt8 (Nat.le_trans (Nat.le_trans hs11 (Nat.le_trans hs15 (Nat.le_trans hs19 (Nat.le_trans hs23 (Nat.le_trans hs29 (Nat.le_trans hs32 (Nat.le_trans hs38 hs53))))))) (Nat.le_of_eq hzO54)))) bO5_0
      replace bO9_0 := ho.box (Nat.ne_of_gt (Nat.lt_of_lt_of_le lt12 (Nat.le_trans (Nat.le_trans hs15 (Nat.le_trans hs19 (Nat.le_trans hs23 (Nat.le_trans hs29 (Nat.le_trans hs32 (Nat.le_trans hs38 hs53)))))) (Nat.le_of_eq hzO54)))) bO9_0
      replace bO13_0 := ho.box (Nat.ne_of_gt (Nat.lt_of_lt_of_le lt16 (Nat.le_trans (Nat.le_trans hs19 (Nat.le_trans hs23 (Nat.le_trans hs29 (Nat.le_trans hs32 (Nat.le_trans hs38 hs53))))) (Nat.le_of_eq hzO54)))) bO13_0
      replace bO17_0 := ho.box (Nat.ne_of_gt (Nat.lt_of_lt_of_le lt20 (Nat.le_trans (Nat.le_trans hs23 (Nat.le_trans hs29 (Nat.le_trans hs32 (Nat.le_trans hs38 hs53)))) (Nat.le_of_eq hzO54)))) bO17_0
      replace bO17_1 := ho.box (Nat.ne_of_gt (Nat.lt_of_lt_of_le lt20 (Nat.le_trans (Nat.le_trans hs23 (Nat.le_trans hs29 (Nat.le_trans hs32 (Nat.le_trans hs38 hs53)))) (Nat.le_of_eq hzO54)))) bO17_1
      replace hc27 := ho.cell (Nat.ne_of_gt (Nat.lt_of_lt_of_le lt30 (Nat.le_trans (Nat.le_trans hs32 (Nat.le_trans hs38 hs53)) (Nat.le_of_eq hzO54)))) hc27
      replace z0 := ho.box (Nat.ne_of_gt (Nat.lt_of_lt_of_le lt24 (Nat.le_trans (Nat.le_trans hs29 (Nat.le_trans hs32 (Nat.le_trans hs38 hs53))) (Nat.le_of_eq hzO54)))) z0
      replace z1 := ho.box (Nat.ne_of_gt (Nat.lt_of_lt_of_le lt24 (Nat.le_trans (Nat.le_trans hs29 (Nat.le_trans hs32 (Nat.le_trans hs38 hs53))) (Nat.le_of_eq hzO54)))) z1
      replace hrk39 := hrk39.turn ho (.inr (Nat.le_trans hs53 (Nat.le_of_eq hzO54)))
      have hs59 : X55.heap.size ≤ X58.heap.size := Nat.le_of_eq ho.size.symm
      clear ho hk bO54_0 bO54_1
      have bO54_0 := hv0; clear hv0
      have bO54_1 := hv1; clear hv1
      refine ipl_nil ?_
      refine iqw_then ?_
      refine icw_seq ?_
      refine icw_plain ?_
      refine ipl_take (.int .i64 (-o.sl + ((i : Nat) : Int) : Int)) rfl (by kernel_rfl) (by kernel_rfl) (by kernel_rfl) (by kernel_rfl) ?_
      refine ipl_take (.pointer (some ⟨O1, 6, none⟩)) rfl (by kernel_rfl) (by kernel_rfl) (by kernel_rfl) (by kernel_rfl) ?_
      refine ipl_take (.int .i64 (o.sl : Int)) rfl (by kernel_rfl) (by kernel_rfl) (by kernel_rfl) (ex_load rfl (by kernel_rfl) (ld3 (bO1_6.1))) ?_
      refine ipl_take (.int .i64 (-o.sl : Int)) rfl (by kernel_rfl) (by kernel_rfl) (by kernel_rfl) (ev_int (ev_wrap (a := 0 - o.sl) (by kernel_rfl) (by omega) (by omega)) (by omega)) ?_
      refine ipl_take (.bool false) rfl (by kernel_rfl) (by kernel_rfl) (by kernel_rfl) (ev_neq (show _ = Result.ok (Next.value (Value.bool ((-o.sl + ((i : Nat) : Int) : Int) == (-o.sl : Int)))) _ from by kernel_rfl) (by omega)) ?_
      refine ipl_nil ?_
      refine iqw_then ?_
      refine icw_clean [6, 7, 9, 11, 22] (ws' := [(6, .pointer (some ⟨O9, 0, none⟩)), (7, .pointer (some ⟨O13, 0, none⟩)), (9, .pointer (some ⟨O21, 0, none⟩)), (11, .pointer (some ⟨O54, 0, none⟩)), (22, .bool false)]) (by kernel_rfl) (fun L => ?_)
      refine icw_f (by kernel_rfl) ?_
      refine icw_plain ?_
      refine ipl_take (.func (.func 41) #[] #[]) rfl (by kernel_rfl) (by kernel_rfl) (by kernel_rfl) (ex_load rfl (by kernel_rfl) (ld90 (bO13_0.1))) ?_
      refine ipl_take (.agg #[.int .i64 ((Swath.sunF (Swath.sunJ o s lk) i).1 : Int), .int .i64 ((Swath.sunF (Swath.sunJ o s lk) i).2 : Int)]) rfl (by kernel_rfl) (by kernel_rfl) (by kernel_rfl) (ex_load rfl (by kernel_rfl) (ld23 (z0.1) (z1.1))) ?_
      refine ipl_take (.agg #[.int .i64 ((Swath.sunJ o s lk i).1 : Int), .int .i64 ((Swath.sunJ o s lk i).2 : Int)]) rfl (by kernel_rfl) (by kernel_rfl) (by kernel_rfl) (ex_load rfl (by kernel_rfl) (ld23 (bO54_0.1) (bO54_1.1))) ?_
      refine ipl_step rfl (by kernel_rfl) (by kernel_rfl) (by kernel_rfl) (sn_call (f := 41) (args := #[.agg #[.int .i64 ((Swath.sunF (Swath.sunJ o s lk) i).1 : Int), .int .i64 ((Swath.sunF (Swath.sunJ o s lk) i).2 : Int)], .agg #[.int .i64 ((Swath.sunJ o s lk i).1 : Int), .int .i64 ((Swath.sunJ o s lk i).2 : Int)]]) (by kernel_rfl) ((wider_c ((Swath.sunF (Swath.sunJ o s lk) i).1) ((Swath.sunF (Swath.sunJ o s lk) i).2) ((Swath.sunJ o s lk i).1) ((Swath.sunJ o s lk i).2) _).mono ?_))
      rintro e w60 ⟨rfl, hb⟩
      replace hE := hE.trans hb
      replace bO1_0 := BoxAt.ext hb bO1_0
      replace bO1_1 := BoxAt.ext hb bO1_1
      replace bO1_2 := BoxAt.ext hb bO1_2
      replace bO1_3 := BoxAt.ext hb bO1_3
      replace bO1_4 := BoxAt.ext hb bO1_4
      replace bO1_5 := BoxAt.ext hb bO1_5
      replace bO1_6 := BoxAt.ext hb bO1_6
      replace bO5_0 := BoxAt.ext hb bO5_0
      replace bO9_0 := BoxAt.ext hb bO9_0
      replace bO13_0 := BoxAt.ext hb bO13_0
      replace bO17_0 := BoxAt.ext hb bO17_0
      replace bO17_1 := BoxAt.ext hb bO17_1
      replace hc27 := hb.cell hc27
      replace z0 := BoxAt.ext hb z0
      replace z1 := BoxAt.ext hb z1
      replace hrk39 := hrk39.ext hb
      replace bO54_0 := BoxAt.ext hb bO54_0
      replace bO54_1 := BoxAt.ext hb bO54_1
      have hs61 := hb.size
      clear hb
      refine ⟨_, rfl, ?_⟩
      refine ipl_put rfl (by kernel_rfl) (by kernel_rfl) (sn_set2 (O := O21) (j := 0) (v := .int .i64 (min ((Swath.sunF (Swath.sunJ o s lk) i).1) ((Swath.sunJ o s lk i).1) : Int)) (v' := .int .i64 (max ((Swath.sunF (Swath.sunJ o s lk) i).2) ((Swath.sunJ o s lk i).2) : Int)) (ex_store (p := .pointer (some ⟨O21, 0, none⟩)) (v := .agg #[.int .i64 (min ((Swath.sunF (Swath.sunJ o s lk) i).1) ((Swath.sunJ o s lk i).1) : Int), .int .i64 (max ((Swath.sunF (Swath.sunJ o s lk) i).2) ((Swath.sunJ o s lk i).2) : Int)]) rfl (by kernel_rfl) (by kernel_rfl) (st23 z0.1 z0.2 z1.1 z1.2)) z0 z1 ?_)
      intro X62 ho hv0 hv1 hk
      replace hE := ho.ext hE (Nat.le_trans (Nat.le_trans hs3 (Nat.le_trans hs7 (Nat.le_trans hs11 (Nat.le_trans hs15 hs19)))) (Nat.le_of_eq hzO21))
      replace bO1_0 := ho.box (Nat.ne_of_gt (Nat.lt_of_lt_of_le lt4 (Nat.le_trans (Nat.le_trans hs7 (Nat.le_trans hs11 (Nat.le_trans hs15 hs19))) (Nat.le_of_eq hzO21)))) bO1_0
      replace bO1_1 := ho.box (Nat.ne_of_gt (Nat.lt_of_lt_of_le lt4 (Nat.le_trans (Nat.le_trans hs7 (Nat.le_trans hs11 (Nat.le_trans hs15 hs19))) (Nat.le_of_eq hzO21)))) bO1_1
      replace bO1_2 := ho.box (Nat.ne_of_gt (Nat.lt_of_lt_of_le lt4 (Nat.le_trans (Nat.le_trans hs7 (Nat.le_trans hs11 (Nat.le_trans hs15 hs19))) (Nat.le_of_eq hzO21)))) bO1_2
      replace bO1_3 := ho.box (Nat.ne_of_gt (Nat.lt_of_lt_of_le lt4 (Nat.le_trans (Nat.le_trans hs7 (Nat.le_trans hs11 (Nat.le_trans hs15 hs19))) (Nat.le_of_eq hzO21)))) bO1_3
      replace bO1_4 := ho.box (Nat.ne_of_gt (Nat.lt_of_lt_of_le lt4 (Nat.le_trans (Nat.le_trans hs7 (Nat.le_trans hs11 (Nat.le_trans hs15 hs19))) (Nat.le_of_eq hzO21)))) bO1_4
      replace bO1_5 := ho.box (Nat.ne_of_gt (Nat.lt_of_lt_of_le lt4 (Nat.le_trans (Nat.le_trans hs7 (Nat.le_trans hs11 (Nat.le_trans hs15 hs19))) (Nat.le_of_eq hzO21)))) bO1_5
      replace bO1_6 := ho.box (Nat.ne_of_gt (Nat.lt_of_lt_of_le lt4 (Nat.le_trans (Nat.le_trans hs7 (Nat.le_trans hs11 (Nat.le_trans hs15 hs19))) (Nat.le_of_eq hzO21)))) bO1_6
      replace bO5_0 := ho.box (Nat.ne_of_gt (Nat.lt_of_lt_of_le lt8 (Nat.le_trans (Nat.le_trans hs11 (Nat.le_trans hs15 hs19)) (Nat.le_of_eq hzO21)))) bO5_0
      replace bO9_0 := ho.box (Nat.ne_of_gt (Nat.lt_of_lt_of_le lt12 (Nat.le_trans (Nat.le_trans hs15 hs19) (Nat.le_of_eq hzO21)))) bO9_0
      replace bO13_0 := ho.box (Nat.ne_of_gt (Nat.lt_of_lt_of_le lt16 (Nat.le_trans hs19 (Nat.le_of_eq hzO21)))) bO13_0
      replace bO17_0 := ho.box (Nat.ne_of_gt (Nat.lt_of_lt_of_le lt20 (Nat.le_of_eq hzO21))) bO17_0
      replace bO17_1 := ho.box (Nat.ne_of_gt (Nat.lt_of_lt_of_le lt20 (Nat.le_of_eq hzO21))) bO17_1
      replace hc27 := ho.cell (Nat.ne_of_lt (Nat.lt_of_lt_of_le lt24 hn26)) hc27
      replace hrk39 := hrk39.turn ho (.inl (rfl))
      replace bO54_0 := ho.box (Nat.ne_of_lt (Nat.lt_of_lt_of_le lt24 (Nat.le_trans (Nat.le_trans hs29 (Nat.le_trans hs32 (Nat.le_trans hs38 hs53))) (Nat.le_of_eq hzO54)))) bO54_0
      replace bO54_1 := ho.box (Nat.ne_of_lt (Nat.lt_of_lt_of_le lt24 (Nat.le_trans (Nat.le_trans hs29 (Nat.le_trans hs32 (Nat.le_trans hs38 hs53))) (Nat.le_of_eq hzO54)))) bO54_1
      have hs63 : w60.heap.size ≤ X62.heap.size := Nat.le_of_eq ho.size.symm
      clear ho hk z0 z1
      have z0 := hv0; clear hv0
      have z1 := hv1; clear hv1
      refine ipl_nil ?_
      refine iqw_block ?_
      exact iqw_next hrk39 ⟨(Nat.le_trans hs32 (Nat.le_trans hs38 (Nat.le_trans hs53 (Nat.le_trans hs56 (Nat.le_trans hs59 (Nat.le_trans hs61 hs63)))))), hE, bO1_0, bO1_1, bO1_2, bO1_3, bO1_4, bO1_5, bO1_6, bO5_0, bO9_0, bO13_0, bO17_0, bO17_1, hc27, (by rw [Swath.sunF_succ hi0]; exact z0), (by rw [Swath.sunF_succ hi0]; exact z1)⟩
  ·
    clear bO1_0 bO1_1 bO1_2 bO1_3 bO1_4 bO1_5 bO1_6 bO5_0 bO9_0 bO13_0 bO17_0 bO17_1 bO21_0 bO21_1 hc27 hE
    intro D64 w65 hD68 hDl69 h hmk67
    obtain ⟨hs66, hE, bO1_0, bO1_1, bO1_2, bO1_3, bO1_4, bO1_5, bO1_6, bO5_0, bO9_0, bO13_0, bO17_0, bO17_1, hc27, z0, z1⟩ := h
    refine iqw_block ?_
    refine iqw_then ?_
    refine icw_seq ?_
    refine icw_plain ?_
    refine ipl_take (.agg #[.int .i64 ((Swath.sunF (Swath.sunJ o s lk) ((2 * o.sl + 1).toNat)).1 : Int), .int .i64 ((Swath.sunF (Swath.sunJ o s lk) ((2 * o.sl + 1).toNat)).2 : Int)]) rfl (by kernel_rfl) (by kernel_rfl) (by kernel_rfl) (ex_load rfl (by kernel_rfl) (ld23 (z0.1) (z1.1))) ?_
    refine ipl_put rfl (by kernel_rfl) (by kernel_rfl) (sn_set2 (O := O17) (j := 0) (v := .int .i64 ((Swath.sunF (Swath.sunJ o s lk) ((2 * o.sl + 1).toNat)).1 : Int)) (v' := .int .i64 ((Swath.sunF (Swath.sunJ o s lk) ((2 * o.sl + 1).toNat)).2 : Int)) (ex_store (p := .pointer (some ⟨O17, 0, none⟩)) (v := .agg #[.int .i64 ((Swath.sunF (Swath.sunJ o s lk) ((2 * o.sl + 1).toNat)).1 : Int), .int .i64 ((Swath.sunF (Swath.sunJ o s lk) ((2 * o.sl + 1).toNat)).2 : Int)]) rfl (by kernel_rfl) (by kernel_rfl) (st23 bO17_0.1 bO17_0.2 bO17_1.1 bO17_1.2)) bO17_0 bO17_1 ?_)
    intro X70 ho hv0 hv1 hk
    replace hE := ho.ext hE (Nat.le_trans (Nat.le_trans hs3 (Nat.le_trans hs7 (Nat.le_trans hs11 hs15))) (Nat.le_of_eq hzO17))
    replace bO1_0 := ho.box (Nat.ne_of_gt (Nat.lt_of_lt_of_le lt4 (Nat.le_trans (Nat.le_trans hs7 (Nat.le_trans hs11 hs15)) (Nat.le_of_eq hzO17)))) bO1_0
    replace bO1_1 := ho.box (Nat.ne_of_gt (Nat.lt_of_lt_of_le lt4 (Nat.le_trans (Nat.le_trans hs7 (Nat.le_trans hs11 hs15)) (Nat.le_of_eq hzO17)))) bO1_1
    replace bO1_2 := ho.box (Nat.ne_of_gt (Nat.lt_of_lt_of_le lt4 (Nat.le_trans (Nat.le_trans hs7 (Nat.le_trans hs11 hs15)) (Nat.le_of_eq hzO17)))) bO1_2
    replace bO1_3 := ho.box (Nat.ne_of_gt (Nat.lt_of_lt_of_le lt4 (Nat.le_trans (Nat.le_trans hs7 (Nat.le_trans hs11 hs15)) (Nat.le_of_eq hzO17)))) bO1_3
    replace bO1_4 := ho.box (Nat.ne_of_gt (Nat.lt_of_lt_of_le lt4 (Nat.le_trans (Nat.le_trans hs7 (Nat.le_trans hs11 hs15)) (Nat.le_of_eq hzO17)))) bO1_4
    replace bO1_5 := ho.box (Nat.ne_of_gt (Nat.lt_of_lt_of_le lt4 (Nat.le_trans (Nat.le_trans hs7 (Nat.le_trans hs11 hs15)) (Nat.le_of_eq hzO17)))) bO1_5
    replace bO1_6 := ho.box (Nat.ne_of_gt (Nat.lt_of_lt_of_le lt4 (Nat.le_trans (Nat.le_trans hs7 (Nat.le_trans hs11 hs15)) (Nat.le_of_eq hzO17)))) bO1_6
    replace bO5_0 := ho.box (Nat.ne_of_gt (Nat.lt_of_lt_of_le lt8 (Nat.le_trans (Nat.le_trans hs11 hs15) (Nat.le_of_eq hzO17)))) bO5_0
    replace bO9_0 := ho.box (Nat.ne_of_gt (Nat.lt_of_lt_of_le lt12 (Nat.le_trans hs15 (Nat.le_of_eq hzO17)))) bO9_0
    replace bO13_0 := ho.box (Nat.ne_of_gt (Nat.lt_of_lt_of_le lt16 (Nat.le_of_eq hzO17))) bO13_0
    replace hc27 := ho.cell (Nat.ne_of_lt (Nat.lt_of_lt_of_le lt20 (Nat.le_trans hs23 hn26))) hc27
    replace z0 := ho.box (Nat.ne_of_lt (Nat.lt_of_lt_of_le lt20 (Nat.le_of_eq hzO21))) z0
    replace z1 := ho.box (Nat.ne_of_lt (Nat.lt_of_lt_of_le lt20 (Nat.le_of_eq hzO21))) z1
    replace hmk67 := mk_turn hmk67 ho
    have hs71 : w65.heap.size ≤ X70.heap.size := Nat.le_of_eq ho.size.symm
    clear ho hk bO17_0 bO17_1
    have bO17_0 := hv0; clear hv0
    have bO17_1 := hv1; clear hv1
    refine ipl_nil ?_
    refine iqw_then ?_
    refine icw_ret ?_
    refine iqw_ret w.heap.size [.agg #[.int .i64 ((Swath.sunF (Swath.sunJ o s lk) ((2 * o.sl + 1).toNat)).1 : Int), .int .i64 ((Swath.sunF (Swath.sunJ o s lk) ((2 * o.sl + 1).toNat)).2 : Int)]] rfl (marksC (Nat.le_trans (Nat.le_trans hs3 (Nat.le_trans hs7 (Nat.le_trans hs11 (Nat.le_trans hs15 (Nat.le_trans hs19 (Nat.le_trans hs23 hs29)))))) hD68) hmk67 (fun _ h => by cases h)) (by simp) (fun W9 hm9 => ?_)
    replace hE := hm9.ext hE (Nat.le_refl _)
    replace bO1_0 := hm9.box bO1_0
    replace bO1_1 := hm9.box bO1_1
    replace bO1_2 := hm9.box bO1_2
    replace bO1_3 := hm9.box bO1_3
    replace bO1_4 := hm9.box bO1_4
    replace bO1_5 := hm9.box bO1_5
    replace bO1_6 := hm9.box bO1_6
    replace bO5_0 := hm9.box bO5_0
    replace bO9_0 := hm9.box bO9_0
    replace bO13_0 := hm9.box bO13_0
    replace hc27 := hm9.cell hc27
    replace z0 := hm9.box z0
    replace z1 := hm9.box z1
    replace bO17_0 := hm9.box bO17_0
    replace bO17_1 := hm9.box bO17_1
    have hs72 := hm9.size
    refine ⟨⟨⟨_, by kernel_rfl, res_ld (ld23 (bO17_0.1) (bO17_1.1))⟩, trivial⟩, ?_⟩
    exact ⟨rfl, hE⟩
  · intro _ _ _ _ _ _ _ h _; exact h.elim
set_option maxRecDepth 1000000 in
set_option maxHeartbeats 4000000 in
theorem Suns_y {o : Orb} {s : Int × Int} {lk : Int} (w : World) (hv : Swath.shB o s lk = true) : Calls Tryd.prog 16 #[.agg #[.int .i64 o.p, .int .i64 o.f, .int .i64 o.lo, .int .i64 o.hi, .int .i64 o.nd, .int .i64 o.tn, .int .i64 o.sl], .agg #[.int .i64 s.1, .int .i64 s.2], .int .i64 lk] w fun e w' => e = .returned (.tuple #[.int .i64 (Swath.suns o s lk).1, .int .i64 (Swath.suns o s lk).2, .int .i64 0]) ∧ Ext w w' := by
  refine calls_cw 26 [(2, .int .i64 (lk : Int)), (1, .agg #[.int .i64 (s.1 : Int), .int .i64 (s.2 : Int)]), (0, .agg #[.int .i64 (o.p : Int), .int .i64 (o.f : Int), .int .i64 (o.lo : Int), .int .i64 (o.hi : Int), .int .i64 (o.nd : Int), .int .i64 (o.tn : Int), .int .i64 (o.sl : Int)])] Tryd.func16 rfl Tryd.ntmps16 (by kernel_rfl) (by kernel_rfl) (fun L => ?_)
  have hE : Ext w w := Ext.refl w
  refine cw_seq ?_
  refine cw_plain ?_
  refine pl_step rfl (by kernel_rfl) (by kernel_rfl) (by kernel_rfl) (sn_new (us := #[.int .i64 (o.p : Int), .int .i64 (o.f : Int), .int .i64 (o.lo : Int), .int .i64 (o.hi : Int), .int .i64 (o.nd : Int), .int .i64 (o.tn : Int), .int .i64 (o.sl : Int)]) (t := 26) (by kernel_rfl) ?_)
  intro O1 X2 hO hOs hb hbx
  have hzO1 := hO; have hyO1 := hOs; clear hO hOs
  have bO1_0 : BoxAt X2 O1 0 (.int .i64 (o.p : Int)) := hbx 0 _ rfl
  have bO1_1 : BoxAt X2 O1 1 (.int .i64 (o.f : Int)) := hbx 1 _ rfl
  have bO1_2 : BoxAt X2 O1 2 (.int .i64 (o.lo : Int)) := hbx 2 _ rfl
  have bO1_3 : BoxAt X2 O1 3 (.int .i64 (o.hi : Int)) := hbx 3 _ rfl
  have bO1_4 : BoxAt X2 O1 4 (.int .i64 (o.nd : Int)) := hbx 4 _ rfl
  have bO1_5 : BoxAt X2 O1 5 (.int .i64 (o.tn : Int)) := hbx 5 _ rfl
  have bO1_6 : BoxAt X2 O1 6 (.int .i64 (o.sl : Int)) := hbx 6 _ rfl
  clear hbx
  replace hE := hE.trans hb
  have hs3 := hb.size
  clear hb
  have lt4 := bO1_0.lt
  refine pl_step rfl (by kernel_rfl) (by kernel_rfl) (by kernel_rfl) (sn_new (us := #[.int .i64 (s.1 : Int), .int .i64 (s.2 : Int)]) (t := 29) (by kernel_rfl) ?_)
  intro O5 X6 hO hOs hb hbx
  have hzO5 := hO; have hyO5 := hOs; clear hO hOs
  have bO5_0 : BoxAt X6 O5 0 (.int .i64 (s.1 : Int)) := hbx 0 _ rfl
  have bO5_1 : BoxAt X6 O5 1 (.int .i64 (s.2 : Int)) := hbx 1 _ rfl
  clear hbx
  replace hE := hE.trans hb
  replace bO1_0 := BoxAt.ext hb bO1_0
  replace bO1_1 := BoxAt.ext hb bO1_1
  replace bO1_2 := BoxAt.ext hb bO1_2
  replace bO1_3 := BoxAt.ext hb bO1_3
  replace bO1_4 := BoxAt.ext hb bO1_4
  replace bO1_5 := BoxAt.ext hb bO1_5
  replace bO1_6 := BoxAt.ext hb bO1_6
  have hs7 := hb.size
  clear hb
  have lt8 := bO5_0.lt
  refine pl_step rfl (by kernel_rfl) (by kernel_rfl) (by kernel_rfl) (sn_new (us := #[.int .i64 (lk : Int)]) (t := 3) (by kernel_rfl) ?_)
  intro O9 X10 hO hOs hb hbx
  have hzO9 := hO; have hyO9 := hOs; clear hO hOs
  have bO9_0 : BoxAt X10 O9 0 (.int .i64 (lk : Int)) := hbx 0 _ rfl
  clear hbx
  replace hE := hE.trans hb
  replace bO1_0 := BoxAt.ext hb bO1_0
  replace bO1_1 := BoxAt.ext hb bO1_1
  replace bO1_2 := BoxAt.ext hb bO1_2
  replace bO1_3 := BoxAt.ext hb bO1_3
  replace bO1_4 := BoxAt.ext hb bO1_4
  replace bO1_5 := BoxAt.ext hb bO1_5
  replace bO1_6 := BoxAt.ext hb bO1_6
  replace bO5_0 := BoxAt.ext hb bO5_0
  replace bO5_1 := BoxAt.ext hb bO5_1
  have hs11 := hb.size
  clear hb
  have lt12 := bO9_0.lt
  refine pl_take (.int .i64 0) rfl (by kernel_rfl) (by kernel_rfl) (by kernel_rfl) (by kernel_rfl) ?_
  refine pl_take (.int .i64 0) rfl (by kernel_rfl) (by kernel_rfl) (by kernel_rfl) (by kernel_rfl) ?_
  refine pl_take (.int .i64 0) rfl (by kernel_rfl) (by kernel_rfl) (by kernel_rfl) (by kernel_rfl) ?_
  refine pl_nil ?_
  refine qw_then ?_
  refine cw_seq ?_
  refine cw_seq ?_
  have hX13 : Ext X10 X10 := Ext.refl _
  refine cw_plain ?_
  refine pl_take (.agg #[.int .i64 (o.p : Int), .int .i64 (o.f : Int), .int .i64 (o.lo : Int), .int .i64 (o.hi : Int), .int .i64 (o.nd : Int), .int .i64 (o.tn : Int), .int .i64 (o.sl : Int)]) rfl (by kernel_rfl) (by kernel_rfl) (by kernel_rfl) (ex_load rfl (by kernel_rfl) (ld26 (bO1_0.1) (bO1_1.1) (bO1_2.1) (bO1_3.1) (bO1_4.1) (bO1_5.1) (bO1_6.1))) ?_
  refine pl_take (.agg #[.int .i64 (s.1 : Int), .int .i64 (s.2 : Int)]) rfl (by kernel_rfl) (by kernel_rfl) (by kernel_rfl) (ex_load rfl (by kernel_rfl) (ld29 (bO5_0.1) (bO5_1.1))) ?_
  refine pl_take (.int .i64 (lk : Int)) rfl (by kernel_rfl) (by kernel_rfl) (by kernel_rfl) (ex_load rfl (by kernel_rfl) (ld3 (bO9_0.1))) ?_
  refine pl_step rfl (by kernel_rfl) (by kernel_rfl) (by kernel_rfl) (sn_call (f := 19) (args := #[.agg #[.int .i64 (o.p : Int), .int .i64 (o.f : Int), .int .i64 (o.lo : Int), .int .i64 (o.hi : Int), .int .i64 (o.nd : Int), .int .i64 (o.tn : Int), .int .i64 (o.sl : Int)], .agg #[.int .i64 (s.1 : Int), .int .i64 (s.2 : Int)], .int .i64 (lk : Int)]) (by kernel_rfl) ((sValid_r (r := true) o s lk _ (hv)).mono ?_))
  rintro e w14 ⟨rfl, hb⟩
  replace hE := hE.trans hb
  replace hX13 := hX13.trans hb
  have hs15 := hb.size
  clear hb
  refine ⟨_, rfl, ?_⟩
  refine pl_take (.bool false) rfl (by kernel_rfl) (by kernel_rfl) (by kernel_rfl) (by kernel_rfl) ?_
  refine pl_nil ?_
  refine qw_then ?_
  refine cw_f (by kernel_rfl) ?_
  refine cw_skip ?_
  refine qw_then ?_
  refine cw_seq ?_
  refine cw_plain ?_
  refine pl_take (.func (.func 38) #[] #[.pointer (some ⟨O1, 0, none⟩), .pointer (some ⟨O5, 0, none⟩), .pointer (some ⟨O9, 0, none⟩)]) rfl (by kernel_rfl) (by kernel_rfl) (by kernel_rfl) (by kernel_rfl) ?_
  refine pl_take (.func (.func 38) #[] #[.pointer (some ⟨O1, 0, none⟩), .pointer (some ⟨O5, 0, none⟩), .pointer (some ⟨O9, 0, none⟩)]) rfl (by kernel_rfl) (by kernel_rfl) (by kernel_rfl) (by kernel_rfl) ?_
  refine pl_nil ?_
  refine qw_then ?_
  refine cw_clean [3, 9] (ws' := [(3, .pointer (some ⟨O1, 0, none⟩)), (9, .func (.func 38) #[] #[.pointer (some ⟨O1, 0, none⟩), .pointer (some ⟨O5, 0, none⟩), .pointer (some ⟨O9, 0, none⟩)])]) (by kernel_rfl) (fun L => ?_)
  refine cw_seq ?_
  refine cw_plain ?_
  refine pl_take (.func (.func 41) #[] #[]) rfl (by kernel_rfl) (by kernel_rfl) (by kernel_rfl) (by kernel_rfl) ?_
  refine pl_nil ?_
  refine qw_then ?_
  refine cw_seq ?_
  refine cw_plain ?_
  refine pl_take (.agg #[.int .i64 (o.p : Int), .int .i64 (o.f : Int), .int .i64 (o.lo : Int), .int .i64 (o.hi : Int), .int .i64 (o.nd : Int), .int .i64 (o.tn : Int), .int .i64 (o.sl : Int)]) rfl (by kernel_rfl) (by kernel_rfl) (by kernel_rfl) (ex_load rfl (by kernel_rfl) (ld26 ((BoxAt.ext hX13 bO1_0).1) ((BoxAt.ext hX13 bO1_1).1) ((BoxAt.ext hX13 bO1_2).1) ((BoxAt.ext hX13 bO1_3).1) ((BoxAt.ext hX13 bO1_4).1) ((BoxAt.ext hX13 bO1_5).1) ((BoxAt.ext hX13 bO1_6).1))) ?_
  refine pl_take (.func (.func 38) #[] #[.pointer (some ⟨O1, 0, none⟩), .pointer (some ⟨O5, 0, none⟩), .pointer (some ⟨O9, 0, none⟩)]) rfl (by kernel_rfl) (by kernel_rfl) (by kernel_rfl) (by kernel_rfl) ?_
  refine pl_take (.func (.func 41) #[] #[]) rfl (by kernel_rfl) (by kernel_rfl) (by kernel_rfl) (by kernel_rfl) ?_
  refine pl_step rfl (by kernel_rfl) (by kernel_rfl) (by kernel_rfl) (sn_call (f := 42) (args := #[.agg #[.int .i64 (o.p : Int), .int .i64 (o.f : Int), .int .i64 (o.lo : Int), .int .i64 (o.hi : Int), .int .i64 (o.nd : Int), .int .i64 (o.tn : Int), .int .i64 (o.sl : Int)], .func (.func 38) #[] #[.pointer (some ⟨O1, 0, none⟩), .pointer (some ⟨O5, 0, none⟩), .pointer (some ⟨O9, 0, none⟩)], .func (.func 43) #[] #[], .func (.func 41) #[] #[]]) (by kernel_rfl) ((foldN_c _ ⟨⟨(BoxAt.ext hX13 bO1_0).1, (BoxAt.ext hX13 bO1_1).1, (BoxAt.ext hX13 bO1_2).1, (BoxAt.ext hX13 bO1_3).1, (BoxAt.ext hX13 bO1_4).1, (BoxAt.ext hX13 bO1_5).1, (BoxAt.ext hX13 bO1_6).1⟩, (BoxAt.ext hX13 bO5_0).1, (BoxAt.ext hX13 bO5_1).1, (BoxAt.ext hX13 bO9_0).1⟩ (Ext.refl _) hv).mono ?_))
  rintro e w16 ⟨rfl, hb⟩
  replace hE := hE.trans hb
  replace hX13 := hX13.trans hb
  have hs17 := hb.size
  clear hb
  refine ⟨_, rfl, ?_⟩
  refine pl_step rfl (by kernel_rfl) (by kernel_rfl) (by kernel_rfl) (sn_new (us := #[.int .i64 0, .int .i64 0]) (t := 23) (by kernel_rfl) ?_)
  intro O18 X19 hO hOs hb hbx
  have hzO18 := hO; have hyO18 := hOs; clear hO hOs
  have bO18_0 : BoxAt X19 O18 0 (.int .i64 0) := hbx 0 _ rfl
  have bO18_1 : BoxAt X19 O18 1 (.int .i64 0) := hbx 1 _ rfl
  clear hbx
  replace hE := hE.trans hb
  replace hX13 := hX13.trans hb
  have hs20 := hb.size
  clear hb
  have lt21 := bO18_0.lt
  refine pl_put rfl (by kernel_rfl) (by kernel_rfl) (sn_set2 (O := O18) (j := 0) (v := .int .i64 ((Swath.suns o s lk).1 : Int)) (v' := .int .i64 ((Swath.suns o s lk).2 : Int)) (ex_store (p := .pointer (some ⟨O18, 0, none⟩)) (v := .agg #[.int .i64 ((Swath.suns o s lk).1 : Int), .int .i64 ((Swath.suns o s lk).2 : Int)]) rfl (by kernel_rfl) (by kernel_rfl) (st23 bO18_0.1 bO18_0.2 bO18_1.1 bO18_1.2)) bO18_0 bO18_1 ?_)
  intro X22 ho hv0 hv1 hk
  replace hE := ho.ext hE (Nat.le_trans (Nat.le_trans hs3 (Nat.le_trans hs7 (Nat.le_trans hs11 (Nat.le_trans hs15 hs17)))) (Nat.le_of_eq hzO18))
  replace hX13 := ho.ext hX13 (Nat.le_trans (Nat.le_trans hs15 hs17) (Nat.le_of_eq hzO18))
  have hs23 : X19.heap.size ≤ X22.heap.size := Nat.le_of_eq ho.size.symm
  clear ho hk bO18_0 bO18_1
  have bO18_0 := hv0; clear hv0
  have bO18_1 := hv1; clear hv1
  refine pl_nil ?_
  refine qw_then ?_
  refine cw_seq ?_
  refine cw_draw [(some 22, [11], []), (some 23, [22], [0]), (some 24, [11], []), (some 25, [24], [2]), (some 6, [23], [1, 0, 1]), (some 7, [25], [3, 4, 0, 1, 2, 3, 4]), (some 8, [], [5, 0, 1, 2, 3, 4, 5])] (fun w' => w'.cell? ⟨O18, 0, none⟩ = some (.int .i64 ((Swath.suns o s lk).1 : Int)) ∧ w'.cell? ⟨O18, 1, none⟩ = some (.int .i64 ((Swath.suns o s lk).2 : Int))) (by kernel_rfl) (by kernel_rfl) (by kernel_rfl) (by kernel_rfl) ((calm_then calm_body)) (⟨bO18_0.1, bO18_1.1⟩) (fun ops Q X24 hb hL hR hK => ?_)
  replace hE := hE.trans hb
  replace hX13 := hX13.trans hb
  replace bO18_0 := BoxAt.ext hb bO18_0
  replace bO18_1 := BoxAt.ext hb bO18_1
  have hs25 := hb.size
  clear hb
  refine wd_take 0 (.pointer (some ⟨O18, 0, none⟩)) hR rfl (by kernel_rfl) rfl (by kernel_rfl) (fun w _ => by kernel_rfl) (⟨bO18_0.1, bO18_1.1⟩) ?_
  refine wd_take 1 (.int .i64 ((Swath.suns o s lk).1 : Int)) hR rfl (by kernel_rfl) rfl (by kernel_rfl) (fun w hS => ex_load rfl (by kernel_rfl) (ld3 (hS.1))) (⟨bO18_0.1, bO18_1.1⟩) ?_
  refine wd_take 2 (.pointer (some ⟨O18, 1, none⟩)) hR rfl (by kernel_rfl) rfl (by kernel_rfl) (fun w _ => by kernel_rfl) (⟨bO18_0.1, bO18_1.1⟩) ?_
  refine wd_take 3 (.int .i64 ((Swath.suns o s lk).2 : Int)) hR rfl (by kernel_rfl) rfl (by kernel_rfl) (fun w hS => ex_load rfl (by kernel_rfl) (ld3 (hS.2))) (⟨bO18_0.1, bO18_1.1⟩) ?_
  refine wd_take 4 (.int .i64 ((Swath.suns o s lk).1 : Int)) hR rfl (by kernel_rfl) rfl (by kernel_rfl) (fun w _ => by kernel_rfl) (⟨bO18_0.1, bO18_1.1⟩) ?_
  refine wd_take 5 (.int .i64 ((Swath.suns o s lk).2 : Int)) hR rfl (by kernel_rfl) rfl (by kernel_rfl) (fun w _ => by kernel_rfl) (⟨bO18_0.1, bO18_1.1⟩) ?_
  refine wd_take 6 (.int .i64 0) hR rfl (by kernel_rfl) rfl (by kernel_rfl) (fun w _ => by kernel_rfl) (⟨bO18_0.1, bO18_1.1⟩) ?_
  refine wd_end hL hR hK (by kernel_rfl) ?_
  refine qw_then ?_
  refine cw_clean [6, 7, 8] (ws' := [(6, .int .i64 ((Swath.suns o s lk).1 : Int)), (7, .int .i64 ((Swath.suns o s lk).2 : Int)), (8, .int .i64 0)]) (by kernel_rfl) (fun L => ?_)
  refine cw_ret ?_
  refine qw_ret [.int .i64 ((Swath.suns o s lk).1 : Int), .int .i64 ((Swath.suns o s lk).2 : Int), .int .i64 0] rfl ⟨(by kernel_rfl), (by kernel_rfl), (by kernel_rfl), trivial⟩ ?_
  exact ⟨rfl, hE⟩
end Go.Proofs.YtdjjkhefdalokaaDoor
