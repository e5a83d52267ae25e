/- The statement SwathCells: for every input that the row lists, the law returns true, and every argument reads as it read before. -/
import Derived.Test.YtdjjkhefdalokaaDoorV7SwathCells
/- The walk of SwathCells. -/
namespace Go.Proofs.YtdjjkhefdalokaaDoor
open Go.RowKit

namespace Swath
open Globe
theorem one_len {q : Nat × Nat} : ∀ {l : List (Nat × Nat)}, l.Pairwise before → (∀ p, p ∈ l ↔ p = q) → l.length = 1
  | [], _, h => by have := (h q).2 rfl; cases this
  | [a], _, _ => rfl
  | a :: b :: r, hp, h => by
    obtain rfl := (h a).1 (by simp)
    obtain rfl := (h b).1 (by simp)
    have := (List.pairwise_cons.1 hp).1 b (by simp)
    unfold before at this; omega
theorem cells_one {o : Orb} (h : Orb.ok o = true) {l a b d : Int} (hb : b = a + 1) : (cellsTo (showL o l (a - d) (b - a).toNat) 24).length = 1 := by
  rw [show (b - a).toNat = 1 by omega]
  refine one_len (q := (sx o l (a - d), Orb.cy o (a - d))) (cells_sorted _ _) fun p => ?_
  have hx := sx_lt o l (a - d)
  have hy := Orb.cy_lt h (a - d)
  rw [mem_cells, has_show h]
  constructor
  · rintro ⟨_, _, i, hi, h1, h2⟩
    obtain rfl : i = 0 := by omega
    exact Prod.ext (by rw [h1]; simp) (by rw [h2]; simp)
  · rintro rfl
    exact ⟨hy, hx, 0, by omega, by simp, by simp⟩
theorem cells_at {o : Orb} (h : Orb.ok o = true) {l a b d t : Int} (h0 : a ≤ t) (h1 : t < b) : hasL (showL o l (a - d) (b - a).toNat) (sx o l (t - d)) (Orb.cy o (t - d)) = true :=
  (has_show h _ _ _).2 ⟨(t - a).toNat, by omega, by congr 1; omega, by congr 1; omega⟩
theorem cells_can {o : Orb} (h : Orb.ok o = true) {s : Int × Int} {l d t : Int} (h0 : s.1 ≤ t) (h1 : t < s.2) (h2 : -o.sl ≤ d) (h3 : d ≤ o.sl) : hasL (canL o s l) (sx o l (t - d)) (Orb.cy o (t - d)) = true := by
  refine (has_can (Orb.cy_lt h _)).2 ⟨(d + o.sl).toNat, by unfold lates; omega, ?_⟩
  unfold areaJ
  rw [show -o.sl + (((d + o.sl).toNat : Nat) : Int) = d by omega]
  exact cells_at h h0 h1
theorem cells_sure {o : Orb} (h : Orb.ok o = true) {s : Int × Int} {l t : Int} {p : Nat × Nat} (h0 : s.1 ≤ t) (h1 : t < s.2) (hp : ∀ d : Int, -o.sl ≤ d → d ≤ o.sl → (Orb.cx o (t - d), Orb.cy o (t - d)) = p) : hasL (sureL o s l) (((p.1 : Int) + l + 48) % 48).toNat p.2 = true := by
  have hq := Orb.ok_t.1 h
  have hy : p.2 < 24 := by rw [← hp 0 (by omega) (by omega)]; exact Orb.cy_lt h _
  refine (has_sure h hy).2 fun j hj => ?_
  unfold lates at hj
  have e := hp (-o.sl + ((j : Nat) : Int)) (by omega) (by omega)
  unfold areaJ
  rw [← e]
  exact cells_at h h0 h1
end Swath
theorem pickL_i (c n : Int) (w : World) (hc : IsI c) (h0 : 0 < n) (h1 : n ≤ 100000000) : Calls Tryd.prog 7 #[.int .i64 c, .int .i64 n] w fun e w' => ∃ k : Int, e = .returned (.int .i64 k) ∧ 0 ≤ k ∧ k < n ∧ w = w' :=
  (pickL_c c n w hc h0 h1).mono fun _ _ ⟨he, hw⟩ => ⟨_, he, (pickF_bd h0).1, (pickF_bd h0).2, hw⟩
theorem Has_t {b o c : Nat} {l : List Int} {x y : Nat} (w : World) (h : VA w b o l) (hx : x < 48) (hy : y < 24) (hr : Globe.hasL l x y = true) :
    Calls Tryd.prog 12 #[.agg #[.slice (some ⟨b, o, none⟩) 24 c], .agg #[.int .i64 ((x : Nat) : Int), .int .i64 ((y : Nat) : Int)]] w fun e w' => e = .returned (.bool true) ∧ Ext w w' := hr ▸ Has_y b o c l x y w (fun i hi => h.1 i (by have := Globe.len_of_valid h.2; omega)) h.2 hx hy
set_option maxRecDepth 1000000 in
set_option maxHeartbeats 4000000 in
theorem SwathCells_w (x0 x1 x2 x3 x4 x5 x6 y0 y1 lk ka la : Int) (ix0 : IsI x0) (ix1 : IsI x1) (ix2 : IsI x2) (ix3 : IsI x3) (ix4 : IsI x4) (ix5 : IsI x5) (ix6 : IsI x6) (iy0 : IsI y0) (iy1 : IsI y1) (ilk : IsI lk) (ika : IsI ka) (ila : IsI la) (w : World) (hT : Tab w) : Calls Tryd.prog 3 #[.agg #[.int .i64 x0, .int .i64 x1, .int .i64 x2, .int .i64 x3, .int .i64 x4, .int .i64 x5, .int .i64 x6], .agg #[.int .i64 y0, .int .i64 y1], .int .i64 lk, .int .i64 ka, .int .i64 la] w fun e w' => e = .returned (.bool true) ∧ Ext w w' := by
  refine calls_cw 182 [(4, .int .i64 (la : Int)), (3, .int .i64 (ka : Int)), (2, .int .i64 (lk : Int)), (1, .agg #[.int .i64 (y0 : Int), .int .i64 (y1 : Int)]), (0, .agg #[.int .i64 (x0 : Int), .int .i64 (x1 : Int), .int .i64 (x2 : Int), .int .i64 (x3 : Int), .int .i64 (x4 : Int), .int .i64 (x5 : Int), .int .i64 (x6 : Int)])] Tryd.func3 rfl Tryd.ntmps3 (by kernel_rfl) (by kernel_rfl) (fun L => ?_)
  have hE : Ext w w := Ext.refl w
  refine cw_seq ?_
  refine cw_plain ?_
  refine pl_step rfl (by kernel_rfl) (by kernel_rfl) (by kernel_rfl) (sn_new (us := #[.int .i64 (x0 : Int), .int .i64 (x1 : Int), .int .i64 (x2 : Int), .int .i64 (x3 : Int), .int .i64 (x4 : Int), .int .i64 (x5 : Int), .int .i64 (x6 : Int)]) (t := 22) (by kernel_rfl) ?_)
  intro O1 X2 hO hOs hb hbx
  have hzO1 := hO; have hyO1 := hOs; clear hO hOs
  have bO1_0 : BoxAt X2 O1 0 (.int .i64 (x0 : Int)) := hbx 0 _ rfl
  have bO1_1 : BoxAt X2 O1 1 (.int .i64 (x1 : Int)) := hbx 1 _ rfl
  have bO1_2 : BoxAt X2 O1 2 (.int .i64 (x2 : Int)) := hbx 2 _ rfl
  have bO1_3 : BoxAt X2 O1 3 (.int .i64 (x3 : Int)) := hbx 3 _ rfl
  have bO1_4 : BoxAt X2 O1 4 (.int .i64 (x4 : Int)) := hbx 4 _ rfl
  have bO1_5 : BoxAt X2 O1 5 (.int .i64 (x5 : Int)) := hbx 5 _ rfl
  have bO1_6 : BoxAt X2 O1 6 (.int .i64 (x6 : Int)) := hbx 6 _ rfl
  clear hbx
  replace hE := hE.trans hb
  have hs3 := hb.size
  clear hb
  have lt4 := bO1_0.lt
  refine pl_step rfl (by kernel_rfl) (by kernel_rfl) (by kernel_rfl) (sn_new (us := #[.int .i64 (y0 : Int), .int .i64 (y1 : Int)]) (t := 23) (by kernel_rfl) ?_)
  intro O5 X6 hO hOs hb hbx
  have hzO5 := hO; have hyO5 := hOs; clear hO hOs
  have bO5_0 : BoxAt X6 O5 0 (.int .i64 (y0 : Int)) := hbx 0 _ rfl
  have bO5_1 : BoxAt X6 O5 1 (.int .i64 (y1 : Int)) := hbx 1 _ rfl
  clear hbx
  replace hE := hE.trans hb
  replace bO1_0 := BoxAt.ext hb bO1_0
  replace bO1_1 := BoxAt.ext hb bO1_1
  replace bO1_2 := BoxAt.ext hb bO1_2
  replace bO1_3 := BoxAt.ext hb bO1_3
  replace bO1_4 := BoxAt.ext hb bO1_4
  replace bO1_5 := BoxAt.ext hb bO1_5
  replace bO1_6 := BoxAt.ext hb bO1_6
  have hs7 := hb.size
  clear hb
  have lt8 := bO5_0.lt
  refine pl_take (.bool false) rfl (by kernel_rfl) (by kernel_rfl) (by kernel_rfl) (by kernel_rfl) ?_
  refine pl_nil ?_
  refine qw_then ?_
  refine cw_seq ?_
  have hX9 : Ext X6 X6 := Ext.refl _
  refine cw_plain ?_
  refine pl_step rfl (by kernel_rfl) (by kernel_rfl) (by kernel_rfl) (sn_call (f := 4) (args := #[]) (by kernel_rfl) ((saneS_c _).mono ?_))
  rintro e w10 ⟨rfl, hb⟩
  replace hE := hE.trans hb
  replace hX9 := hX9.trans hb
  have hs11 := hb.size
  clear hb
  refine ⟨_, rfl, ?_⟩
  refine pl_take (.bool true) rfl (by kernel_rfl) (by kernel_rfl) (by kernel_rfl) (by kernel_rfl) ?_
  refine pl_nil ?_
  refine qw_then ?_
  refine cw_seq ?_
  refine cw_seq ?_
  refine cw_plain ?_
  refine pl_take (.bool true) rfl (by kernel_rfl) (by kernel_rfl) (by kernel_rfl) (by kernel_rfl) ?_
  refine pl_take (.bool false) rfl (by kernel_rfl) (by kernel_rfl) (by kernel_rfl) (by kernel_rfl) ?_
  refine pl_nil ?_
  refine qw_then ?_
  refine cw_f (by kernel_rfl) ?_
  refine cw_skip ?_
  refine qw_then ?_
  refine cw_seq ?_
  refine cw_plain ?_
  refine pl_take (.agg #[.int .i64 (x0 : Int), .int .i64 (x1 : Int), .int .i64 (x2 : Int), .int .i64 (x3 : Int), .int .i64 (x4 : Int), .int .i64 (x5 : Int), .int .i64 (x6 : Int)]) rfl (by kernel_rfl) (by kernel_rfl) (by kernel_rfl) (ex_load rfl (by kernel_rfl) (ld22 ((BoxAt.ext hX9 bO1_0).1) ((BoxAt.ext hX9 bO1_1).1) ((BoxAt.ext hX9 bO1_2).1) ((BoxAt.ext hX9 bO1_3).1) ((BoxAt.ext hX9 bO1_4).1) ((BoxAt.ext hX9 bO1_5).1) ((BoxAt.ext hX9 bO1_6).1))) ?_
  refine pl_step rfl (by kernel_rfl) (by kernel_rfl) (by kernel_rfl) (sn_call (f := 5) (args := #[.agg #[.int .i64 (x0 : Int), .int .i64 (x1 : Int), .int .i64 (x2 : Int), .int .i64 (x3 : Int), .int .i64 (x4 : Int), .int .i64 (x5 : Int), .int .i64 (x6 : Int)]]) (by kernel_rfl) ((Made7_c _ _ _ _ _ _ _ _ ix0 ix1 ix2 ix3 ix4 ix5 ix6).mono ?_))
  rintro e w12 ⟨o, rfl, hok, hsl, hb⟩
  replace hE := hE.trans hb
  replace hX9 := hX9.trans hb
  have hs13 := hb.size
  clear hb
  have hq0 := Orb.ok_t.1 hok
  refine ⟨_, rfl, ?_⟩
  refine pl_step rfl (by kernel_rfl) (by kernel_rfl) (by kernel_rfl) (sn_new (us := #[.int .i64 0, .int .i64 0, .int .i64 0, .int .i64 0, .int .i64 0, .int .i64 0, .int .i64 0]) (t := 26) (by kernel_rfl) ?_)
  intro O14 X15 hO hOs hb hbx
  have hzO14 := hO; have hyO14 := hOs; clear hO hOs
  have bO14_0 : BoxAt X15 O14 0 (.int .i64 0) := hbx 0 _ rfl
  have bO14_1 : BoxAt X15 O14 1 (.int .i64 0) := hbx 1 _ rfl
  have bO14_2 : BoxAt X15 O14 2 (.int .i64 0) := hbx 2 _ rfl
  have bO14_3 : BoxAt X15 O14 3 (.int .i64 0) := hbx 3 _ rfl
  have bO14_4 : BoxAt X15 O14 4 (.int .i64 0) := hbx 4 _ rfl
  have bO14_5 : BoxAt X15 O14 5 (.int .i64 0) := hbx 5 _ rfl
  have bO14_6 : BoxAt X15 O14 6 (.int .i64 0) := hbx 6 _ rfl
  clear hbx
  replace hE := hE.trans hb
  replace hX9 := hX9.trans hb
  have hs16 := hb.size
  clear hb
  have lt17 := bO14_0.lt
  refine pl_put rfl (by kernel_rfl) (by kernel_rfl) (sn_setK7 (O := O14) (j := 0) (v0 := .int .i64 (o.p : Int)) (v1 := .int .i64 (o.f : Int)) (v2 := .int .i64 (o.lo : Int)) (v3 := .int .i64 (o.hi : Int)) (v4 := .int .i64 (o.nd : Int)) (v5 := .int .i64 (o.tn : Int)) (v6 := .int .i64 (o.sl : Int)) (ex_store (p := .pointer (some ⟨O14, 0, none⟩)) (v := .agg #[.int .i64 (o.p : Int), .int .i64 (o.f : Int), .int .i64 (o.lo : Int), .int .i64 (o.hi : Int), .int .i64 (o.nd : Int), .int .i64 (o.tn : Int), .int .i64 (o.sl : Int)]) rfl (by kernel_rfl) (by kernel_rfl) (st26 bO14_0.1 bO14_0.2 bO14_1.1 bO14_1.2 bO14_2.1 bO14_2.2 bO14_3.1 bO14_3.2 bO14_4.1 bO14_4.2 bO14_5.1 bO14_5.2 bO14_6.1 bO14_6.2)) bO14_0 bO14_1 bO14_2 bO14_3 bO14_4 bO14_5 bO14_6 ?_)
  intro X18 ho hv0 hv1 hv2 hv3 hv4 hv5 hv6 hk
  replace hE := ho.ext hE (Nat.le_trans (Nat.le_trans hs3 (Nat.le_trans hs7 (Nat.le_trans hs11 hs13))) (Nat.le_of_eq hzO14))
  replace hX9 := ho.ext hX9 (Nat.le_trans (Nat.le_trans hs11 hs13) (Nat.le_of_eq hzO14))
  have hs19 : X15.heap.size ≤ X18.heap.size := Nat.le_of_eq ho.size.symm
  clear ho hk bO14_0 bO14_1 bO14_2 bO14_3 bO14_4 bO14_5 bO14_6
  have bO14_0 := hv0; clear hv0
  have bO14_1 := hv1; clear hv1
  have bO14_2 := hv2; clear hv2
  have bO14_3 := hv3; clear hv3
  have bO14_4 := hv4; clear hv4
  have bO14_5 := hv5; clear hv5
  have bO14_6 := hv6; clear hv6
  refine pl_nil ?_
  refine qw_then ?_
  refine cw_clean [2, 3, 4, 6, 11, 12] (ws' := [(2, .int .i64 (lk : Int)), (3, .int .i64 (ka : Int)), (4, .int .i64 (la : Int)), (6, .pointer (some ⟨O5, 0, none⟩)), (11, .bool true), (12, .pointer (some ⟨O14, 0, none⟩))]) (by kernel_rfl) (fun L => ?_)
  refine cw_seq ?_
  have hX20 : Ext X18 X18 := Ext.refl _
  refine cw_plain ?_
  refine pl_take (.agg #[.int .i64 (y0 : Int), .int .i64 (y1 : Int)]) rfl (by kernel_rfl) (by kernel_rfl) (by kernel_rfl) (ex_load rfl (by kernel_rfl) (ld23 ((BoxAt.ext (hX9.trans hX20) bO5_0).1) ((BoxAt.ext (hX9.trans hX20) bO5_1).1))) ?_
  refine pl_step rfl (by kernel_rfl) (by kernel_rfl) (by kernel_rfl) (sn_call (f := 6) (args := #[.agg #[.int .i64 (y0 : Int), .int .i64 (y1 : Int)]]) (by kernel_rfl) ((Shot_c _ _ _ iy0 iy1).mono ?_))
  rintro e w21 ⟨s, rfl, hsp30, hsp1, hb⟩
  replace hE := hE.trans hb
  replace hX20 := hX20.trans hb
  have hs22 := hb.size
  clear hb
  have q2 := Swath.spB_t.1 hsp30
  refine ⟨_, rfl, ?_⟩
  refine pl_step rfl (by kernel_rfl) (by kernel_rfl) (by kernel_rfl) (sn_new (us := #[.int .i64 0, .int .i64 0]) (t := 29) (by kernel_rfl) ?_)
  intro O23 X24 hO hOs hb hbx
  have hzO23 := hO; have hyO23 := hOs; clear hO hOs
  have bO23_0 : BoxAt X24 O23 0 (.int .i64 0) := hbx 0 _ rfl
  have bO23_1 : BoxAt X24 O23 1 (.int .i64 0) := hbx 1 _ rfl
  clear hbx
  replace hE := hE.trans hb
  replace hX20 := hX20.trans hb
  have hs25 := hb.size
  clear hb
  have lt26 := bO23_0.lt
  refine pl_put rfl (by kernel_rfl) (by kernel_rfl) (sn_set2 (O := O23) (j := 0) (v := .int .i64 (s.1 : Int)) (v' := .int .i64 (s.2 : Int)) (ex_store (p := .pointer (some ⟨O23, 0, none⟩)) (v := .agg #[.int .i64 (s.1 : Int), .int .i64 (s.2 : Int)]) rfl (by kernel_rfl) (by kernel_rfl) (st29 bO23_0.1 bO23_0.2 bO23_1.1 bO23_1.2)) bO23_0 bO23_1 ?_)
  intro X27 ho hv0 hv1 hk
  replace hE := ho.ext hE (Nat.le_trans (Nat.le_trans hs3 (Nat.le_trans hs7 (Nat.le_trans hs11 (Nat.le_trans hs13 (Nat.le_trans hs16 (Nat.le_trans hs19 hs22)))))) (Nat.le_of_eq hzO23))
  replace hX20 := ho.ext hX20 (Nat.le_trans hs22 (Nat.le_of_eq hzO23))
  have hs28 : X24.heap.size ≤ X27.heap.size := Nat.le_of_eq ho.size.symm
  clear ho hk bO23_0 bO23_1
  have bO23_0 := hv0; clear hv0
  have bO23_1 := hv1; clear hv1
  refine pl_nil ?_
  refine qw_then ?_
  refine cw_seq ?_
  refine cw_plain ?_
  refine pl_take (.int .i64 (lk : Int)) rfl (by kernel_rfl) (by kernel_rfl) (by kernel_rfl) (by kernel_rfl) ?_
  refine pl_step rfl (by kernel_rfl) (by kernel_rfl) (by kernel_rfl) (sn_call (f := 7) (args := #[.int .i64 (lk : Int), .int .i64 9]) (by kernel_rfl) ((pickL_n _ (9) _ ilk (by omega) (by omega)).mono ?_))
  rintro e w' ⟨pk30, rfl, pk30l, -, rfl⟩
  refine ⟨_, rfl, ?_⟩
  refine pl_take (.int .i64 ((((pk30 : Nat) : Int)) - 4 : Int)) rfl (by kernel_rfl) (by kernel_rfl) (by kernel_rfl) (ev_wrap (by kernel_rfl) (by omega) (by omega)) ?_
  refine pl_take (.int .i64 ((((pk30 : Nat) : Int)) - 4 : Int)) rfl (by kernel_rfl) (by kernel_rfl) (by kernel_rfl) (by kernel_rfl) ?_
  refine pl_nil ?_
  refine qw_then ?_
  refine cw_seq ?_
  refine cw_draw [(some 40, [13], []), (some 41, [40], [0]), (some 42, [3], []), (some 43, [13], []), (some 44, [43], [3]), (some 45, [13], []), (some 46, [45], [5]), (some 47, [44, 46], [4, 6]), (some 48, [42, 47], [2, 7]), (some 49, [41, 48], [1, 8]), (some 15, [49], [9, 8, 0, 1, 2, 3, 4, 5, 6, 7, 8, 9])] (fun w' => w'.cell? ⟨O23, 0, none⟩ = some (.int .i64 (s.1 : Int)) ∧ w'.cell? ⟨O23, 1, none⟩ = some (.int .i64 (s.2 : Int))) (by kernel_rfl) (by kernel_rfl) (by kernel_rfl) (by kernel_rfl) ((calm_then calm_body)) (⟨bO23_0.1, bO23_1.1⟩) (fun ops Q X31 hb hL hR hK => ?_)
  replace hE := hE.trans hb
  replace hX20 := hX20.trans hb
  replace bO23_0 := BoxAt.ext hb bO23_0
  replace bO23_1 := BoxAt.ext hb bO23_1
  have hs32 := hb.size
  clear hb
  refine wd_take 0 (.pointer (some ⟨O23, 0, none⟩)) hR rfl (by kernel_rfl) rfl (by kernel_rfl) (fun w _ => by kernel_rfl) (⟨bO23_0.1, bO23_1.1⟩) ?_
  refine wd_take 1 (.int .i64 (s.1 : Int)) hR rfl (by kernel_rfl) rfl (by kernel_rfl) (fun w hS => ex_load rfl (by kernel_rfl) (ld3 (hS.1))) (⟨bO23_0.1, bO23_1.1⟩) ?_
  refine wd_take 2 (.int .i64 (ka : Int)) hR rfl (by kernel_rfl) rfl (by kernel_rfl) (fun w _ => by kernel_rfl) (⟨bO23_0.1, bO23_1.1⟩) ?_
  refine wd_take 3 (.pointer (some ⟨O23, 1, none⟩)) hR rfl (by kernel_rfl) rfl (by kernel_rfl) (fun w _ => by kernel_rfl) (⟨bO23_0.1, bO23_1.1⟩) ?_
  refine wd_take 4 (.int .i64 (s.2 : Int)) hR rfl (by kernel_rfl) rfl (by kernel_rfl) (fun w hS => ex_load rfl (by kernel_rfl) (ld3 (hS.2))) (⟨bO23_0.1, bO23_1.1⟩) ?_
  refine wd_take 5 (.pointer (some ⟨O23, 0, none⟩)) hR rfl (by kernel_rfl) rfl (by kernel_rfl) (fun w _ => by kernel_rfl) (⟨bO23_0.1, bO23_1.1⟩) ?_
  refine wd_take 6 (.int .i64 (s.1 : Int)) hR rfl (by kernel_rfl) rfl (by kernel_rfl) (fun w hS => ex_load rfl (by kernel_rfl) (ld3 (hS.1))) (⟨bO23_0.1, bO23_1.1⟩) ?_
  refine wd_take 7 (.int .i64 (s.2 - s.1 : Int)) hR rfl (by kernel_rfl) rfl (by kernel_rfl) (fun w _ => ev_wrap (by kernel_rfl) (by omega) (by omega)) (⟨bO23_0.1, bO23_1.1⟩) ?_
  refine wd_step 8 hR rfl (by kernel_rfl) (by kernel_rfl) (by kernel_rfl) (sn_call (f := 7) (args := #[.int .i64 (ka : Int), .int .i64 (s.2 - s.1 : Int)]) (by kernel_rfl) ((pickL_i _ (s.2 - s.1) _ ika (by omega) (by omega)).mono ?_))
  rintro e w' ⟨pk33, rfl, pk33l, pk33u, rfl⟩
  refine ⟨_, rfl, ⟨bO23_0.1, bO23_1.1⟩, ?_⟩
  refine wd_take 9 (.int .i64 (s.1 + pk33 : Int)) hR rfl (by kernel_rfl) rfl (by kernel_rfl) (fun w _ => ev_wrap (by kernel_rfl) (by omega) (by omega)) (⟨bO23_0.1, bO23_1.1⟩) ?_
  refine wd_take 10 (.int .i64 (s.1 + pk33 : Int)) hR rfl (by kernel_rfl) rfl (by kernel_rfl) (fun w _ => by kernel_rfl) (⟨bO23_0.1, bO23_1.1⟩) ?_
  refine wd_end hL hR hK (by kernel_rfl) ?_
  refine qw_then ?_
  refine cw_clean [4, 11, 12, 13, 14, 15] (ws' := [(4, .int .i64 (la : Int)), (11, .bool true), (12, .pointer (some ⟨O14, 0, none⟩)), (13, .pointer (some ⟨O23, 0, none⟩)), (14, .int .i64 ((((pk30 : Nat) : Int)) - 4 : Int)), (15, .int .i64 (s.1 + pk33 : Int))]) (by kernel_rfl) (fun L => ?_)
  refine cw_seq ?_
  refine cw_draw [(some 50, [4], []), (some 51, [12], []), (some 52, [51], [1]), (some 53, [52], [2]), (some 54, [53], [3]), (some 55, [50, 54], [0, 4]), (some 56, [12], []), (some 57, [56], [6]), (some 58, [55, 57], [5, 7]), (some 16, [58], [8, 5, 0, 1, 2, 3, 4, 5, 6, 7, 8])] (fun w' => w'.cell? ⟨O14, 6, none⟩ = some (.int .i64 (o.sl : Int))) (by kernel_rfl) (by kernel_rfl) (by kernel_rfl) (by kernel_rfl) ((calm_then calm_body)) ((BoxAt.ext hX20 bO14_6).1) (fun ops Q X34 hb hL hR hK => ?_)
  replace hE := hE.trans hb
  replace hX20 := hX20.trans hb
  replace bO23_0 := BoxAt.ext hb bO23_0
  replace bO23_1 := BoxAt.ext hb bO23_1
  have hs35 := hb.size
  clear hb
  have hS36 := (BoxAt.ext hX20 bO14_6).1
  refine wd_take 0 (.int .i64 (la : Int)) hR rfl (by kernel_rfl) rfl (by kernel_rfl) (fun w _ => by kernel_rfl) (hS36) ?_
  refine wd_take 1 (.pointer (some ⟨O14, 6, none⟩)) hR rfl (by kernel_rfl) rfl (by kernel_rfl) (fun w _ => by kernel_rfl) (hS36) ?_
  refine wd_take 2 (.int .i64 (o.sl : Int)) hR rfl (by kernel_rfl) rfl (by kernel_rfl) (fun w hS => ex_load rfl (by kernel_rfl) (ld3 (hS))) (hS36) ?_
  refine wd_take 3 (.int .i64 (2 * o.sl : Int)) hR rfl (by kernel_rfl) rfl (by kernel_rfl) (fun w _ => ev_wrap (by kernel_rfl) (by omega) (by omega)) (hS36) ?_
  refine wd_take 4 (.int .i64 ((2 * o.sl) + 1 : Int)) hR rfl (by kernel_rfl) rfl (by kernel_rfl) (fun w _ => ev_wrap (by kernel_rfl) (by omega) (by omega)) (hS36) ?_
  refine wd_take 6 (.pointer (some ⟨O14, 6, none⟩)) hR rfl (by kernel_rfl) rfl (by kernel_rfl) (fun w _ => by kernel_rfl) (hS36) ?_
  refine wd_take 7 (.int .i64 (o.sl : Int)) hR rfl (by kernel_rfl) rfl (by kernel_rfl) (fun w hS => ex_load rfl (by kernel_rfl) (ld3 (hS))) (hS36) ?_
  refine wd_step 5 hR rfl (by kernel_rfl) (by kernel_rfl) (by kernel_rfl) (sn_call (f := 7) (args := #[.int .i64 (la : Int), .int .i64 ((2 * o.sl) + 1 : Int)]) (by kernel_rfl) ((pickL_i _ ((2 * o.sl) + 1) _ ila (by omega) (by omega)).mono ?_))
  rintro e w' ⟨pk37, rfl, pk37l, pk37u, rfl⟩
  refine ⟨_, rfl, hS36, ?_⟩
  refine wd_take 8 (.int .i64 (pk37 - o.sl : Int)) hR rfl (by kernel_rfl) rfl (by kernel_rfl) (fun w _ => ev_wrap (by kernel_rfl) (by omega) (by omega)) (hS36) ?_
  refine wd_take 9 (.int .i64 (pk37 - o.sl : Int)) hR rfl (by kernel_rfl) rfl (by kernel_rfl) (fun w _ => by kernel_rfl) (hS36) ?_
  refine wd_end hL hR hK (by kernel_rfl) ?_
  refine qw_then ?_
  refine cw_clean [11, 12, 13, 14, 15, 16] (ws' := [(11, .bool true), (12, .pointer (some ⟨O14, 0, none⟩)), (13, .pointer (some ⟨O23, 0, none⟩)), (14, .int .i64 ((((pk30 : Nat) : Int)) - 4 : Int)), (15, .int .i64 (s.1 + pk33 : Int)), (16, .int .i64 (pk37 - o.sl : Int))]) (by kernel_rfl) (fun L => ?_)
  refine cw_seq ?_
  refine cw_plain ?_
  refine pl_take (.agg #[.int .i64 (o.p : Int), .int .i64 (o.f : Int), .int .i64 (o.lo : Int), .int .i64 (o.hi : Int), .int .i64 (o.nd : Int), .int .i64 (o.tn : Int), .int .i64 (o.sl : Int)]) rfl (by kernel_rfl) (by kernel_rfl) (by kernel_rfl) (ex_load rfl (by kernel_rfl) (ld26 ((BoxAt.ext hX20 bO14_0).1) ((BoxAt.ext hX20 bO14_1).1) ((BoxAt.ext hX20 bO14_2).1) ((BoxAt.ext hX20 bO14_3).1) ((BoxAt.ext hX20 bO14_4).1) ((BoxAt.ext hX20 bO14_5).1) ((BoxAt.ext hX20 bO14_6).1))) ?_
  refine pl_take (.int .i64 (s.1 + pk33 : Int)) rfl (by kernel_rfl) (by kernel_rfl) (by kernel_rfl) (by kernel_rfl) ?_
  refine pl_take (.int .i64 (pk37 - o.sl : Int)) rfl (by kernel_rfl) (by kernel_rfl) (by kernel_rfl) (by kernel_rfl) ?_
  refine pl_step rfl (by kernel_rfl) (by kernel_rfl) (by kernel_rfl) (sn_call (f := 8) (args := #[.agg #[.int .i64 (o.p : Int), .int .i64 (o.f : Int), .int .i64 (o.lo : Int), .int .i64 (o.hi : Int), .int .i64 (o.nd : Int), .int .i64 (o.tn : Int), .int .i64 (o.sl : Int)], .int .i64 (s.1 + pk33 : Int), .int .i64 (pk37 - o.sl : Int)]) (by kernel_rfl) ((At_y o (s.1 + pk33) (pk37 - o.sl) _ (by unfold Orb.atB; rw [show Globe.inB (s.1 + pk33) 0 1000000 = true from Globe.inB_t.2 ⟨by omega, by omega⟩, show Globe.inB (pk37 - o.sl) (-10) 10 = true from Globe.inB_t.2 ⟨by omega, by omega⟩, hok]; rfl)).mono ?_))
  rintro e w38 ⟨rfl, hb⟩
  replace hE := hE.trans hb
  replace hX20 := hX20.trans hb
  replace bO23_0 := BoxAt.ext hb bO23_0
  replace bO23_1 := BoxAt.ext hb bO23_1
  have hs39 := hb.size
  clear hb
  refine ⟨_, rfl, ?_⟩
  refine pl_take (.tuple #[.agg #[.int .i64 (((Orb.cx o ((s.1 + pk33) - (pk37 - o.sl)) : Nat) : Int) : Int), .int .i64 (((Orb.cy o ((s.1 + pk33) - (pk37 - o.sl)) : Nat) : Int) : Int)], .int .i64 0]) rfl (by kernel_rfl) (by kernel_rfl) (by kernel_rfl) (by kernel_rfl) ?_
  refine pl_take (.agg #[.int .i64 (((Orb.cx o ((s.1 + pk33) - (pk37 - o.sl)) : Nat) : Int) : Int), .int .i64 (((Orb.cy o ((s.1 + pk33) - (pk37 - o.sl)) : Nat) : Int) : Int)]) rfl (by kernel_rfl) (by kernel_rfl) (by kernel_rfl) (by kernel_rfl) ?_
  refine pl_take (.int .i64 0) rfl (by kernel_rfl) (by kernel_rfl) (by kernel_rfl) (by kernel_rfl) ?_
  refine pl_step rfl (by kernel_rfl) (by kernel_rfl) (by kernel_rfl) (sn_new (us := #[.int .i64 0, .int .i64 0]) (t := 33) (by kernel_rfl) ?_)
  intro O40 X41 hO hOs hb hbx
  have hzO40 := hO; have hyO40 := hOs; clear hO hOs
  have bO40_0 : BoxAt X41 O40 0 (.int .i64 0) := hbx 0 _ rfl
  have bO40_1 : BoxAt X41 O40 1 (.int .i64 0) := hbx 1 _ rfl
  clear hbx
  replace hE := hE.trans hb
  replace hX20 := hX20.trans hb
  replace bO23_0 := BoxAt.ext hb bO23_0
  replace bO23_1 := BoxAt.ext hb bO23_1
  have hs42 := hb.size
  clear hb
  have lt43 := bO40_0.lt
  refine pl_put rfl (by kernel_rfl) (by kernel_rfl) (sn_set2 (O := O40) (j := 0) (v := .int .i64 (((Orb.cx o ((s.1 + pk33) - (pk37 - o.sl)) : Nat) : Int) : Int)) (v' := .int .i64 (((Orb.cy o ((s.1 + pk33) - (pk37 - o.sl)) : Nat) : Int) : Int)) (ex_store (p := .pointer (some ⟨O40, 0, none⟩)) (v := .agg #[.int .i64 (((Orb.cx o ((s.1 + pk33) - (pk37 - o.sl)) : Nat) : Int) : Int), .int .i64 (((Orb.cy o ((s.1 + pk33) - (pk37 - o.sl)) : Nat) : Int) : Int)]) rfl (by kernel_rfl) (by kernel_rfl) (st33 bO40_0.1 bO40_0.2 bO40_1.1 bO40_1.2)) bO40_0 bO40_1 ?_)
  intro X44 ho hv0 hv1 hk
  replace hE := ho.ext hE (Nat.le_trans (Nat.le_trans hs3 (Nat.le_trans hs7 (Nat.le_trans hs11 (Nat.le_trans hs13 (Nat.le_trans hs16 (Nat.le_trans hs19 (Nat.le_trans hs22 (Nat.le_trans hs25 (Nat.le_trans hs28 (Nat.le_trans hs32 (Nat.le_trans hs35 hs39))))))))))) (Nat.le_of_eq hzO40))
  replace hX20 := ho.ext hX20 (Nat.le_trans (Nat.le_trans hs22 (Nat.le_trans hs25 (Nat.le_trans hs28 (Nat.le_trans hs32 (Nat.le_trans hs35 hs39))))) (Nat.le_of_eq hzO40))
  replace bO23_0 := ho.box (Nat.ne_of_gt (Nat.lt_of_lt_of_le lt26 (Nat.le_trans (Nat.le_trans hs28 (Nat.le_trans hs32 (Nat.le_trans hs35 hs39))) (Nat.le_of_eq hzO40)))) bO23_0
  replace bO23_1 := ho.box (Nat.ne_of_gt (Nat.lt_of_lt_of_le lt26 (Nat.le_trans (Nat.le_trans hs28 (Nat.le_trans hs32 (Nat.le_trans hs35 hs39))) (Nat.le_of_eq hzO40)))) bO23_1
  have hs45 : X41.heap.size ≤ X44.heap.size := Nat.le_of_eq ho.size.symm
  clear ho hk bO40_0 bO40_1
  have bO40_0 := hv0; clear hv0
  have bO40_1 := hv1; clear hv1
  refine pl_take (.int .i64 0) rfl (by kernel_rfl) (by kernel_rfl) (by kernel_rfl) (by kernel_rfl) ?_
  refine pl_nil ?_
  refine qw_then ?_
  refine cw_clean [11, 12, 13, 14, 15, 16, 17, 18] (ws' := [(11, .bool true), (12, .pointer (some ⟨O14, 0, none⟩)), (13, .pointer (some ⟨O23, 0, none⟩)), (14, .int .i64 ((((pk30 : Nat) : Int)) - 4 : Int)), (15, .int .i64 (s.1 + pk33 : Int)), (16, .int .i64 (pk37 - o.sl : Int)), (17, .pointer (some ⟨O40, 0, none⟩)), (18, .int .i64 0)]) (by kernel_rfl) (fun L => ?_)
  refine cw_seq ?_
  have hX46 : Ext X44 X44 := Ext.refl _
  refine cw_plain ?_
  refine pl_take (.agg #[.int .i64 (o.p : Int), .int .i64 (o.f : Int), .int .i64 (o.lo : Int), .int .i64 (o.hi : Int), .int .i64 (o.nd : Int), .int .i64 (o.tn : Int), .int .i64 (o.sl : Int)]) rfl (by kernel_rfl) (by kernel_rfl) (by kernel_rfl) (ex_load rfl (by kernel_rfl) (ld26 ((BoxAt.ext (hX20.trans hX46) bO14_0).1) ((BoxAt.ext (hX20.trans hX46) bO14_1).1) ((BoxAt.ext (hX20.trans hX46) bO14_2).1) ((BoxAt.ext (hX20.trans hX46) bO14_3).1) ((BoxAt.ext (hX20.trans hX46) bO14_4).1) ((BoxAt.ext (hX20.trans hX46) bO14_5).1) ((BoxAt.ext (hX20.trans hX46) bO14_6).1))) ?_
  refine pl_take (.int .i64 (s.1 + pk33 : Int)) rfl (by kernel_rfl) (by kernel_rfl) (by kernel_rfl) (by kernel_rfl) ?_
  refine pl_take (.int .i64 (s.1 + pk33 : Int)) rfl (by kernel_rfl) (by kernel_rfl) (by kernel_rfl) (by kernel_rfl) ?_
  refine pl_take (.int .i64 ((s.1 + pk33) + 1 : Int)) rfl (by kernel_rfl) (by kernel_rfl) (by kernel_rfl) (ev_wrap (by kernel_rfl) (by omega) (by omega)) ?_
  refine pl_take (.agg #[.int .i64 (s.1 + pk33 : Int), .int .i64 ((s.1 + pk33) + 1 : Int)]) rfl (by kernel_rfl) (by kernel_rfl) (by kernel_rfl) (by kernel_rfl) ?_
  refine pl_take (.int .i64 ((((pk30 : Nat) : Int)) - 4 : Int)) rfl (by kernel_rfl) (by kernel_rfl) (by kernel_rfl) (by kernel_rfl) ?_
  refine pl_take (.int .i64 (pk37 - o.sl : Int)) rfl (by kernel_rfl) (by kernel_rfl) (by kernel_rfl) (by kernel_rfl) ?_
  refine pl_step rfl (by kernel_rfl) (by kernel_rfl) (by kernel_rfl) (sn_call (f := 9) (args := #[.agg #[.int .i64 (o.p : Int), .int .i64 (o.f : Int), .int .i64 (o.lo : Int), .int .i64 (o.hi : Int), .int .i64 (o.nd : Int), .int .i64 (o.tn : Int), .int .i64 (o.sl : Int)], .agg #[.int .i64 (s.1 + pk33 : Int), .int .i64 ((s.1 + pk33) + 1 : Int)], .int .i64 ((((pk30 : Nat) : Int)) - 4 : Int), .int .i64 (pk37 - o.sl : Int)]) (by kernel_rfl) ((Shown_y (o := o) (s := (s.1 + pk33, (s.1 + pk33) + 1)) (lk := (((pk30 : Nat) : Int)) - 4) (d := pk37 - o.sl) _ (Bool.and_eq_true_iff.2 ⟨Swath.shB_t.2 ⟨hok, ⟨by first | omega | (simp only []; omega), by first | omega | (simp only []; omega), by first | omega | (simp only []; omega), by first | omega | (simp only []; omega)⟩, by omega, by omega⟩, Globe.inB_t.2 ⟨by omega, by omega⟩⟩)).mono ?_))
  rintro e w50 ⟨B47, rfl, hn48, hr49, hb⟩
  replace hE := hE.trans hb
  replace hX46 := hX46.trans hb
  have hs51 := hb.size
  clear hb
  have lt52 := hr49.lt
  refine ⟨_, rfl, ?_⟩
  refine pl_take (.tuple #[.agg #[.slice (some ⟨B47, 0, none⟩) 24 24], .int .i64 0]) rfl (by kernel_rfl) (by kernel_rfl) (by kernel_rfl) (by kernel_rfl) ?_
  refine pl_take (.agg #[.slice (some ⟨B47, 0, none⟩) 24 24]) rfl (by kernel_rfl) (by kernel_rfl) (by kernel_rfl) (by kernel_rfl) ?_
  refine pl_take (.int .i64 0) rfl (by kernel_rfl) (by kernel_rfl) (by kernel_rfl) (by kernel_rfl) ?_
  refine pl_step rfl (by kernel_rfl) (by kernel_rfl) (by kernel_rfl) (sn_new (us := #[.slice none 0 0]) (t := 39) (by kernel_rfl) ?_)
  intro O53 X54 hO hOs hb hbx
  have hzO53 := hO; have hyO53 := hOs; clear hO hOs
  have bO53_0 : BoxAt X54 O53 0 (.slice none 0 0) := hbx 0 _ rfl
  clear hbx
  replace hE := hE.trans hb
  replace hX46 := hX46.trans hb
  replace hr49 := hr49.ext hb
  have hs55 := hb.size
  clear hb
  have lt56 := bO53_0.lt
  refine pl_put rfl (by kernel_rfl) (by kernel_rfl) (sn_set (O := O53) (j := 0) (v := .slice (some ⟨B47, 0, none⟩) 24 24) (ex_store (p := .pointer (some ⟨O53, 0, none⟩)) (v := .agg #[.slice (some ⟨B47, 0, none⟩) 24 24]) rfl (by kernel_rfl) (by kernel_rfl) (st39 bO53_0.1 bO53_0.2)) bO53_0 ?_)
  intro X57 ho hv0 hk
  replace hE := ho.ext hE (Nat.le_trans (Nat.le_trans hs3 (Nat.le_trans hs7 (Nat.le_trans hs11 (Nat.le_trans hs13 (Nat.le_trans hs16 (Nat.le_trans hs19 (Nat.le_trans hs22 (Nat.le_trans hs25 (Nat.le_trans hs28 (Nat.le_trans hs32 (Nat.le_trans hs35 (Nat.le_trans hs39 (Nat.le_trans hs42 (Nat.le_trans hs45 hs51)))))))))))))) (Nat.le_of_eq hzO53))
  replace hX46 := ho.ext hX46 (Nat.le_trans hs51 (Nat.le_of_eq hzO53))
  replace hr49 := ho.rows (Nat.ne_of_gt (Nat.lt_of_lt_of_le lt52 (Nat.le_of_eq hzO53))) hr49
  have hs58 : X54.heap.size ≤ X57.heap.size := Nat.le_of_eq ho.size.symm
  clear ho hk bO53_0
  have bO53_0 := hv0; clear hv0
  refine pl_take (.int .i64 0) rfl (by kernel_rfl) (by kernel_rfl) (by kernel_rfl) (by kernel_rfl) ?_
  refine pl_nil ?_
  refine qw_then ?_
  refine cw_clean [11, 12, 13, 14, 15, 16, 17, 18, 19, 20] (ws' := [(11, .bool true), (12, .pointer (some ⟨O14, 0, none⟩)), (13, .pointer (some ⟨O23, 0, none⟩)), (14, .int .i64 ((((pk30 : Nat) : Int)) - 4 : Int)), (15, .int .i64 (s.1 + pk33 : Int)), (16, .int .i64 (pk37 - o.sl : Int)), (17, .pointer (some ⟨O40, 0, none⟩)), (18, .int .i64 0), (19, .pointer (some ⟨O53, 0, none⟩)), (20, .int .i64 0)]) (by kernel_rfl) (fun L => ?_)
  refine cw_seq ?_
  refine cw_plain ?_
  refine pl_take (.agg #[.int .i64 (o.p : Int), .int .i64 (o.f : Int), .int .i64 (o.lo : Int), .int .i64 (o.hi : Int), .int .i64 (o.nd : Int), .int .i64 (o.tn : Int), .int .i64 (o.sl : Int)]) rfl (by kernel_rfl) (by kernel_rfl) (by kernel_rfl) (ex_load rfl (by kernel_rfl) (ld26 ((BoxAt.ext (hX20.trans hX46) bO14_0).1) ((BoxAt.ext (hX20.trans hX46) bO14_1).1) ((BoxAt.ext (hX20.trans hX46) bO14_2).1) ((BoxAt.ext (hX20.trans hX46) bO14_3).1) ((BoxAt.ext (hX20.trans hX46) bO14_4).1) ((BoxAt.ext (hX20.trans hX46) bO14_5).1) ((BoxAt.ext (hX20.trans hX46) bO14_6).1))) ?_
  refine pl_take (.agg #[.int .i64 (s.1 : Int), .int .i64 (s.2 : Int)]) rfl (by kernel_rfl) (by kernel_rfl) (by kernel_rfl) (ex_load rfl (by kernel_rfl) (ld29 ((BoxAt.ext hX46 bO23_0).1) ((BoxAt.ext hX46 bO23_1).1))) ?_
  refine pl_take (.int .i64 ((((pk30 : Nat) : Int)) - 4 : Int)) rfl (by kernel_rfl) (by kernel_rfl) (by kernel_rfl) (by kernel_rfl) ?_
  refine pl_take (.int .i64 (pk37 - o.sl : Int)) rfl (by kernel_rfl) (by kernel_rfl) (by kernel_rfl) (by kernel_rfl) ?_
  refine pl_step rfl (by kernel_rfl) (by kernel_rfl) (by kernel_rfl) (sn_call (f := 9) (args := #[.agg #[.int .i64 (o.p : Int), .int .i64 (o.f : Int), .int .i64 (o.lo : Int), .int .i64 (o.hi : Int), .int .i64 (o.nd : Int), .int .i64 (o.tn : Int), .int .i64 (o.sl : Int)], .agg #[.int .i64 (s.1 : Int), .int .i64 (s.2 : Int)], .int .i64 ((((pk30 : Nat) : Int)) - 4 : Int), .int .i64 (pk37 - o.sl : Int)]) (by kernel_rfl) ((Shown_y (o := o) (s := s) (lk := (((pk30 : Nat) : Int)) - 4) (d := pk37 - o.sl) _ (Bool.and_eq_true_iff.2 ⟨Swath.shB_t.2 ⟨hok, ⟨by first | omega | (simp only []; omega), by first | omega | (simp only []; omega), by first | omega | (simp only []; omega), by first | omega | (simp only []; omega)⟩, by omega, by omega⟩, Globe.inB_t.2 ⟨by omega, by omega⟩⟩)).mono ?_))
  rintro e w62 ⟨B59, rfl, hn60, hr61, hb⟩
  replace hE := hE.trans hb
  replace hX46 := hX46.trans hb
  replace hr49 := hr49.ext hb
  replace bO53_0 := BoxAt.ext hb bO53_0
  have hs63 := hb.size
  clear hb
  have lt64 := hr61.lt
  refine ⟨_, rfl, ?_⟩
  refine pl_take (.tuple #[.agg #[.slice (some ⟨B59, 0, none⟩) 24 24], .int .i64 0]) rfl (by kernel_rfl) (by kernel_rfl) (by kernel_rfl) (by kernel_rfl) ?_
  refine pl_take (.agg #[.slice (some ⟨B59, 0, none⟩) 24 24]) rfl (by kernel_rfl) (by kernel_rfl) (by kernel_rfl) (by kernel_rfl) ?_
  refine pl_take (.int .i64 0) rfl (by kernel_rfl) (by kernel_rfl) (by kernel_rfl) (by kernel_rfl) ?_
  refine pl_step rfl (by kernel_rfl) (by kernel_rfl) (by kernel_rfl) (sn_new (us := #[.slice none 0 0]) (t := 39) (by kernel_rfl) ?_)
  intro O65 X66 hO hOs hb hbx
  have hzO65 := hO; have hyO65 := hOs; clear hO hOs
  have bO65_0 : BoxAt X66 O65 0 (.slice none 0 0) := hbx 0 _ rfl
  clear hbx
  replace hE := hE.trans hb
  replace hX46 := hX46.trans hb
  replace hr49 := hr49.ext hb
  replace bO53_0 := BoxAt.ext hb bO53_0
  replace hr61 := hr61.ext hb
  have hs67 := hb.size
  clear hb
  have lt68 := bO65_0.lt
  refine pl_put rfl (by kernel_rfl) (by kernel_rfl) (sn_set (O := O65) (j := 0) (v := .slice (some ⟨B59, 0, none⟩) 24 24) (ex_store (p := .pointer (some ⟨O65, 0, none⟩)) (v := .agg #[.slice (some ⟨B59, 0, none⟩) 24 24]) rfl (by kernel_rfl) (by kernel_rfl) (st39 bO65_0.1 bO65_0.2)) bO65_0 ?_)
  intro X69 ho hv0 hk
  replace hE := ho.ext hE (Nat.le_trans (Nat.le_trans hs3 (Nat.le_trans hs7 (Nat.le_trans hs11 (Nat.le_trans hs13 (Nat.le_trans hs16 (Nat.le_trans hs19 (Nat.le_trans hs22 (Nat.le_trans hs25 (Nat.le_trans hs28 (Nat.le_trans hs32 (Nat.le_trans hs35 (Nat.le_trans hs39 (Nat.le_trans hs42 (Nat.le_trans hs45 (Nat.le_trans hs51 (Nat.le_trans hs55 (Nat.le_trans hs58 hs63))))))))))))))))) (Nat.le_of_eq hzO65))
  replace hX46 := ho.ext hX46 (Nat.le_trans (Nat.le_trans hs51 (Nat.le_trans hs55 (Nat.le_trans hs58 hs63))) (Nat.le_of_eq hzO65))
  replace hr49 := ho.rows (Nat.ne_of_gt (Nat.lt_of_lt_of_le lt52 (Nat.le_trans (Nat.le_trans hs55 (Nat.le_trans hs58 hs63)) (Nat.le_of_eq hzO65)))) hr49
  replace bO53_0 := ho.box (Nat.ne_of_gt (Nat.lt_of_lt_of_le lt56 (Nat.le_trans (Nat.le_trans hs58 hs63) (Nat.le_of_eq hzO65)))) bO53_0
  replace hr61 := ho.rows (Nat.ne_of_gt (Nat.lt_of_lt_of_le lt64 (Nat.le_of_eq hzO65))) hr61
  have hs70 : X66.heap.size ≤ X69.heap.size := Nat.le_of_eq ho.size.symm
  clear ho hk bO65_0
  have bO65_0 := hv0; clear hv0
  refine pl_take (.int .i64 0) rfl (by kernel_rfl) (by kernel_rfl) (by kernel_rfl) (by kernel_rfl) ?_
  refine pl_nil ?_
  refine qw_then ?_
  refine cw_clean [11, 12, 13, 14, 15, 16, 17, 18, 19, 20, 21, 22] (ws' := [(11, .bool true), (12, .pointer (some ⟨O14, 0, none⟩)), (13, .pointer (some ⟨O23, 0, none⟩)), (14, .int .i64 ((((pk30 : Nat) : Int)) - 4 : Int)), (15, .int .i64 (s.1 + pk33 : Int)), (16, .int .i64 (pk37 - o.sl : Int)), (17, .pointer (some ⟨O40, 0, none⟩)), (18, .int .i64 0), (19, .pointer (some ⟨O53, 0, none⟩)), (20, .int .i64 0), (21, .pointer (some ⟨O65, 0, none⟩)), (22, .int .i64 0)]) (by kernel_rfl) (fun L => ?_)
  refine cw_seq ?_
  have hX71 : Ext X69 X69 := Ext.refl _
  refine cw_plain ?_
  have hY72 := hX20.trans hX46
  refine pl_take (.agg #[.int .i64 (o.p : Int), .int .i64 (o.f : Int), .int .i64 (o.lo : Int), .int .i64 (o.hi : Int), .int .i64 (o.nd : Int), .int .i64 (o.tn : Int), .int .i64 (o.sl : Int)]) rfl (by kernel_rfl) (by kernel_rfl) (by kernel_rfl) (ex_load rfl (by kernel_rfl) (ld26 ((BoxAt.ext (hY72.trans hX71) bO14_0).1) ((BoxAt.ext (hY72.trans hX71) bO14_1).1) ((BoxAt.ext (hY72.trans hX71) bO14_2).1) ((BoxAt.ext (hY72.trans hX71) bO14_3).1) ((BoxAt.ext (hY72.trans hX71) bO14_4).1) ((BoxAt.ext (hY72.trans hX71) bO14_5).1) ((BoxAt.ext (hY72.trans hX71) bO14_6).1))) ?_
  refine pl_take (.agg #[.int .i64 (s.1 : Int), .int .i64 (s.2 : Int)]) rfl (by kernel_rfl) (by kernel_rfl) (by kernel_rfl) (ex_load rfl (by kernel_rfl) (ld29 ((BoxAt.ext (hX46.trans hX71) bO23_0).1) ((BoxAt.ext (hX46.trans hX71) bO23_1).1))) ?_
  refine pl_take (.int .i64 ((((pk30 : Nat) : Int)) - 4 : Int)) rfl (by kernel_rfl) (by kernel_rfl) (by kernel_rfl) (by kernel_rfl) ?_
  refine pl_step rfl (by kernel_rfl) (by kernel_rfl) (by kernel_rfl) (sn_call (f := 10) (args := #[.agg #[.int .i64 (o.p : Int), .int .i64 (o.f : Int), .int .i64 (o.lo : Int), .int .i64 (o.hi : Int), .int .i64 (o.nd : Int), .int .i64 (o.tn : Int), .int .i64 (o.sl : Int)], .agg #[.int .i64 (s.1 : Int), .int .i64 (s.2 : Int)], .int .i64 ((((pk30 : Nat) : Int)) - 4 : Int)]) (by kernel_rfl) ((Strip_y (o := o) (s := s) (lk := (((pk30 : Nat) : Int)) - 4) _ (Swath.shB_t.2 ⟨hok, ⟨by first | omega | (simp only []; omega), by first | omega | (simp only []; omega), by first | omega | (simp only []; omega), by first | omega | (simp only []; omega)⟩, by omega, by omega⟩)).mono ?_))
  rintro e w82 ⟨B73, g74, k75, k76, rfl, hn77, hn78, hne79, hr80, hr81, hb⟩
  replace hE := hE.trans hb
  replace hX71 := hX71.trans hb
  have hs83 := hb.size
  clear hb
  have lt84 := hr80.lt
  have lt85 := hr81.lt
  have hne79h := Lib.hid hne79
  refine ⟨_, rfl, ?_⟩
  refine pl_take (.tuple #[.agg #[.slice (some ⟨B73, 0, none⟩) 24 k75, .slice (some ⟨g74, 0, none⟩) 24 k76], .int .i64 0]) rfl (by kernel_rfl) (by kernel_rfl) (by kernel_rfl) (by kernel_rfl) ?_
  refine pl_take (.agg #[.slice (some ⟨B73, 0, none⟩) 24 k75, .slice (some ⟨g74, 0, none⟩) 24 k76]) rfl (by kernel_rfl) (by kernel_rfl) (by kernel_rfl) (by kernel_rfl) ?_
  refine pl_take (.int .i64 0) rfl (by kernel_rfl) (by kernel_rfl) (by kernel_rfl) (by kernel_rfl) ?_
  refine pl_step rfl (by kernel_rfl) (by kernel_rfl) (by kernel_rfl) (sn_new (us := #[.slice none 0 0, .slice none 0 0]) (t := 43) (by kernel_rfl) ?_)
  intro O86 X87 hO hOs hb hbx
  have hzO86 := hO; have hyO86 := hOs; clear hO hOs
  have bO86_0 : BoxAt X87 O86 0 (.slice none 0 0) := hbx 0 _ rfl
  have bO86_1 : BoxAt X87 O86 1 (.slice none 0 0) := hbx 1 _ rfl
  clear hbx
  replace hE := hE.trans hb
  replace hX71 := hX71.trans hb
  replace hr80 := hr80.ext hb
  replace hr81 := hr81.ext hb
  have hs88 := hb.size
  clear hb
  have lt89 := bO86_0.lt
  refine pl_put rfl (by kernel_rfl) (by kernel_rfl) (sn_set2 (O := O86) (j := 0) (v := .slice (some ⟨B73, 0, none⟩) 24 k75) (v' := .slice (some ⟨g74, 0, none⟩) 24 k76) (ex_store (p := .pointer (some ⟨O86, 0, none⟩)) (v := .agg #[.slice (some ⟨B73, 0, none⟩) 24 k75, .slice (some ⟨g74, 0, none⟩) 24 k76]) rfl (by kernel_rfl) (by kernel_rfl) (st43 bO86_0.1 bO86_0.2 bO86_1.1 bO86_1.2)) bO86_0 bO86_1 ?_)
  intro X90 ho hv0 hv1 hk
  replace hE := ho.ext hE (Nat.le_trans (Nat.le_trans hs3 (Nat.le_trans hs7 (Nat.le_trans hs11 (Nat.le_trans hs13 (Nat.le_trans hs16 (Nat.le_trans hs19 (Nat.le_trans hs22 (Nat.le_trans hs25 (Nat.le_trans hs28 (Nat.le_trans hs32 (Nat.le_trans hs35 (Nat.le_trans hs39 (Nat.le_trans hs42 (Nat.le_trans hs45 (Nat.le_trans hs51 (Nat.le_trans hs55 (Nat.le_trans hs58 (Nat.le_trans hs63 (Nat.le_trans hs67 (Nat.le_trans hs70 hs83)))))))))))))))))))) (Nat.le_of_eq hzO86))
  replace hX71 := ho.ext hX71 (Nat.le_trans hs83 (Nat.le_of_eq hzO86))
  replace hr80 := ho.rows (Nat.ne_of_gt (Nat.lt_of_lt_of_le lt84 (Nat.le_of_eq hzO86))) hr80
  replace hr81 := ho.rows (Nat.ne_of_gt (Nat.lt_of_lt_of_le lt85 (Nat.le_of_eq hzO86))) hr81
  have hs91 : X87.heap.size ≤ X90.heap.size := Nat.le_of_eq ho.size.symm
  clear ho hk bO86_0 bO86_1
  have bO86_0 := hv0; clear hv0
  have bO86_1 := hv1; clear hv1
  refine pl_take (.int .i64 0) rfl (by kernel_rfl) (by kernel_rfl) (by kernel_rfl) (by kernel_rfl) ?_
  refine pl_nil ?_
  refine qw_then ?_
  refine cw_clean [11, 12, 14, 15, 16, 17, 18, 19, 20, 21, 22, 23, 24] (ws' := [(11, .bool true), (12, .pointer (some ⟨O14, 0, none⟩)), (14, .int .i64 ((((pk30 : Nat) : Int)) - 4 : Int)), (15, .int .i64 (s.1 + pk33 : Int)), (16, .int .i64 (pk37 - o.sl : Int)), (17, .pointer (some ⟨O40, 0, none⟩)), (18, .int .i64 0), (19, .pointer (some ⟨O53, 0, none⟩)), (20, .int .i64 0), (21, .pointer (some ⟨O65, 0, none⟩)), (22, .int .i64 0), (23, .pointer (some ⟨O86, 0, none⟩)), (24, .int .i64 0)]) (by kernel_rfl) (fun L => ?_)
  refine cw_seq ?_
  refine cw_seq ?_
  have hX92 : Ext X90 X90 := Ext.refl _
  refine cw_plain ?_
  refine pl_take (.int .i64 0) rfl (by kernel_rfl) (by kernel_rfl) (by kernel_rfl) (by kernel_rfl) ?_
  refine pl_take (.bool false) rfl (by kernel_rfl) (by kernel_rfl) (by kernel_rfl) (by kernel_rfl) ?_
  refine pl_take (.bool false) rfl (by kernel_rfl) (by kernel_rfl) (by kernel_rfl) (by kernel_rfl) ?_
  refine pl_take (.int .i64 0) rfl (by kernel_rfl) (by kernel_rfl) (by kernel_rfl) (by kernel_rfl) ?_
  refine pl_take (.bool false) rfl (by kernel_rfl) (by kernel_rfl) (by kernel_rfl) (by kernel_rfl) ?_
  refine pl_take (.bool false) rfl (by kernel_rfl) (by kernel_rfl) (by kernel_rfl) (by kernel_rfl) ?_
  refine pl_take (.bool false) rfl (by kernel_rfl) (by kernel_rfl) (by kernel_rfl) (by kernel_rfl) ?_
  refine pl_take (.int .i64 0) rfl (by kernel_rfl) (by kernel_rfl) (by kernel_rfl) (by kernel_rfl) ?_
  refine pl_take (.bool false) rfl (by kernel_rfl) (by kernel_rfl) (by kernel_rfl) (by kernel_rfl) ?_
  refine pl_take (.bool false) rfl (by kernel_rfl) (by kernel_rfl) (by kernel_rfl) (by kernel_rfl) ?_
  refine pl_take (.bool false) rfl (by kernel_rfl) (by kernel_rfl) (by kernel_rfl) (by kernel_rfl) ?_
  refine pl_take (.int .i64 0) rfl (by kernel_rfl) (by kernel_rfl) (by kernel_rfl) (by kernel_rfl) ?_
  refine pl_take (.bool false) rfl (by kernel_rfl) (by kernel_rfl) (by kernel_rfl) (by kernel_rfl) ?_
  refine pl_take (.bool false) rfl (by kernel_rfl) (by kernel_rfl) (by kernel_rfl) (by kernel_rfl) ?_
  refine pl_nil ?_
  refine qw_then ?_
  refine cw_clean [11, 12, 14, 15, 16, 17, 19, 21, 23, 105] (ws' := [(11, .bool true), (12, .pointer (some ⟨O14, 0, none⟩)), (14, .int .i64 ((((pk30 : Nat) : Int)) - 4 : Int)), (15, .int .i64 (s.1 + pk33 : Int)), (16, .int .i64 (pk37 - o.sl : Int)), (17, .pointer (some ⟨O40, 0, none⟩)), (19, .pointer (some ⟨O53, 0, none⟩)), (21, .pointer (some ⟨O65, 0, none⟩)), (23, .pointer (some ⟨O86, 0, none⟩)), (105, .bool false)]) (by kernel_rfl) (fun L => ?_)
  refine cw_f (by kernel_rfl) ?_
  refine cw_skip ?_
  refine qw_then ?_
  refine cw_seq ?_
  have hcx := Orb.cx_lt o ((s.1 + pk33) - (pk37 - o.sl))
  refine cw_plain ?_
  refine pl_take (.pointer (some ⟨O40, 0, none⟩)) rfl (by kernel_rfl) (by kernel_rfl) (by kernel_rfl) (by kernel_rfl) ?_
  have hY93 := hX46.trans hX71
  refine pl_take (.int .i64 (((Orb.cx o ((s.1 + pk33) - (pk37 - o.sl)) : Nat) : Int) : Int)) rfl (by kernel_rfl) (by kernel_rfl) (by kernel_rfl) (ex_load rfl (by kernel_rfl) (ld3 ((BoxAt.ext (hY93.trans hX92) bO40_0).1))) ?_
  refine pl_take (.int .i64 ((((pk30 : Nat) : Int)) - 4 : Int)) rfl (by kernel_rfl) (by kernel_rfl) (by kernel_rfl) (by kernel_rfl) ?_
  refine pl_take (.int .i64 ((((Orb.cx o ((s.1 + pk33) - (pk37 - o.sl)) : Nat) : Int)) + ((((pk30 : Nat) : Int)) - 4) : Int)) rfl (by kernel_rfl) (by kernel_rfl) (by kernel_rfl) (ev_wrap (by kernel_rfl) (by omega) (by omega)) ?_
  refine pl_take (.int .i64 (((((Orb.cx o ((s.1 + pk33) - (pk37 - o.sl)) : Nat) : Int)) + ((((pk30 : Nat) : Int)) - 4)) + 48 : Int)) rfl (by kernel_rfl) (by kernel_rfl) (by kernel_rfl) (ev_wrap (by kernel_rfl) (by omega) (by omega)) ?_
  refine pl_take (.int .i64 (((Swath.sx o ((((pk30 : Nat) : Int)) - 4) ((s.1 + pk33) - (pk37 - o.sl)) : Nat) : Int) : Int)) rfl (by kernel_rfl) (by kernel_rfl) (by kernel_rfl) (ev_int (ex_bin (a := ((Orb.cx o ((s.1 + pk33) - (pk37 - o.sl)) : Nat) : Int) + ((((pk30 : Nat) : Int)) - 4) + 48) (b := 48) rfl (by kernel_rfl) (by kernel_rfl) (bin_tmod (by omega))) ((Int.tmod_eq_emod_of_nonneg (by omega)).trans (Swath.sx_z o _ _))) ?_
  refine pl_take (.pointer (some ⟨O40, 1, none⟩)) rfl (by kernel_rfl) (by kernel_rfl) (by kernel_rfl) (by kernel_rfl) ?_
  refine pl_take (.int .i64 (((Orb.cy o ((s.1 + pk33) - (pk37 - o.sl)) : Nat) : Int) : Int)) rfl (by kernel_rfl) (by kernel_rfl) (by kernel_rfl) (ex_load rfl (by kernel_rfl) (ld3 ((BoxAt.ext (hY93.trans hX92) bO40_1).1))) ?_
  refine pl_take (.agg #[.int .i64 (((Swath.sx o ((((pk30 : Nat) : Int)) - 4) ((s.1 + pk33) - (pk37 - o.sl)) : Nat) : Int) : Int), .int .i64 (((Orb.cy o ((s.1 + pk33) - (pk37 - o.sl)) : Nat) : Int) : Int)]) rfl (by kernel_rfl) (by kernel_rfl) (by kernel_rfl) (by kernel_rfl) ?_
  refine pl_step rfl (by kernel_rfl) (by kernel_rfl) (by kernel_rfl) (sn_new (us := #[.int .i64 0, .int .i64 0]) (t := 33) (by kernel_rfl) ?_)
  intro O94 X95 hO hOs hb hbx
  have hzO94 := hO; have hyO94 := hOs; clear hO hOs
  have bO94_0 : BoxAt X95 O94 0 (.int .i64 0) := hbx 0 _ rfl
  have bO94_1 : BoxAt X95 O94 1 (.int .i64 0) := hbx 1 _ rfl
  clear hbx
  replace hE := hE.trans hb
  replace hX92 := hX92.trans hb
  have hs96 := hb.size
  clear hb
  have lt97 := bO94_0.lt
  refine pl_put rfl (by kernel_rfl) (by kernel_rfl) (sn_set2 (O := O94) (j := 0) (v := .int .i64 (((Swath.sx o ((((pk30 : Nat) : Int)) - 4) ((s.1 + pk33) - (pk37 - o.sl)) : Nat) : Int) : Int)) (v' := .int .i64 (((Orb.cy o ((s.1 + pk33) - (pk37 - o.sl)) : Nat) : Int) : Int)) (ex_store (p := .pointer (some ⟨O94, 0, none⟩)) (v := .agg #[.int .i64 (((Swath.sx o ((((pk30 : Nat) : Int)) - 4) ((s.1 + pk33) - (pk37 - o.sl)) : Nat) : Int) : Int), .int .i64 (((Orb.cy o ((s.1 + pk33) - (pk37 - o.sl)) : Nat) : Int) : Int)]) rfl (by kernel_rfl) (by kernel_rfl) (st33 bO94_0.1 bO94_0.2 bO94_1.1 bO94_1.2)) bO94_0 bO94_1 ?_)
  intro X98 ho hv0 hv1 hk
  replace hE := ho.ext hE (Nat.le_trans (Nat.le_trans hs3 (Nat.le_trans hs7 (Nat.le_trans hs11 (Nat.le_trans hs13 (Nat.le_trans hs16 (Nat.le_trans hs19 (Nat.le_trans hs22 (Nat.le_trans hs25 (Nat.le_trans hs28 (Nat.le_trans hs32 (Nat.le_trans hs35 (Nat.le_trans hs39 (Nat.le_trans hs42 (Nat.le_trans hs45 (Nat.le_trans hs51 (Nat.le_trans hs55 (Nat.le_trans hs58 (Nat.le_trans hs63 (Nat.le_trans hs67 (Nat.le_trans hs70 (Nat.le_trans hs83 (Nat.le_trans hs88 hs91)))))))))))))))))))))) (Nat.le_of_eq hzO94))
  replace hX92 := ho.ext hX92 (Nat.le_of_eq hzO94)
  have hs99 : X95.heap.size ≤ X98.heap.size := Nat.le_of_eq ho.size.symm
  clear ho hk bO94_0 bO94_1
  have bO94_0 := hv0; clear hv0
  have bO94_1 := hv1; clear hv1
  refine pl_nil ?_
  refine qw_then ?_
  refine cw_clean [11, 12, 14, 15, 16, 17, 19, 21, 23, 25] (ws' := [(11, .bool true), (12, .pointer (some ⟨O14, 0, none⟩)), (14, .int .i64 ((((pk30 : Nat) : Int)) - 4 : Int)), (15, .int .i64 (s.1 + pk33 : Int)), (16, .int .i64 (pk37 - o.sl : Int)), (17, .pointer (some ⟨O40, 0, none⟩)), (19, .pointer (some ⟨O53, 0, none⟩)), (21, .pointer (some ⟨O65, 0, none⟩)), (23, .pointer (some ⟨O86, 0, none⟩)), (25, .pointer (some ⟨O94, 0, none⟩))]) (by kernel_rfl) (fun L => ?_)
  refine cw_seq ?_
  refine cw_seq ?_
  refine cw_plain ?_
  refine pl_take (.agg #[.slice (some ⟨B47, 0, none⟩) 24 24]) rfl (by kernel_rfl) (by kernel_rfl) (by kernel_rfl) (ex_load rfl (by kernel_rfl) (ld39 ((BoxAt.ext (hX71.trans hX92) bO53_0).1))) ?_
  refine pl_step rfl (by kernel_rfl) (by kernel_rfl) (by kernel_rfl) (sn_call (f := 11) (args := #[.agg #[.slice (some ⟨B47, 0, none⟩) 24 24]]) (by kernel_rfl) ((Count_r _ _ (RowsAt.va (hr49.ext (hX71.trans hX92)) (Swath.show_valid hok _ _ _)) (Ext.refl _) (hT.ext hE) (Swath.cells_one hok rfl)).mono ?_))
  rintro e w100 ⟨rfl, hb⟩
  replace hE := hE.trans hb
  replace hX92 := hX92.trans hb
  replace bO94_0 := BoxAt.ext hb bO94_0
  replace bO94_1 := BoxAt.ext hb bO94_1
  have hs101 := hb.size
  clear hb
  refine ⟨_, rfl, ?_⟩
  refine pl_take (.bool false) rfl (by kernel_rfl) (by kernel_rfl) (by kernel_rfl) (by kernel_rfl) ?_
  refine pl_take (.bool false) rfl (by kernel_rfl) (by kernel_rfl) (by kernel_rfl) (by kernel_rfl) ?_
  refine pl_take (.agg #[.slice (some ⟨B47, 0, none⟩) 24 24]) rfl (by kernel_rfl) (by kernel_rfl) (by kernel_rfl) (ex_load rfl (by kernel_rfl) (ld39 ((BoxAt.ext (hX71.trans hX92) bO53_0).1))) ?_
  refine pl_take (.agg #[.int .i64 (((Swath.sx o ((((pk30 : Nat) : Int)) - 4) ((s.1 + pk33) - (pk37 - o.sl)) : Nat) : Int) : Int), .int .i64 (((Orb.cy o ((s.1 + pk33) - (pk37 - o.sl)) : Nat) : Int) : Int)]) rfl (by kernel_rfl) (by kernel_rfl) (by kernel_rfl) (ex_load rfl (by kernel_rfl) (ld33 (bO94_0.1) (bO94_1.1))) ?_
  refine pl_step rfl (by kernel_rfl) (by kernel_rfl) (by kernel_rfl) (sn_call (f := 12) (args := #[.agg #[.slice (some ⟨B47, 0, none⟩) 24 24], .agg #[.int .i64 (((Swath.sx o ((((pk30 : Nat) : Int)) - 4) ((s.1 + pk33) - (pk37 - o.sl)) : Nat) : Int) : Int), .int .i64 (((Orb.cy o ((s.1 + pk33) - (pk37 - o.sl)) : Nat) : Int) : Int)]]) (by kernel_rfl) ((Has_t _ (RowsAt.va (hr49.ext (hX71.trans hX92)) (Swath.show_valid hok _ _ _)) (Swath.sx_lt _ _ _) (Orb.cy_lt hok _) (Swath.cells_at hok (by omega) (by omega))).mono ?_))
  rintro e w102 ⟨rfl, hb⟩
  replace hE := hE.trans hb
  replace hX92 := hX92.trans hb
  replace bO94_0 := BoxAt.ext hb bO94_0
  replace bO94_1 := BoxAt.ext hb bO94_1
  have hs103 := hb.size
  clear hb
  refine ⟨_, rfl, ?_⟩
  refine pl_take (.bool false) rfl (by kernel_rfl) (by kernel_rfl) (by kernel_rfl) (by kernel_rfl) ?_
  refine pl_take (.bool false) rfl (by kernel_rfl) (by kernel_rfl) (by kernel_rfl) (by kernel_rfl) ?_
  refine pl_take (.bool false) rfl (by kernel_rfl) (by kernel_rfl) (by kernel_rfl) (by kernel_rfl) ?_
  refine pl_take (.agg #[.slice (some ⟨B59, 0, none⟩) 24 24]) rfl (by kernel_rfl) (by kernel_rfl) (by kernel_rfl) (ex_load rfl (by kernel_rfl) (ld39 ((BoxAt.ext (hX71.trans hX92) bO65_0).1))) ?_
  refine pl_take (.agg #[.int .i64 (((Swath.sx o ((((pk30 : Nat) : Int)) - 4) ((s.1 + pk33) - (pk37 - o.sl)) : Nat) : Int) : Int), .int .i64 (((Orb.cy o ((s.1 + pk33) - (pk37 - o.sl)) : Nat) : Int) : Int)]) rfl (by kernel_rfl) (by kernel_rfl) (by kernel_rfl) (ex_load rfl (by kernel_rfl) (ld33 (bO94_0.1) (bO94_1.1))) ?_
  refine pl_step rfl (by kernel_rfl) (by kernel_rfl) (by kernel_rfl) (sn_call (f := 12) (args := #[.agg #[.slice (some ⟨B59, 0, none⟩) 24 24], .agg #[.int .i64 (((Swath.sx o ((((pk30 : Nat) : Int)) - 4) ((s.1 + pk33) - (pk37 - o.sl)) : Nat) : Int) : Int), .int .i64 (((Orb.cy o ((s.1 + pk33) - (pk37 - o.sl)) : Nat) : Int) : Int)]]) (by kernel_rfl) ((Has_t _ (RowsAt.va (hr61.ext (hX71.trans hX92)) (Swath.show_valid hok _ _ _)) (Swath.sx_lt _ _ _) (Orb.cy_lt hok _) (Swath.cells_at hok (by omega) (by omega))).mono ?_))
  rintro e w104 ⟨rfl, hb⟩
  replace hE := hE.trans hb
  replace hX92 := hX92.trans hb
  replace bO94_0 := BoxAt.ext hb bO94_0
  replace bO94_1 := BoxAt.ext hb bO94_1
  have hs105 := hb.size
  clear hb
  refine ⟨_, rfl, ?_⟩
  refine pl_take (.bool false) rfl (by kernel_rfl) (by kernel_rfl) (by kernel_rfl) (by kernel_rfl) ?_
  refine pl_take (.bool false) rfl (by kernel_rfl) (by kernel_rfl) (by kernel_rfl) (by kernel_rfl) ?_
  refine pl_take (.bool false) rfl (by kernel_rfl) (by kernel_rfl) (by kernel_rfl) (by kernel_rfl) ?_
  refine pl_take (.pointer (some ⟨O86, 1, none⟩)) rfl (by kernel_rfl) (by kernel_rfl) (by kernel_rfl) (by kernel_rfl) ?_
  refine pl_take (.agg #[.slice (some ⟨g74, 0, none⟩) 24 k76]) rfl (by kernel_rfl) (by kernel_rfl) (by kernel_rfl) (ex_load rfl (by kernel_rfl) (ld39 ((BoxAt.ext hX92 bO86_1).1))) ?_
  refine pl_take (.agg #[.int .i64 (((Swath.sx o ((((pk30 : Nat) : Int)) - 4) ((s.1 + pk33) - (pk37 - o.sl)) : Nat) : Int) : Int), .int .i64 (((Orb.cy o ((s.1 + pk33) - (pk37 - o.sl)) : Nat) : Int) : Int)]) rfl (by kernel_rfl) (by kernel_rfl) (by kernel_rfl) (ex_load rfl (by kernel_rfl) (ld33 (bO94_0.1) (bO94_1.1))) ?_
  refine pl_step rfl (by kernel_rfl) (by kernel_rfl) (by kernel_rfl) (sn_call (f := 12) (args := #[.agg #[.slice (some ⟨g74, 0, none⟩) 24 k76], .agg #[.int .i64 (((Swath.sx o ((((pk30 : Nat) : Int)) - 4) ((s.1 + pk33) - (pk37 - o.sl)) : Nat) : Int) : Int), .int .i64 (((Orb.cy o ((s.1 + pk33) - (pk37 - o.sl)) : Nat) : Int) : Int)]]) (by kernel_rfl) ((Has_t _ (RowsAt.va (hr81.ext hX92) (Swath.can_valid hok _ _)) (Swath.sx_lt _ _ _) (Orb.cy_lt hok _) (Swath.cells_can hok (by omega) (by omega) (by omega) (by omega))).mono ?_))
  rintro e w106 ⟨rfl, hb⟩
  replace hE := hE.trans hb
  replace hX92 := hX92.trans hb
  replace bO94_0 := BoxAt.ext hb bO94_0
  replace bO94_1 := BoxAt.ext hb bO94_1
  have hs107 := hb.size
  clear hb
  refine ⟨_, rfl, ?_⟩
  refine pl_take (.bool false) rfl (by kernel_rfl) (by kernel_rfl) (by kernel_rfl) (by kernel_rfl) ?_
  refine pl_take (.bool false) rfl (by kernel_rfl) (by kernel_rfl) (by kernel_rfl) (by kernel_rfl) ?_
  refine pl_nil ?_
  refine qw_then ?_
  refine cw_clean [11, 12, 14, 15, 16, 17, 23, 136] (ws' := [(11, .bool true), (12, .pointer (some ⟨O14, 0, none⟩)), (14, .int .i64 ((((pk30 : Nat) : Int)) - 4 : Int)), (15, .int .i64 (s.1 + pk33 : Int)), (16, .int .i64 (pk37 - o.sl : Int)), (17, .pointer (some ⟨O40, 0, none⟩)), (23, .pointer (some ⟨O86, 0, none⟩)), (136, .bool false)]) (by kernel_rfl) (fun L => ?_)
  refine cw_f (by kernel_rfl) ?_
  refine cw_skip ?_
  refine qw_then ?_
  refine cw_seq ?_
  refine cw_plain ?_
  have hY108 := hX20.trans hY93
  refine pl_take (.agg #[.int .i64 (o.p : Int), .int .i64 (o.f : Int), .int .i64 (o.lo : Int), .int .i64 (o.hi : Int), .int .i64 (o.nd : Int), .int .i64 (o.tn : Int), .int .i64 (o.sl : Int)]) rfl (by kernel_rfl) (by kernel_rfl) (by kernel_rfl) (ex_load rfl (by kernel_rfl) (ld26 ((BoxAt.ext (hY108.trans hX92) bO14_0).1) ((BoxAt.ext (hY108.trans hX92) bO14_1).1) ((BoxAt.ext (hY108.trans hX92) bO14_2).1) ((BoxAt.ext (hY108.trans hX92) bO14_3).1) ((BoxAt.ext (hY108.trans hX92) bO14_4).1) ((BoxAt.ext (hY108.trans hX92) bO14_5).1) ((BoxAt.ext (hY108.trans hX92) bO14_6).1))) ?_
  refine pl_take (.int .i64 (s.1 + pk33 : Int)) rfl (by kernel_rfl) (by kernel_rfl) (by kernel_rfl) (by kernel_rfl) ?_
  refine pl_step rfl (by kernel_rfl) (by kernel_rfl) (by kernel_rfl) (sn_call (f := 13) (args := #[.agg #[.int .i64 (o.p : Int), .int .i64 (o.f : Int), .int .i64 (o.lo : Int), .int .i64 (o.hi : Int), .int .i64 (o.nd : Int), .int .i64 (o.tn : Int), .int .i64 (o.sl : Int)], .int .i64 (s.1 + pk33 : Int)]) (by kernel_rfl) ((Must_c _ (by unfold Orb.atB; rw [show Globe.inB (s.1 + pk33) 0 1000000 = true from Globe.inB_t.2 ⟨by omega, by omega⟩, show Globe.inB 0 (-10) 10 = true from Globe.inB_t.2 ⟨by omega, by omega⟩, hok]; rfl)).mono ?_))
  rintro e w109 ⟨p9, is9, rfl, hmu, hb⟩
  replace hE := hE.trans hb
  replace hX92 := hX92.trans hb
  replace bO94_0 := BoxAt.ext hb bO94_0
  replace bO94_1 := BoxAt.ext hb bO94_1
  have hs110 := hb.size
  clear hb
  refine ⟨_, rfl, ?_⟩
  refine pl_take (.tuple #[.agg #[.int .i64 (((p9.1 : Nat) : Int) : Int), .int .i64 (((p9.2 : Nat) : Int) : Int)], .bool is9]) rfl (by kernel_rfl) (by kernel_rfl) (by kernel_rfl) (by kernel_rfl) ?_
  refine pl_take (.agg #[.int .i64 (((p9.1 : Nat) : Int) : Int), .int .i64 (((p9.2 : Nat) : Int) : Int)]) rfl (by kernel_rfl) (by kernel_rfl) (by kernel_rfl) (by kernel_rfl) ?_
  refine pl_take (.bool is9) rfl (by kernel_rfl) (by kernel_rfl) (by kernel_rfl) (by kernel_rfl) ?_
  refine pl_step rfl (by kernel_rfl) (by kernel_rfl) (by kernel_rfl) (sn_new (us := #[.int .i64 0, .int .i64 0]) (t := 33) (by kernel_rfl) ?_)
  intro O111 X112 hO hOs hb hbx
  have hzO111 := hO; have hyO111 := hOs; clear hO hOs
  have bO111_0 : BoxAt X112 O111 0 (.int .i64 0) := hbx 0 _ rfl
  have bO111_1 : BoxAt X112 O111 1 (.int .i64 0) := hbx 1 _ rfl
  clear hbx
  replace hE := hE.trans hb
  replace hX92 := hX92.trans hb
  replace bO94_0 := BoxAt.ext hb bO94_0
  replace bO94_1 := BoxAt.ext hb bO94_1
  have hs113 := hb.size
  clear hb
  have lt114 := bO111_0.lt
  refine pl_put rfl (by kernel_rfl) (by kernel_rfl) (sn_set2 (O := O111) (j := 0) (v := .int .i64 (((p9.1 : Nat) : Int) : Int)) (v' := .int .i64 (((p9.2 : Nat) : Int) : Int)) (ex_store (p := .pointer (some ⟨O111, 0, none⟩)) (v := .agg #[.int .i64 (((p9.1 : Nat) : Int) : Int), .int .i64 (((p9.2 : Nat) : Int) : Int)]) rfl (by kernel_rfl) (by kernel_rfl) (st33 bO111_0.1 bO111_0.2 bO111_1.1 bO111_1.2)) bO111_0 bO111_1 ?_)
  intro X115 ho hv0 hv1 hk
  replace hE := ho.ext hE (Nat.le_trans (Nat.le_trans hs3 (Nat.le_trans hs7 (Nat.le_trans hs11 (Nat.le_trans hs13 (Nat.le_trans hs16 (Nat.le_trans hs19 (Nat.le_trans hs22 (Nat.le_trans hs25 (Nat.le_trans hs28 (Nat.le_trans hs32 (Nat.le_trans hs35 (Nat.le_trans hs39 (Nat.le_trans hs42 (Nat.le_trans hs45 (Nat.le_trans hs51 (Nat.le_trans hs55 (Nat.le_trans hs58 (Nat.le_trans hs63 (Nat.le_trans hs67 (Nat.le_trans hs70 (Nat.le_trans hs83 (Nat.le_trans hs88 (Nat.le_trans hs91 (Nat.le_trans hs96 (Nat.le_trans hs99 (Nat.le_trans hs101 (Nat.le_trans hs103 (Nat.le_trans hs105 (Nat.le_trans hs107 hs110))))))))))))))))))))))))))))) (Nat.le_of_eq hzO111))
  replace hX92 := ho.ext hX92 (Nat.le_trans (Nat.le_trans hs96 (Nat.le_trans hs99 (Nat.le_trans hs101 (Nat.le_trans hs103 (Nat.le_trans hs105 (Nat.le_trans hs107 hs110)))))) (Nat.le_of_eq hzO111))
  replace bO94_0 := ho.box (Nat.ne_of_gt (Nat.lt_of_lt_of_le lt97 (Nat.le_trans (Nat.le_trans hs99 (Nat.le_trans hs101 (Nat.le_trans hs103 (Nat.le_trans hs105 (Nat.le_trans hs107 hs110))))) (Nat.le_of_eq hzO111)))) bO94_0
  replace bO94_1 := ho.box (Nat.ne_of_gt (Nat.lt_of_lt_of_le lt97 (Nat.le_trans (Nat.le_trans hs99 (Nat.le_trans hs101 (Nat.le_trans hs103 (Nat.le_trans hs105 (Nat.le_trans hs107 hs110))))) (Nat.le_of_eq hzO111)))) bO94_1
  have hs116 : X112.heap.size ≤ X115.heap.size := Nat.le_of_eq ho.size.symm
  clear ho hk bO111_0 bO111_1
  have bO111_0 := hv0; clear hv0
  have bO111_1 := hv1; clear hv1
  refine pl_take (.bool is9) rfl (by kernel_rfl) (by kernel_rfl) (by kernel_rfl) (by kernel_rfl) ?_
  refine pl_nil ?_
  refine qw_then ?_
  refine cw_clean [11, 12, 14, 15, 16, 17, 23, 26, 27] (ws' := [(11, .bool true), (12, .pointer (some ⟨O14, 0, none⟩)), (14, .int .i64 ((((pk30 : Nat) : Int)) - 4 : Int)), (15, .int .i64 (s.1 + pk33 : Int)), (16, .int .i64 (pk37 - o.sl : Int)), (17, .pointer (some ⟨O40, 0, none⟩)), (23, .pointer (some ⟨O86, 0, none⟩)), (26, .pointer (some ⟨O111, 0, none⟩)), (27, .bool is9)]) (by kernel_rfl) (fun L => ?_)
  refine cw_seq ?_
  refine cw_seq ?_
  rcases Bool.eq_false_or_eq_true is9 with his9 | his9
  ·
    subst his9
    have hmu9 := hmu rfl
    have hpx9 : p9.1 < 48 := by rw [← hmu9 0 (by omega) (by omega)]; exact Orb.cx_lt o _
    have hX117 : Ext X115 X115 := Ext.refl _
    refine cw_plain ?_
    refine pl_take (.bool true) rfl (by kernel_rfl) (by kernel_rfl) (by kernel_rfl) (by kernel_rfl) ?_
    refine pl_take (.bool true) rfl (by kernel_rfl) (by kernel_rfl) (by kernel_rfl) (by kernel_rfl) ?_
    refine pl_take (.pointer (some ⟨O86, 0, none⟩)) rfl (by kernel_rfl) (by kernel_rfl) (by kernel_rfl) (by kernel_rfl) ?_
    refine pl_take (.agg #[.slice (some ⟨B73, 0, none⟩) 24 k75]) rfl (by kernel_rfl) (by kernel_rfl) (by kernel_rfl) (ex_load rfl (by kernel_rfl) (ld39 ((BoxAt.ext (hX92.trans hX117) bO86_0).1))) ?_
    refine pl_take (.pointer (some ⟨O111, 0, none⟩)) rfl (by kernel_rfl) (by kernel_rfl) (by kernel_rfl) (by kernel_rfl) ?_
    refine pl_take (.int .i64 (((p9.1 : Nat) : Int) : Int)) rfl (by kernel_rfl) (by kernel_rfl) (by kernel_rfl) (ex_load rfl (by kernel_rfl) (ld3 (bO111_0.1))) ?_
    refine pl_take (.int .i64 ((((pk30 : Nat) : Int)) - 4 : Int)) rfl (by kernel_rfl) (by kernel_rfl) (by kernel_rfl) (by kernel_rfl) ?_
    refine pl_take (.int .i64 ((((p9.1 : Nat) : Int)) + ((((pk30 : Nat) : Int)) - 4) : Int)) rfl (by kernel_rfl) (by kernel_rfl) (by kernel_rfl) (ev_wrap (by kernel_rfl) (by omega) (by omega)) ?_
    refine pl_take (.int .i64 (((((p9.1 : Nat) : Int)) + ((((pk30 : Nat) : Int)) - 4)) + 48 : Int)) rfl (by kernel_rfl) (by kernel_rfl) (by kernel_rfl) (ev_wrap (by kernel_rfl) (by omega) (by omega)) ?_
    refine pl_take (.int .i64 (((((((p9.1 : Nat) : Int) + ((((pk30 : Nat) : Int)) - 4) + 48) % 48).toNat : Nat) : Int) : Int)) rfl (by kernel_rfl) (by kernel_rfl) (by kernel_rfl) (ev_int (ex_bin (a := ((p9.1 : Nat) : Int) + ((((pk30 : Nat) : Int)) - 4) + 48) (b := 48) rfl (by kernel_rfl) (by kernel_rfl) (bin_tmod (by omega))) (by rw [Int.tmod_eq_emod_of_nonneg (by omega)]; omega)) ?_
    refine pl_take (.pointer (some ⟨O111, 1, none⟩)) rfl (by kernel_rfl) (by kernel_rfl) (by kernel_rfl) (by kernel_rfl) ?_
    refine pl_take (.int .i64 (((p9.2 : Nat) : Int) : Int)) rfl (by kernel_rfl) (by kernel_rfl) (by kernel_rfl) (ex_load rfl (by kernel_rfl) (ld3 (bO111_1.1))) ?_
    refine pl_take (.agg #[.int .i64 (((((((p9.1 : Nat) : Int) + ((((pk30 : Nat) : Int)) - 4) + 48) % 48).toNat : Nat) : Int) : Int), .int .i64 (((p9.2 : Nat) : Int) : Int)]) rfl (by kernel_rfl) (by kernel_rfl) (by kernel_rfl) (by kernel_rfl) ?_
    refine pl_step rfl (by kernel_rfl) (by kernel_rfl) (by kernel_rfl) (sn_call (f := 12) (args := #[.agg #[.slice (some ⟨B73, 0, none⟩) 24 k75], .agg #[.int .i64 (((((((p9.1 : Nat) : Int) + ((((pk30 : Nat) : Int)) - 4) + 48) % 48).toNat : Nat) : Int) : Int), .int .i64 (((p9.2 : Nat) : Int) : Int)]]) (by kernel_rfl) ((Has_t _ (RowsAt.va (hr80.ext (hX92.trans hX117)) (Swath.sure_valid hok _ _)) (by omega) (by rw [← hmu9 0 (by omega) (by omega)]; exact Orb.cy_lt hok _) (Swath.cells_sure hok (by omega) (by omega) hmu9)).mono ?_))
    rintro e w118 ⟨rfl, hb⟩
    replace hE := hE.trans hb
    replace hX117 := hX117.trans hb
    have hs119 := hb.size
    clear hb
    refine ⟨_, rfl, ?_⟩
    refine pl_take (.bool false) rfl (by kernel_rfl) (by kernel_rfl) (by kernel_rfl) (by kernel_rfl) ?_
    refine pl_take (.bool false) rfl (by kernel_rfl) (by kernel_rfl) (by kernel_rfl) (by kernel_rfl) ?_
    refine pl_nil ?_
    refine qw_then ?_
    refine cw_clean [11, 12, 15, 16, 17, 158] (ws' := [(11, .bool true), (12, .pointer (some ⟨O14, 0, none⟩)), (15, .int .i64 (s.1 + pk33 : Int)), (16, .int .i64 (pk37 - o.sl : Int)), (17, .pointer (some ⟨O40, 0, none⟩)), (158, .bool false)]) (by kernel_rfl) (fun L => ?_)
    refine cw_f (by kernel_rfl) ?_
    refine cw_skip ?_
    refine qw_then ?_
    refine cw_seq ?_
    refine cw_seq ?_
    refine cw_plain ?_
    refine pl_take (.int .i64 (s.1 + pk33 : Int)) rfl (by kernel_rfl) (by kernel_rfl) (by kernel_rfl) (by kernel_rfl) ?_
    refine pl_take (.int .i64 (pk37 - o.sl : Int)) rfl (by kernel_rfl) (by kernel_rfl) (by kernel_rfl) (by kernel_rfl) ?_
    refine pl_take (.int .i64 ((s.1 + pk33) - (pk37 - o.sl) : Int)) rfl (by kernel_rfl) (by kernel_rfl) (by kernel_rfl) (ev_wrap (by kernel_rfl) (by omega) (by omega)) ?_
    by_cases hc120 : ((s.1 + pk33) - (pk37 - o.sl) : Int) < (0 : Int)
    ·
      refine pl_take (.bool true) rfl (by kernel_rfl) (by kernel_rfl) (by kernel_rfl) (ev_dec (show _ = Result.ok (Next.value (Value.bool (decide (((s.1 + pk33) - (pk37 - o.sl) : Int) < (0 : Int))))) _ from by kernel_rfl) (hc120)) ?_
      refine pl_nil ?_
      refine qw_then ?_
      refine cw_t (by kernel_rfl) ?_
      refine cw_seq ?_
      refine cw_plain ?_
      refine pl_take (.bool true) rfl (by kernel_rfl) (by kernel_rfl) (by kernel_rfl) (by kernel_rfl) ?_
      refine pl_take (.bool true) rfl (by kernel_rfl) (by kernel_rfl) (by kernel_rfl) (by kernel_rfl) ?_
      refine pl_nil ?_
      refine qw_then ?_
      refine cw_ret ?_
      refine qw_then_ret ?_
      refine qw_ret [.bool true] rfl ⟨(by kernel_rfl), trivial⟩ ?_
      exact ⟨rfl, hE⟩
    ·
      refine pl_take (.bool false) rfl (by kernel_rfl) (by kernel_rfl) (by kernel_rfl) (ev_ndec (show _ = Result.ok (Next.value (Value.bool (decide (((s.1 + pk33) - (pk37 - o.sl) : Int) < (0 : Int))))) _ from by kernel_rfl) (hc120)) ?_
      refine pl_nil ?_
      refine qw_then ?_
      refine cw_f (by kernel_rfl) ?_
      refine cw_skip ?_
      refine qw_then ?_
      refine cw_seq ?_
      refine cw_plain ?_
      have hY121 := hX71.trans hX92
      have hY122 := hX46.trans hY121
      have hY123 := hX20.trans hY122
      refine pl_take (.agg #[.int .i64 (o.p : Int), .int .i64 (o.f : Int), .int .i64 (o.lo : Int), .int .i64 (o.hi : Int), .int .i64 (o.nd : Int), .int .i64 (o.tn : Int), .int .i64 (o.sl : Int)]) rfl (by kernel_rfl) (by kernel_rfl) (by kernel_rfl) (ex_load rfl (by kernel_rfl) (ld26 ((BoxAt.ext (hY123.trans hX117) bO14_0).1) ((BoxAt.ext (hY123.trans hX117) bO14_1).1) ((BoxAt.ext (hY123.trans hX117) bO14_2).1) ((BoxAt.ext (hY123.trans hX117) bO14_3).1) ((BoxAt.ext (hY123.trans hX117) bO14_4).1) ((BoxAt.ext (hY123.trans hX117) bO14_5).1) ((BoxAt.ext (hY123.trans hX117) bO14_6).1))) ?_
      refine pl_take (.int .i64 (s.1 + pk33 : Int)) rfl (by kernel_rfl) (by kernel_rfl) (by kernel_rfl) (by kernel_rfl) ?_
      refine pl_take (.int .i64 (pk37 - o.sl : Int)) rfl (by kernel_rfl) (by kernel_rfl) (by kernel_rfl) (by kernel_rfl) ?_
      refine pl_take (.int .i64 ((s.1 + pk33) - (pk37 - o.sl) : Int)) rfl (by kernel_rfl) (by kernel_rfl) (by kernel_rfl) (ev_wrap (by kernel_rfl) (by omega) (by omega)) ?_
      refine pl_step rfl (by kernel_rfl) (by kernel_rfl) (by kernel_rfl) (sn_call (f := 8) (args := #[.agg #[.int .i64 (o.p : Int), .int .i64 (o.f : Int), .int .i64 (o.lo : Int), .int .i64 (o.hi : Int), .int .i64 (o.nd : Int), .int .i64 (o.tn : Int), .int .i64 (o.sl : Int)], .int .i64 ((s.1 + pk33) - (pk37 - o.sl) : Int), .int .i64 0]) (by kernel_rfl) ((At_y o ((s.1 + pk33) - (pk37 - o.sl)) 0 _ (by unfold Orb.atB; rw [show Globe.inB ((s.1 + pk33) - (pk37 - o.sl)) 0 1000000 = true from Globe.inB_t.2 ⟨by omega, by omega⟩, show Globe.inB 0 (-10) 10 = true from Globe.inB_t.2 ⟨by omega, by omega⟩, hok]; rfl)).mono ?_))
      rintro e w124 ⟨rfl, hb⟩
      replace hE := hE.trans hb
      replace hX117 := hX117.trans hb
      have hs125 := hb.size
      clear hb
      refine ⟨_, rfl, ?_⟩
      refine pl_take (.tuple #[.agg #[.int .i64 (((Orb.cx o (((s.1 + pk33) - (pk37 - o.sl)) - 0) : Nat) : Int) : Int), .int .i64 (((Orb.cy o (((s.1 + pk33) - (pk37 - o.sl)) - 0) : Nat) : Int) : Int)], .int .i64 0]) rfl (by kernel_rfl) (by kernel_rfl) (by kernel_rfl) (by kernel_rfl) ?_
      refine pl_take (.agg #[.int .i64 (((Orb.cx o (((s.1 + pk33) - (pk37 - o.sl)) - 0) : Nat) : Int) : Int), .int .i64 (((Orb.cy o (((s.1 + pk33) - (pk37 - o.sl)) - 0) : Nat) : Int) : Int)]) rfl (by kernel_rfl) (by kernel_rfl) (by kernel_rfl) (by kernel_rfl) ?_
      refine pl_take (.int .i64 0) rfl (by kernel_rfl) (by kernel_rfl) (by kernel_rfl) (by kernel_rfl) ?_
      refine pl_step rfl (by kernel_rfl) (by kernel_rfl) (by kernel_rfl) (sn_new (us := #[.int .i64 0, .int .i64 0]) (t := 33) (by kernel_rfl) ?_)
      intro O126 X127 hO hOs hb hbx
      have hzO126 := hO; have hyO126 := hOs; clear hO hOs
      have bO126_0 : BoxAt X127 O126 0 (.int .i64 0) := hbx 0 _ rfl
      have bO126_1 : BoxAt X127 O126 1 (.int .i64 0) := hbx 1 _ rfl
      clear hbx
      replace hE := hE.trans hb
      replace hX117 := hX117.trans hb
      have hs128 := hb.size
      clear hb
      have lt129 := bO126_0.lt
      refine pl_put rfl (by kernel_rfl) (by kernel_rfl) (sn_set2 (O := O126) (j := 0) (v := .int .i64 (((Orb.cx o (((s.1 + pk33) - (pk37 - o.sl)) - 0) : Nat) : Int) : Int)) (v' := .int .i64 (((Orb.cy o (((s.1 + pk33) - (pk37 - o.sl)) - 0) : Nat) : Int) : Int)) (ex_store (p := .pointer (some ⟨O126, 0, none⟩)) (v := .agg #[.int .i64 (((Orb.cx o (((s.1 + pk33) - (pk37 - o.sl)) - 0) : Nat) : Int) : Int), .int .i64 (((Orb.cy o (((s.1 + pk33) - (pk37 - o.sl)) - 0) : Nat) : Int) : Int)]) rfl (by kernel_rfl) (by kernel_rfl) (st33 bO126_0.1 bO126_0.2 bO126_1.1 bO126_1.2)) bO126_0 bO126_1 ?_)
      intro X130 ho hv0 hv1 hk
      replace hE := ho.ext hE (Nat.le_trans (Nat.le_trans hs3 (Nat.le_trans hs7 (Nat.le_trans hs11 (Nat.le_trans hs13 (Nat.le_trans hs16 (Nat.le_trans hs19 (Nat.le_trans hs22 (Nat.le_trans hs25 (Nat.le_trans hs28 (Nat.le_trans hs32 (Nat.le_trans hs35 (Nat.le_trans hs39 (Nat.le_trans hs42 (Nat.le_trans hs45 (Nat.le_trans hs51 (Nat.le_trans hs55 (Nat.le_trans hs58 (Nat.le_trans hs63 (Nat.le_trans hs67 (Nat.le_trans hs70 (Nat.le_trans hs83 (Nat.le_trans hs88 (Nat.le_trans hs91 (Nat.le_trans hs96 (Nat.le_trans hs99 (Nat.le_trans hs101 (Nat.le_trans hs103 (Nat.le_trans hs105 (Nat.le_trans hs107 (Nat.le_trans hs110 (Nat.le_trans hs113 (Nat.le_trans hs116 (Nat.le_trans hs119 hs125))))))))))))))))))))))))))))))))) (Nat.le_of_eq hzO126))
      replace hX117 := ho.ext hX117 (Nat.le_trans (Nat.le_trans hs119 hs125) (Nat.le_of_eq hzO126))
      have hs131 : X127.heap.size ≤ X130.heap.size := Nat.le_of_eq ho.size.symm
      clear ho hk bO126_0 bO126_1
      have bO126_0 := hv0; clear hv0
      have bO126_1 := hv1; clear hv1
      refine pl_take (.int .i64 0) rfl (by kernel_rfl) (by kernel_rfl) (by kernel_rfl) (by kernel_rfl) ?_
      refine pl_nil ?_
      refine qw_then ?_
      refine cw_clean [11, 17, 28, 29] (ws' := [(11, .bool true), (17, .pointer (some ⟨O40, 0, none⟩)), (28, .pointer (some ⟨O126, 0, none⟩)), (29, .int .i64 0)]) (by kernel_rfl) (fun L => ?_)
      refine cw_seq ?_
      refine cw_plain ?_
      refine pl_take (.bool true) rfl (by kernel_rfl) (by kernel_rfl) (by kernel_rfl) (by kernel_rfl) ?_
      refine pl_take (.bool true) rfl (by kernel_rfl) (by kernel_rfl) (by kernel_rfl) (by kernel_rfl) ?_
      refine pl_take (.int .i64 0) rfl (by kernel_rfl) (by kernel_rfl) (by kernel_rfl) (by kernel_rfl) ?_
      refine pl_take (.bool true) rfl (by kernel_rfl) (by kernel_rfl) (by kernel_rfl) (by kernel_rfl) ?_
      refine pl_take (.bool true) rfl (by kernel_rfl) (by kernel_rfl) (by kernel_rfl) (by kernel_rfl) ?_
      refine pl_take (.bool true) rfl (by kernel_rfl) (by kernel_rfl) (by kernel_rfl) (by kernel_rfl) ?_
      refine pl_take (.agg #[.int .i64 (((Orb.cx o (((s.1 + pk33) - (pk37 - o.sl)) - 0) : Nat) : Int) : Int), .int .i64 (((Orb.cy o (((s.1 + pk33) - (pk37 - o.sl)) - 0) : Nat) : Int) : Int)]) rfl (by kernel_rfl) (by kernel_rfl) (by kernel_rfl) (ex_load rfl (by kernel_rfl) (ld33 (bO126_0.1) (bO126_1.1))) ?_
      refine pl_take (.agg #[.int .i64 (((Orb.cx o ((s.1 + pk33) - (pk37 - o.sl)) : Nat) : Int) : Int), .int .i64 (((Orb.cy o ((s.1 + pk33) - (pk37 - o.sl)) : Nat) : Int) : Int)]) rfl (by kernel_rfl) (by kernel_rfl) (by kernel_rfl) (ex_load rfl (by kernel_rfl) (ld33 ((BoxAt.ext (hY122.trans hX117) bO40_0).1) ((BoxAt.ext (hY122.trans hX117) bO40_1).1))) ?_
      refine pl_take (.bool true) rfl (by kernel_rfl) (by kernel_rfl) (by kernel_rfl) (ev_bool (eqCell (a := ((Orb.cx o (((s.1 + pk33) - (pk37 - o.sl)) - 0) : Nat) : Int)) (b := ((Orb.cy o (((s.1 + pk33) - (pk37 - o.sl)) - 0) : Nat) : Int)) (c := ((Orb.cx o ((s.1 + pk33) - (pk37 - o.sl)) : Nat) : Int)) (d := ((Orb.cy o ((s.1 + pk33) - (pk37 - o.sl)) : Nat) : Int)) rfl (by kernel_rfl) (by kernel_rfl)) (decide_eq_true ⟨by rw [Int.sub_zero], by rw [Int.sub_zero]⟩)) ?_
      refine pl_take (.bool true) rfl (by kernel_rfl) (by kernel_rfl) (by kernel_rfl) (by kernel_rfl) ?_
      refine pl_take (.bool true) rfl (by kernel_rfl) (by kernel_rfl) (by kernel_rfl) (by kernel_rfl) ?_
      refine pl_nil ?_
      refine qw_then ?_
      refine cw_clean [10] (ws' := [(10, .bool true)]) (by kernel_rfl) (fun L => ?_)
      refine cw_ret ?_
      refine qw_ret [.bool true] rfl ⟨(by kernel_rfl), trivial⟩ ?_
      exact ⟨rfl, hE⟩
  ·
    subst his9
    have hX132 : Ext X115 X115 := Ext.refl _
    refine cw_plain ?_
    refine pl_take (.bool false) rfl (by kernel_rfl) (by kernel_rfl) (by kernel_rfl) (by kernel_rfl) ?_
    refine pl_take (.bool false) rfl (by kernel_rfl) (by kernel_rfl) (by kernel_rfl) (by kernel_rfl) ?_
    refine pl_skip rfl (by kernel_rfl) (by kernel_rfl) (by kernel_rfl) ?_
    refine pl_skip rfl (by kernel_rfl) (by kernel_rfl) (by kernel_rfl) ?_
    refine pl_skip rfl (by kernel_rfl) (by kernel_rfl) (by kernel_rfl) ?_
    refine pl_skip rfl (by kernel_rfl) (by kernel_rfl) (by kernel_rfl) ?_
    refine pl_skip rfl (by kernel_rfl) (by kernel_rfl) (by kernel_rfl) ?_
    refine pl_skip rfl (by kernel_rfl) (by kernel_rfl) (by kernel_rfl) ?_
    refine pl_skip rfl (by kernel_rfl) (by kernel_rfl) (by kernel_rfl) ?_
    refine pl_skip rfl (by kernel_rfl) (by kernel_rfl) (by kernel_rfl) ?_
    refine pl_skip rfl (by kernel_rfl) (by kernel_rfl) (by kernel_rfl) ?_
    refine pl_skip rfl (by kernel_rfl) (by kernel_rfl) (by kernel_rfl) ?_
    refine pl_skip rfl (by kernel_rfl) (by kernel_rfl) (by kernel_rfl) ?_
    refine pl_skip rfl (by kernel_rfl) (by kernel_rfl) (by kernel_rfl) ?_
    refine pl_skip rfl (by kernel_rfl) (by kernel_rfl) (by kernel_rfl) ?_
    refine pl_take (.bool false) rfl (by kernel_rfl) (by kernel_rfl) (by kernel_rfl) (by kernel_rfl) ?_
    refine pl_nil ?_
    refine qw_then ?_
    refine cw_clean [11, 12, 15, 16, 17, 158] (ws' := [(11, .bool true), (12, .pointer (some ⟨O14, 0, none⟩)), (15, .int .i64 (s.1 + pk33 : Int)), (16, .int .i64 (pk37 - o.sl : Int)), (17, .pointer (some ⟨O40, 0, none⟩)), (158, .bool false)]) (by kernel_rfl) (fun L => ?_)
    refine cw_f (by kernel_rfl) ?_
    refine cw_skip ?_
    refine qw_then ?_
    refine cw_seq ?_
    refine cw_seq ?_
    refine cw_plain ?_
    refine pl_take (.int .i64 (s.1 + pk33 : Int)) rfl (by kernel_rfl) (by kernel_rfl) (by kernel_rfl) (by kernel_rfl) ?_
    refine pl_take (.int .i64 (pk37 - o.sl : Int)) rfl (by kernel_rfl) (by kernel_rfl) (by kernel_rfl) (by kernel_rfl) ?_
    refine pl_take (.int .i64 ((s.1 + pk33) - (pk37 - o.sl) : Int)) rfl (by kernel_rfl) (by kernel_rfl) (by kernel_rfl) (ev_wrap (by kernel_rfl) (by omega) (by omega)) ?_
    by_cases hc133 : ((s.1 + pk33) - (pk37 - o.sl) : Int) < (0 : Int)
    ·
      refine pl_take (.bool true) rfl (by kernel_rfl) (by kernel_rfl) (by kernel_rfl) (ev_dec (show _ = Result.ok (Next.value (Value.bool (decide (((s.1 + pk33) - (pk37 - o.sl) : Int) < (0 : Int))))) _ from by kernel_rfl) (hc133)) ?_
      refine pl_nil ?_
      refine qw_then ?_
      refine cw_t (by kernel_rfl) ?_
      refine cw_seq ?_
      refine cw_plain ?_
      refine pl_take (.bool true) rfl (by kernel_rfl) (by kernel_rfl) (by kernel_rfl) (by kernel_rfl) ?_
      refine pl_take (.bool true) rfl (by kernel_rfl) (by kernel_rfl) (by kernel_rfl) (by kernel_rfl) ?_
      refine pl_nil ?_
      refine qw_then ?_
      refine cw_ret ?_
      refine qw_then_ret ?_
      refine qw_ret [.bool true] rfl ⟨(by kernel_rfl), trivial⟩ ?_
      exact ⟨rfl, hE⟩
    ·
      refine pl_take (.bool false) rfl (by kernel_rfl) (by kernel_rfl) (by kernel_rfl) (ev_ndec (show _ = Result.ok (Next.value (Value.bool (decide (((s.1 + pk33) - (pk37 - o.sl) : Int) < (0 : Int))))) _ from by kernel_rfl) (hc133)) ?_
      refine pl_nil ?_
      refine qw_then ?_
      refine cw_f (by kernel_rfl) ?_
      refine cw_skip ?_
      refine qw_then ?_
      refine cw_seq ?_
      refine cw_plain ?_
      have hY134 := hX71.trans hX92
      have hY135 := hX46.trans hY134
      have hY136 := hX20.trans hY135
      refine pl_take (.agg #[.int .i64 (o.p : Int), .int .i64 (o.f : Int), .int .i64 (o.lo : Int), .int .i64 (o.hi : Int), .int .i64 (o.nd : Int), .int .i64 (o.tn : Int), .int .i64 (o.sl : Int)]) rfl (by kernel_rfl) (by kernel_rfl) (by kernel_rfl) (ex_load rfl (by kernel_rfl) (ld26 ((BoxAt.ext (hY136.trans hX132) bO14_0).1) ((BoxAt.ext (hY136.trans hX132) bO14_1).1) ((BoxAt.ext (hY136.trans hX132) bO14_2).1) ((BoxAt.ext (hY136.trans hX132) bO14_3).1) ((BoxAt.ext (hY136.trans hX132) bO14_4).1) ((BoxAt.ext (hY136.trans hX132) bO14_5).1) ((BoxAt.ext (hY136.trans hX132) bO14_6).1))) ?_
      refine pl_take (.int .i64 (s.1 + pk33 : Int)) rfl (by kernel_rfl) (by kernel_rfl) (by kernel_rfl) (by kernel_rfl) ?_
      refine pl_take (.int .i64 (pk37 - o.sl : Int)) rfl (by kernel_rfl) (by kernel_rfl) (by kernel_rfl) (by kernel_rfl) ?_
      refine pl_take (.int .i64 ((s.1 + pk33) - (pk37 - o.sl) : Int)) rfl (by kernel_rfl) (by kernel_rfl) (by kernel_rfl) (ev_wrap (by kernel_rfl) (by omega) (by omega)) ?_
      refine pl_step rfl (by kernel_rfl) (by kernel_rfl) (by kernel_rfl) (sn_call (f := 8) (args := #[.agg #[.int .i64 (o.p : Int), .int .i64 (o.f : Int), .int .i64 (o.lo : Int), .int .i64 (o.hi : Int), .int .i64 (o.nd : Int), .int .i64 (o.tn : Int), .int .i64 (o.sl : Int)], .int .i64 ((s.1 + pk33) - (pk37 - o.sl) : Int), .int .i64 0]) (by kernel_rfl) ((At_y o ((s.1 + pk33) - (pk37 - o.sl)) 0 _ (by unfold Orb.atB; rw [show Globe.inB ((s.1 + pk33) - (pk37 - o.sl)) 0 1000000 = true from Globe.inB_t.2 ⟨by omega, by omega⟩, show Globe.inB 0 (-10) 10 = true from Globe.inB_t.2 ⟨by omega, by omega⟩, hok]; rfl)).mono ?_))
      rintro e w137 ⟨rfl, hb⟩
      replace hE := hE.trans hb
      replace hX132 := hX132.trans hb
      have hs138 := hb.size
      clear hb
      refine ⟨_, rfl, ?_⟩
      refine pl_take (.tuple #[.agg #[.int .i64 (((Orb.cx o (((s.1 + pk33) - (pk37 - o.sl)) - 0) : Nat) : Int) : Int), .int .i64 (((Orb.cy o (((s.1 + pk33) - (pk37 - o.sl)) - 0) : Nat) : Int) : Int)], .int .i64 0]) rfl (by kernel_rfl) (by kernel_rfl) (by kernel_rfl) (by kernel_rfl) ?_
      refine pl_take (.agg #[.int .i64 (((Orb.cx o (((s.1 + pk33) - (pk37 - o.sl)) - 0) : Nat) : Int) : Int), .int .i64 (((Orb.cy o (((s.1 + pk33) - (pk37 - o.sl)) - 0) : Nat) : Int) : Int)]) rfl (by kernel_rfl) (by kernel_rfl) (by kernel_rfl) (by kernel_rfl) ?_
      refine pl_take (.int .i64 0) rfl (by kernel_rfl) (by kernel_rfl) (by kernel_rfl) (by kernel_rfl) ?_
      refine pl_step rfl (by kernel_rfl) (by kernel_rfl) (by kernel_rfl) (sn_new (us := #[.int .i64 0, .int .i64 0]) (t := 33) (by kernel_rfl) ?_)
      intro O139 X140 hO hOs hb hbx
      have hzO139 := hO; have hyO139 := hOs; clear hO hOs
      have bO139_0 : BoxAt X140 O139 0 (.int .i64 0) := hbx 0 _ rfl
      have bO139_1 : BoxAt X140 O139 1 (.int .i64 0) := hbx 1 _ rfl
      clear hbx
      replace hE := hE.trans hb
      replace hX132 := hX132.trans hb
      have hs141 := hb.size
      clear hb
      have lt142 := bO139_0.lt
      refine pl_put rfl (by kernel_rfl) (by kernel_rfl) (sn_set2 (O := O139) (j := 0) (v := .int .i64 (((Orb.cx o (((s.1 + pk33) - (pk37 - o.sl)) - 0) : Nat) : Int) : Int)) (v' := .int .i64 (((Orb.cy o (((s.1 + pk33) - (pk37 - o.sl)) - 0) : Nat) : Int) : Int)) (ex_store (p := .pointer (some ⟨O139, 0, none⟩)) (v := .agg #[.int .i64 (((Orb.cx o (((s.1 + pk33) - (pk37 - o.sl)) - 0) : Nat) : Int) : Int), .int .i64 (((Orb.cy o (((s.1 + pk33) - (pk37 - o.sl)) - 0) : Nat) : Int) : Int)]) rfl (by kernel_rfl) (by kernel_rfl) (st33 bO139_0.1 bO139_0.2 bO139_1.1 bO139_1.2)) bO139_0 bO139_1 ?_)
      intro X143 ho hv0 hv1 hk
      replace hE := ho.ext hE (Nat.le_trans (Nat.le_trans hs3 (Nat.le_trans hs7 (Nat.le_trans hs11 (Nat.le_trans hs13 (Nat.le_trans hs16 (Nat.le_trans hs19 (Nat.le_trans hs22 (Nat.le_trans hs25 (Nat.le_trans hs28 (Nat.le_trans hs32 (Nat.le_trans hs35 (Nat.le_trans hs39 (Nat.le_trans hs42 (Nat.le_trans hs45 (Nat.le_trans hs51 (Nat.le_trans hs55 (Nat.le_trans hs58 (Nat.le_trans hs63 (Nat.le_trans hs67 (Nat.le_trans hs70 (Nat.le_trans hs83 (Nat.le_trans hs88 (Nat.le_trans hs91 (Nat.le_trans hs96 (Nat.le_trans hs99 (Nat.le_trans hs101 (Nat.le_trans hs103 (Nat.le_trans hs105 (Nat.le_trans hs107 (Nat.le_trans hs110 (Nat.le_trans hs113 (Nat.le_trans hs116 hs138)))))))))))))))))))))))))))))))) (Nat.le_of_eq hzO139))
      replace hX132 := ho.ext hX132 (Nat.le_trans hs138 (Nat.le_of_eq hzO139))
      have hs144 : X140.heap.size ≤ X143.heap.size := Nat.le_of_eq ho.size.symm
      clear ho hk bO139_0 bO139_1
      have bO139_0 := hv0; clear hv0
      have bO139_1 := hv1; clear hv1
      refine pl_take (.int .i64 0) rfl (by kernel_rfl) (by kernel_rfl) (by kernel_rfl) (by kernel_rfl) ?_
      refine pl_nil ?_
      refine qw_then ?_
      refine cw_clean [11, 17, 28, 29] (ws' := [(11, .bool true), (17, .pointer (some ⟨O40, 0, none⟩)), (28, .pointer (some ⟨O139, 0, none⟩)), (29, .int .i64 0)]) (by kernel_rfl) (fun L => ?_)
      refine cw_seq ?_
      refine cw_plain ?_
      refine pl_take (.bool true) rfl (by kernel_rfl) (by kernel_rfl) (by kernel_rfl) (by kernel_rfl) ?_
      refine pl_take (.bool true) rfl (by kernel_rfl) (by kernel_rfl) (by kernel_rfl) (by kernel_rfl) ?_
      refine pl_take (.int .i64 0) rfl (by kernel_rfl) (by kernel_rfl) (by kernel_rfl) (by kernel_rfl) ?_
      refine pl_take (.bool true) rfl (by kernel_rfl) (by kernel_rfl) (by kernel_rfl) (by kernel_rfl) ?_
      refine pl_take (.bool true) rfl (by kernel_rfl) (by kernel_rfl) (by kernel_rfl) (by kernel_rfl) ?_
      refine pl_take (.bool true) rfl (by kernel_rfl) (by kernel_rfl) (by kernel_rfl) (by kernel_rfl) ?_
      refine pl_take (.agg #[.int .i64 (((Orb.cx o (((s.1 + pk33) - (pk37 - o.sl)) - 0) : Nat) : Int) : Int), .int .i64 (((Orb.cy o (((s.1 + pk33) - (pk37 - o.sl)) - 0) : Nat) : Int) : Int)]) rfl (by kernel_rfl) (by kernel_rfl) (by kernel_rfl) (ex_load rfl (by kernel_rfl) (ld33 (bO139_0.1) (bO139_1.1))) ?_
      refine pl_take (.agg #[.int .i64 (((Orb.cx o ((s.1 + pk33) - (pk37 - o.sl)) : Nat) : Int) : Int), .int .i64 (((Orb.cy o ((s.1 + pk33) - (pk37 - o.sl)) : Nat) : Int) : Int)]) rfl (by kernel_rfl) (by kernel_rfl) (by kernel_rfl) (ex_load rfl (by kernel_rfl) (ld33 ((BoxAt.ext (hY135.trans hX132) bO40_0).1) ((BoxAt.ext (hY135.trans hX132) bO40_1).1))) ?_
      refine pl_take (.bool true) rfl (by kernel_rfl) (by kernel_rfl) (by kernel_rfl) (ev_bool (eqCell (a := ((Orb.cx o (((s.1 + pk33) - (pk37 - o.sl)) - 0) : Nat) : Int)) (b := ((Orb.cy o (((s.1 + pk33) - (pk37 - o.sl)) - 0) : Nat) : Int)) (c := ((Orb.cx o ((s.1 + pk33) - (pk37 - o.sl)) : Nat) : Int)) (d := ((Orb.cy o ((s.1 + pk33) - (pk37 - o.sl)) : Nat) : Int)) rfl (by kernel_rfl) (by kernel_rfl)) (decide_eq_true ⟨by rw [Int.sub_zero], by rw [Int.sub_zero]⟩)) ?_
      refine pl_take (.bool true) rfl (by kernel_rfl) (by kernel_rfl) (by kernel_rfl) (by kernel_rfl) ?_
      refine pl_take (.bool true) rfl (by kernel_rfl) (by kernel_rfl) (by kernel_rfl) (by kernel_rfl) ?_
      refine pl_nil ?_
      refine qw_then ?_
      refine cw_clean [10] (ws' := [(10, .bool true)]) (by kernel_rfl) (fun L => ?_)
      refine cw_ret ?_
      refine qw_ret [.bool true] rfl ⟨(by kernel_rfl), trivial⟩ ?_
      exact ⟨rfl, hE⟩
theorem SwathCells_walk (w : World) (v0 : Value) (op0 : Seven v0) (v1 : Value) (op1 : Pair v1) (lk : Int) (ilk : IsI lk) (ka : Int) (ika : IsI ka) (la : Int) (ila : IsI la) (hT : Tab w) : Calls Tryd.prog 3 #[v0, v1, .int .i64 lk, .int .i64 ka, .int .i64 la] w fun e w' => e = .returned (.bool true) ∧ Ext w w' := by
  obtain ⟨x0, x1, x2, x3, x4, x5, x6, rfl, ix0, ix1, ix2, ix3, ix4, ix5, ix6⟩ := op0
  obtain ⟨y0, y1, rfl, iy0, iy1⟩ := op1
  exact SwathCells_w x0 x1 x2 x3 x4 x5 x6 y0 y1 lk ka la  ix0 ix1 ix2 ix3 ix4 ix5 ix6 iy0 iy1 ilk ika ila w hT

end Go.Proofs.YtdjjkhefdalokaaDoor

/- The statement SwathCells: for every input the law returns true, and every argument reads as it read before; the two tables of package math/bits that the row lists are tied to the program's text. -/
namespace Go.Proofs.YtdjjkhefdalokaaDoor
open Go.ChangeShapes Go.WideShapes Go.ChangeAt Go.RowKit

set_option maxRecDepth 100000 in
theorem SwathCells_lifted (os : Os) (started : os.Started) (H : Type) (enc : TypeId × Value → H) :
    ReturnsInHanded {} Tryd.checked os 3 .any (fun w args => (Rows.swathCellsSpec.pre enc Tryd.prog Tryd.f3 [] false w args ∧ laidMetH Tryd.prog laidTabs w) ∧ sizedMet enc Tryd.prog Tryd.f3 (OpenSpec.ofChange Rows.swathCellsSpec) false w args)
      (Rows.swathCellsSpec.post enc Tryd.prog Tryd.f3 false true false false) := by
  refine returnsInHanded_of_change_and (C := Tryd.checked) (X := fun w _ => laidMetH Tryd.prog laidTabs w) (fun _ _ _ hh h => h.of_heap hh) own started (by kernel_rfl) Tryd.func3
    (ChangeSpec.witness_shaped (enc := enc) (C := Tryd.checked) (os := os) (X := fun w _ => laidMetH Tryd.prog laidTabs w) false (World.doorLaid Tryd.prog 19 os) #[.agg #[.int .i64 0, .int .i64 0, .int .i64 0, .int .i64 0, .int .i64 0, .int .i64 0, .int .i64 0], .agg #[.int .i64 0, .int .i64 0], .int .i64 0, .int .i64 0, .int .i64 0] 8 rfl (World.shaped_of_RefB (by kernel_rfl) (by kernel_rfl)) (by kernel_rfl) (by kernel_rfl) (by kernel_rfl) (door_met os _)) ?_
  intro W base args ds gs before hval0 hW _ hsz hL _
  have hval : ∀ (j : Nat) t v, Tryd.f3.params[j]? = some t → args[j]? = some v → Value.okWide Tryd.prog W .any base t v := hval0
  have hW' := hW
  obtain ⟨p, q, hA0, hV, rfl, hfz, hnd⟩ := hW
  have hA : DataW.TrodAll enc Tryd.prog W 0 (fun _ => true) true Tryd.f3.params.toList args.toList ds p := hA0
  rw [Tryd.params3] at hA hval
  obtain ⟨v0, vs0, d0, ds0, p0, q0, hargs, rfl, rfl, h0, r0⟩ := trodAll_cons hA
  obtain ⟨v1, vs1, d1, ds1, p1, q1, rfl, rfl, rfl, h1, r1⟩ := trodAll_cons r0
  obtain ⟨v2, vs2, d2, ds2, p2, q2, rfl, rfl, rfl, h2, r2⟩ := trodAll_cons r1
  obtain ⟨v3, vs3, d3, ds3, p3, q3, rfl, rfl, rfl, h3, r3⟩ := trodAll_cons r2
  obtain ⟨v4, vs4, d4, ds4, p4, q4, rfl, rfl, rfl, h4, r4⟩ := trodAll_cons r3
  obtain ⟨rfl, rfl, rfl⟩ := trodAll_nil r4
  obtain rfl : args = #[v0, v1, v2, v3, v4] := by cases args; simp_all
  obtain ⟨rfl, rfl⟩ := trodVars_none hV
  have k0 := h0
  have lt0 : ∀ x ∈ p0, x.block < W.heap.size := by obtain ⟨m, hm⟩ := k0; exact DataW.trod_lt m _ _ _ hm
  have op0 := open_seven (hval 0 _ v0 rfl rfl) h0
  have k1 := h1
  have lt1 : ∀ x ∈ p1, x.block < W.heap.size := by obtain ⟨m, hm⟩ := k1; exact DataW.trod_lt m _ _ _ hm
  have op1 := open_pair (hval 1 _ v1 rfl rfl) h1
  obtain ⟨a2, rfl, rfl, rfl, w2⟩ := open_int Tryd.underlying3 (hval 2 3 v2 rfl rfl) h2
  obtain ⟨a3, rfl, rfl, rfl, w3⟩ := open_int Tryd.underlying3 (hval 3 3 v3 rfl rfl) h3
  obtain ⟨a4, rfl, rfl, rfl, w4⟩ := open_int Tryd.underlying3 (hval 4 3 v4 rfl rfl) h4
  clear hA0 hval0
  refine (SwathCells_walk W v0 op0 v1 op1 a2 (isI_of_wf w2) a3 (isI_of_wf w3) a4 (isI_of_wf w4) (tab_of_laid hL)).mono fun e W' ⟨he, hE⟩ => ?_
  subst he
  have bel : Below W.heap.size W W' := hE
  exact ⟨_, rfl, _, _, _, [], _, [], hW', trodAll_mk1 (shut_bool Tryd.underlying4 _), (trodAll_cons_mk (Below.trod laidOut (by kernel_rfl) (of_decide_eq_true (by kernel_rfl)) k0 bel lt0) (trodAll_cons_mk (Below.trod laidOut (by kernel_rfl) (of_decide_eq_true (by kernel_rfl)) k1 bel lt1) (trodAll_cons_mk (shut_int Tryd.underlying3 w2) (trodAll_cons_mk (shut_int Tryd.underlying3 w3) (trodAll_cons_mk (shut_int Tryd.underlying3 w4) trodAll_mk0))))), rfl, bel.frame _, fun h => by cases h⟩

theorem SwathCells_over : Rows.SwathCellsSaid :=
  OpenClaim.holds_of_wide 3 Tryd.f3 rfl rfl rfl rfl rfl rfl rfl ⟨rfl, rfl, rfl, rfl, rfl⟩ rfl rfl rfl rfl rfl (by kernel_rfl) Tryd.func3 (by kernel_rfl)
    (of_decide_eq_true (by kernel_rfl)) (by unfold Func.isWrapper; first | (rw [if_pos (by decide +kernel)]; kernel_rfl) | (rw [if_neg (by decide +kernel)]; exact ⟨rfl, rfl⟩))
    (fun os started H enc _ => SwathCells_lifted os started H enc)

/-- The tied card. -/
theorem SwathCells_holds : Rows.SwathCellsCardSaid :=
  Claim7.holds_tied_plain_at .later [] [.data, .data] true (true, "902de5488c9475f6116b8a8cd6bdb348b0a58ba257e985381721fd7dfc34ea2c") false
    SwathCells_over (fun _ h => by cases h) (by kernel_rfl) (fun _ h => by cases h) swathCells_row_tie rfl ⟨rfl, rfl⟩ (by kernel_rfl) rfl
    (fun f fn hf hfn => by
      obtain rfl : f = 3 := Option.some.inj ((show Tryd.prog.funcNamed "nadir/nadirlaw08.SwathCells" = some 3 by kernel_rfl).symm.trans hf) |>.symm
      obtain rfl : fn = Tryd.f3 := (Option.some.inj (Tryd.func3.symm.trans hfn)).symm
      exact ⟨by kernel_rfl, fun j t ht => by
        rw [Tryd.params3] at ht
        have hm : t ∈ [22, 23, 3, 3, 3] := by simpa using Array.mem_of_getElem? ht
        have hall : ([22, 23, 3, 3, 3].all fun u => !Tryd.prog.wantsStandIn u) = true := by kernel_rfl
        exact (show Tryd.prog.wantsStandIn t = false by simpa using List.all_eq_true.1 hall t hm)⟩)
    (by kernel_rfl)
#print axioms SwathCells_holds
end Go.Proofs.YtdjjkhefdalokaaDoor
