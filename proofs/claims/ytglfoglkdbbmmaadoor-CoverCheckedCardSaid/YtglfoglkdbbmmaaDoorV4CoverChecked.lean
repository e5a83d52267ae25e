/- Part 4 of what the proof of CoverChecked stands on. -/
import Derived.Test.YtglfoglkdbbmmaaDoorV3CoverChecked
/- Loads, stores, indices and slices at the types of this seat. -/
namespace Go.Proofs.YtglfoglkdbbmmaaDoor
open Go.RowKit

theorem ix23 {w : World} {b o n c k : Nat} (hk : k < n) : (Instr.indexAt 23 (.slice (some ⟨b, o, none⟩) n c) (.int .i64 (k : Int))).run Tryd.prog w = .ok (.pointer (some ⟨b, o + k, none⟩)) w := by
  have : (0 : Int) ≤ (k : Int) := by omega
  have : (k : Int) < (n : Int) := by omega
  go_simp
theorem ix23z {w : World} {b n c k : Nat} (hk : k < n) : (Instr.indexAt 23 (.slice (some ⟨b, 0, none⟩) n c) (.int .i64 (k : Int))).run Tryd.prog w = .ok (.pointer (some ⟨b, k, none⟩)) w := by
  have h := ix23 (w := w) (b := b) (o := 0) (c := c) hk
  rwa [Nat.zero_add] at h
theorem ix26 {w : World} {b o n c k : Nat} (hk : k < n) : (Instr.indexAt 26 (.slice (some ⟨b, o, none⟩) n c) (.int .i64 (k : Int))).run Tryd.prog w = .ok (.pointer (some ⟨b, o + k * 2, none⟩)) w := by
  have : (0 : Int) ≤ (k : Int) := by omega
  have : (k : Int) < (n : Int) := by omega
  go_simp
theorem ix26z {w : World} {b n c k : Nat} (hk : k < n) : (Instr.indexAt 26 (.slice (some ⟨b, 0, none⟩) n c) (.int .i64 (k : Int))).run Tryd.prog w = .ok (.pointer (some ⟨b, k * 2, none⟩)) w := by
  have h := ix26 (w := w) (b := b) (o := 0) (c := c) hk
  rwa [Nat.zero_add] at h
theorem ix34 {w : World} {b o n c k : Nat} (hk : k < n) : (Instr.indexAt 34 (.slice (some ⟨b, o, none⟩) n c) (.int .i64 (k : Int))).run Tryd.prog w = .ok (.pointer (some ⟨b, o + k, none⟩)) w := by
  have : (0 : Int) ≤ (k : Int) := by omega
  have : (k : Int) < (n : Int) := by omega
  go_simp
theorem ix34z {w : World} {b n c k : Nat} (hk : k < n) : (Instr.indexAt 34 (.slice (some ⟨b, 0, none⟩) n c) (.int .i64 (k : Int))).run Tryd.prog w = .ok (.pointer (some ⟨b, k, none⟩)) w := by
  have h := ix34 (w := w) (b := b) (o := 0) (c := c) hk
  rwa [Nat.zero_add] at h
theorem ld23 {w : World} {b o : Nat} {x0 : Value} (h0 : w.cell? ⟨b, o, none⟩ = some x0) : (Instr.loadAt 23 (.pointer (some ⟨b, o, none⟩))).run Tryd.prog w = .ok (x0) w := by go_simp
theorem ld25 {w : World} {b o : Nat} {x0 : Value} (h0 : w.cell? ⟨b, o, none⟩ = some x0) : (Instr.loadAt 25 (.pointer (some ⟨b, o, none⟩))).run Tryd.prog w = .ok (.agg #[x0]) w := by go_simp
theorem ld28 {w : World} {b o : Nat} {x0 x1 : Value} (h0 : w.cell? ⟨b, o, none⟩ = some x0) (h1 : w.cell? ⟨b, o + 1, none⟩ = some x1) : (Instr.loadAt 28 (.pointer (some ⟨b, o, none⟩))).run Tryd.prog w = .ok (.agg #[x0, x1]) w := by go_simp
theorem ld3 {w : World} {b o : Nat} {x0 : Value} (h0 : w.cell? ⟨b, o, none⟩ = some x0) : (Instr.loadAt 3 (.pointer (some ⟨b, o, none⟩))).run Tryd.prog w = .ok (x0) w := by go_simp
theorem sl22_100b {w : World} {a : Option Addr} {n c k : Nat} (h1 : k ≤ n) (h2 : n ≤ c) : (Instr.sliceAt 22 (.slice a n c) (some (.int .i64 (k : Int))) none none).run Tryd.prog w = .ok (.slice (if c = k then a else a.map (fun x => x.add (k * 4))) (n - k) (c - k)) w := by
  have : (0 : Int) ≤ (k : Int) := by omega
  have : (k : Int) ≤ (n : Int) := by omega
  have : (n : Int) ≤ (c : Int) := by omega
  go_simp
theorem sl22_100 {w : World} {b o n c k : Nat} (h1 : k ≤ n) (h2 : n ≤ c) (h4 : k ≠ c) : (Instr.sliceAt 22 (.slice (some ⟨b, o, none⟩) n c) (some (.int .i64 (k : Int))) none none).run Tryd.prog w = .ok (.slice (some ⟨b, o + k * 4, none⟩) (n - k) (c - k)) w := by
  have : (0 : Int) ≤ (k : Int) := by omega
  have : (k : Int) ≤ (n : Int) := by omega
  have : (n : Int) ≤ (c : Int) := by omega
  have : ¬ c = k := by omega
  go_simp
theorem st25 {w : World} {b o : Nat} {u0 : Value} {a0 : Option Addr} {n0 c0 : Nat} (h0 : w.cell? ⟨b, o, none⟩ = some u0) (f0 : w.frozen? ⟨b, o, none⟩ = false) : (Instr.storeAt 25 (.pointer (some ⟨b, o, none⟩)) (.agg #[(.slice a0 n0 c0)])).run Tryd.prog w = .ok () (w.setCell ⟨b, o, none⟩ (.slice a0 n0 c0)) := by go_simp
theorem st3 {w : World} {b o : Nat} {u0 : Value} {x0 : Int} (h0 : w.cell? ⟨b, o, none⟩ = some u0) (f0 : w.frozen? ⟨b, o, none⟩ = false) : (Instr.storeAt 3 (.pointer (some ⟨b, o, none⟩)) ((.int .i64 x0))).run Tryd.prog w = .ok () (w.setCell ⟨b, o, none⟩ (.int .i64 x0)) := by go_simp

end Go.Proofs.YtglfoglkdbbmmaaDoor

/- The walk of the law CoverBetween. -/
namespace Go.Proofs.YtglfoglkdbbmmaaDoor
open Go.RowKit Go.Shelf

namespace Globe
/-- One strip more: what is uncovered lies between the two. -/
theorem between_step {C S T a b z : List Int} (hab : containsB b a = true) (_hz : validL z = true) (h1 : containsB T C = true) (h2 : containsB S T = true) :
    containsB (lessL T (unionL a (meetL b z))) (lessL C b) = true ∧ containsB (lessL S a) (lessL T (unionL a (meetL b z))) = true := by
  obtain ⟨vT, vC⟩ := contains_v h1
  obtain ⟨vS, -⟩ := contains_v h2
  obtain ⟨vb, va⟩ := contains_v hab
  refine ⟨contains_of (less_valid vT) (less_valid vC) fun x y hx hy h => ?_, contains_of (less_valid vS) (less_valid vT) fun x y hx hy h => ?_⟩
  · rw [has_less hy, has_union hy, has_meet hy]
    rw [has_less hy] at h
    simp only [Bool.and_eq_true, Bool.not_eq_true'] at h
    have q1 := contains_has h1 hx hy h.1
    have q2 : hasL a x y = false := by
      cases hq : hasL a x y
      · rfl
      · have := contains_has hab hx hy hq
        rw [h.2] at this; cases this
    rw [q1, q2, h.2]; rfl
  · rw [has_less hy]
    rw [has_less hy, has_union hy] at h
    simp only [Bool.and_eq_true, Bool.not_eq_true', Bool.or_eq_false_iff] at h
    rw [contains_has h2 hx hy h.1, h.2.1]; rfl
theorem contains_self {a : List Int} (h : validL a = true) : containsB a a = true := contains_of h h fun _ _ _ _ h => h
end Globe
open Go.RowKit
theorem QAt.drop {w : World} {a : Option Addr} {n : Nat} {q : Nat → Nat → Int} (h : QAt w a n q) (c : Nat) (hnc : n ≤ c) (M : Nat) (hM : M ≤ n) : QAt w (if c = M then a else a.map (fun x => x.add (M * 4))) (n - M) (fun i j => q (i + M) j) := by
  rcases Nat.eq_or_lt_of_le hM with rfl | hlt
  · exact .inl (by omega)
  · rw [if_neg (by omega)]
    obtain ⟨b, off, rfl, hq⟩ := h.resolve_left (by omega)
    refine .inr ⟨b, off + M * 4, by simp [Addr.add_mid], fun i hi j hj => ?_⟩
    rw [show off + M * 4 + i * 4 + j = off + (i + M) * 4 + j by omega]
    exact hq (i + M) (by omega) j hj
set_option maxRecDepth 1000000 in
set_option maxHeartbeats 4000000 in
theorem CoverBetween_walk (w : World) (v0 : Value) (o0 : Quads w v0) (v1 : Value) (o1 : Quads w v1) (v2 : Value) (o2 : Quads w v2) (hT : Tab w) :
    Calls Tryd.prog 7 #[v0, v1, v2] w fun e w' => e = .returned (.bool true) ∧ Ext w w' := by
  obtain ⟨a0, n0, c0, q0, rfl, hnc0, hcm0, hz0, Q0⟩ := o0
  obtain ⟨a1, n1, c1, q1, rfl, hnc1, hcm1, hz1, Q1⟩ := o1
  obtain ⟨a2, n2, c2, q2, rfl, hnc2, hcm2, hz2, Q2⟩ := o2
  refine calls_cw 93 [(2, .slice a2 n2 c2), (1, .slice a1 n1 c1), (0, .slice a0 n0 c0)] Tryd.func7 rfl Tryd.ntmps7 (by kernel_rfl) (by kernel_rfl) (fun L => ?_)
  have hE : Ext w w := Ext.refl w
  refine cw_seq ?_
  refine cw_plain ?_
  refine pl_take (.bool false) rfl (by kernel_rfl) (by kernel_rfl) (by kernel_rfl) (by kernel_rfl) ?_
  refine pl_nil ?_
  refine qw_then ?_
  refine cw_seq ?_
  refine cw_seq ?_
  refine cw_plain ?_
  refine pl_step rfl (by kernel_rfl) (by kernel_rfl) (by kernel_rfl) (sn_call (f := 10) (args := #[]) (by kernel_rfl) ((sane_c _ (hT.ext hE)).mono ?_))
  rintro e w1 ⟨rfl, hb⟩
  replace hE := hE.trans hb
  have hs2 := hb.size
  clear hb
  refine ⟨_, rfl, ?_⟩
  refine pl_take (.bool false) rfl (by kernel_rfl) (by kernel_rfl) (by kernel_rfl) (by kernel_rfl) ?_
  refine pl_nil ?_
  refine qw_then ?_
  refine cw_f (by kernel_rfl) ?_
  refine cw_skip ?_
  refine qw_then ?_
  refine cw_seq ?_
  refine cw_plain ?_
  refine pl_take (.slice a0 n0 c0) rfl (by kernel_rfl) (by kernel_rfl) (by kernel_rfl) (by kernel_rfl) ?_
  refine pl_step rfl (by kernel_rfl) (by kernel_rfl) (by kernel_rfl) (sn_call (f := 11) (args := #[.slice a0 n0 c0]) (by kernel_rfl) ((Area_c _ _ Q0 hE (by omega)).mono ?_))
  rintro e w7 ⟨B3, k4, rfl, hn6, v5, hb⟩
  replace hE := hE.trans hb
  have hs8 := hb.size
  clear hb
  have lt9 := v5.lt
  refine ⟨_, rfl, ?_⟩
  refine pl_step rfl (by kernel_rfl) (by kernel_rfl) (by kernel_rfl) (sn_new (us := #[.slice none 0 0]) (t := 25) (by kernel_rfl) ?_)
  intro O10 X11 hO hOs hb hbx
  have hzO10 := hO; have hyO10 := hOs; clear hO hOs
  have bO10_0 : BoxAt X11 O10 0 (.slice none 0 0) := hbx 0 _ rfl
  clear hbx
  replace hE := hE.trans hb
  replace v5 := v5.ext hb
  have hs12 := hb.size
  clear hb
  have lt13 := bO10_0.lt
  refine pl_put rfl (by kernel_rfl) (by kernel_rfl) (sn_set (O := O10) (j := 0) (v := .slice (some ⟨B3, 0, none⟩) 24 k4) (ex_store (p := .pointer (some ⟨O10, 0, none⟩)) (v := .agg #[.slice (some ⟨B3, 0, none⟩) 24 k4]) rfl (by kernel_rfl) (by kernel_rfl) (st25 bO10_0.1 bO10_0.2)) bO10_0 ?_)
  intro X14 ho hv0 hk
  replace hE := ho.ext hE (Nat.le_trans (Nat.le_trans hs2 hs8) (Nat.le_of_eq hzO10))
  replace v5 := ho.va (Nat.ne_of_gt (Nat.lt_of_lt_of_le lt9 (Nat.le_of_eq hzO10))) v5
  have hs15 : X11.heap.size ≤ X14.heap.size := Nat.le_of_eq ho.size.symm
  clear ho hk bO10_0
  have bO10_0 := hv0; clear hv0
  refine pl_nil ?_
  refine qw_then ?_
  refine cw_seq ?_
  refine cw_plain ?_
  refine pl_take (.slice a1 n1 c1) rfl (by kernel_rfl) (by kernel_rfl) (by kernel_rfl) (by kernel_rfl) ?_
  refine pl_step rfl (by kernel_rfl) (by kernel_rfl) (by kernel_rfl) (sn_call (f := 12) (args := #[.slice a1 n1 c1]) (by kernel_rfl) ((Strips_s _ Q1 hE (by omega) (by omega)).mono ?_))
  rintro e w23 ⟨ss16, t17, la18, lc19, rfl, sS20, hok21, ht22, hb⟩
  replace hE := hE.trans hb
  replace v5 := v5.ext hb
  replace bO10_0 := BoxAt.ext hb bO10_0
  have hs24 := hb.size
  clear hb
  have hX25 : Ext w23 w23 := Ext.refl _
  refine ⟨_, rfl, ?_⟩
  refine pl_take (.slice la18 t17 lc19) rfl (by kernel_rfl) (by kernel_rfl) (by kernel_rfl) (by kernel_rfl) ?_
  refine pl_nil ?_
  refine qw_then ?_
  refine cw_seq ?_
  refine cw_plain ?_
  refine pl_take (.agg #[.slice (some ⟨B3, 0, none⟩) 24 k4]) rfl (by kernel_rfl) (by kernel_rfl) (by kernel_rfl) (ex_load rfl (by kernel_rfl) (ld25 (bO10_0.1))) ?_
  refine pl_take (.slice la18 t17 lc19) rfl (by kernel_rfl) (by kernel_rfl) (by kernel_rfl) (by kernel_rfl) ?_
  refine pl_step rfl (by kernel_rfl) (by kernel_rfl) (by kernel_rfl) (sn_call (f := 15) (args := #[.agg #[.slice (some ⟨B3, 0, none⟩) 24 k4], .slice la18 t17 lc19]) (by kernel_rfl) ((Uncovered_v _ _ _ v5 (Ext.refl _) sS20 (Ext.refl _) hok21).mono ?_))
  rintro e w36 ⟨B26, o27, k28, B29, o30, k31, rfl, v32, v33, hn34, hn35, hb⟩
  replace hE := hE.trans hb
  replace hX25 := hX25.trans hb
  replace v5 := v5.ext hb
  replace bO10_0 := BoxAt.ext hb bO10_0
  have hs37 := hb.size
  clear hb
  have lt38 := v32.lt
  have lt39 := v33.lt
  refine ⟨_, rfl, ?_⟩
  refine pl_take (.tuple #[.agg #[.slice (some ⟨B26, o27, none⟩) 24 k28], .agg #[.slice (some ⟨B29, o30, none⟩) 24 k31], .int .i64 0]) rfl (by kernel_rfl) (by kernel_rfl) (by kernel_rfl) (by kernel_rfl) ?_
  refine pl_take (.agg #[.slice (some ⟨B26, o27, none⟩) 24 k28]) rfl (by kernel_rfl) (by kernel_rfl) (by kernel_rfl) (by kernel_rfl) ?_
  refine pl_take (.agg #[.slice (some ⟨B29, o30, none⟩) 24 k31]) rfl (by kernel_rfl) (by kernel_rfl) (by kernel_rfl) (by kernel_rfl) ?_
  refine pl_take (.int .i64 0) rfl (by kernel_rfl) (by kernel_rfl) (by kernel_rfl) (by kernel_rfl) ?_
  refine pl_step rfl (by kernel_rfl) (by kernel_rfl) (by kernel_rfl) (sn_new (us := #[.slice none 0 0]) (t := 25) (by kernel_rfl) ?_)
  intro O40 X41 hO hOs hb hbx
  have hzO40 := hO; have hyO40 := hOs; clear hO hOs
  have bO40_0 : BoxAt X41 O40 0 (.slice none 0 0) := hbx 0 _ rfl
  clear hbx
  replace hE := hE.trans hb
  replace hX25 := hX25.trans hb
  replace v5 := v5.ext hb
  replace bO10_0 := BoxAt.ext hb bO10_0
  replace v32 := v32.ext hb
  replace v33 := v33.ext hb
  have hs42 := hb.size
  clear hb
  have lt43 := bO40_0.lt
  refine pl_step rfl (by kernel_rfl) (by kernel_rfl) (by kernel_rfl) (sn_new (us := #[.slice none 0 0]) (t := 25) (by kernel_rfl) ?_)
  intro O44 X45 hO hOs hb hbx
  have hzO44 := hO; have hyO44 := hOs; clear hO hOs
  have bO44_0 : BoxAt X45 O44 0 (.slice none 0 0) := hbx 0 _ rfl
  clear hbx
  replace hE := hE.trans hb
  replace hX25 := hX25.trans hb
  replace v5 := v5.ext hb
  replace bO10_0 := BoxAt.ext hb bO10_0
  replace v32 := v32.ext hb
  replace v33 := v33.ext hb
  replace bO40_0 := BoxAt.ext hb bO40_0
  have hs46 := hb.size
  clear hb
  have lt47 := bO44_0.lt
  refine pl_put rfl (by kernel_rfl) (by kernel_rfl) (sn_set (O := O40) (j := 0) (v := .slice (some ⟨B26, o27, none⟩) 24 k28) (ex_store (p := .pointer (some ⟨O40, 0, none⟩)) (v := .agg #[.slice (some ⟨B26, o27, none⟩) 24 k28]) rfl (by kernel_rfl) (by kernel_rfl) (st25 bO40_0.1 bO40_0.2)) bO40_0 ?_)
  intro X48 ho hv0 hk
  replace hE := ho.ext hE (Nat.le_trans (Nat.le_trans hs2 (Nat.le_trans hs8 (Nat.le_trans hs12 (Nat.le_trans hs15 (Nat.le_trans hs24 hs37))))) (Nat.le_of_eq hzO40))
  replace hX25 := ho.ext hX25 (Nat.le_trans hs37 (Nat.le_of_eq hzO40))
  replace v5 := ho.va (Nat.ne_of_gt (Nat.lt_of_lt_of_le lt9 (Nat.le_trans (Nat.le_trans hs12 (Nat.le_trans hs15 (Nat.le_trans hs24 hs37))) (Nat.le_of_eq hzO40)))) v5
  replace bO10_0 := ho.box (Nat.ne_of_gt (Nat.lt_of_lt_of_le lt13 (Nat.le_trans (Nat.le_trans hs15 (Nat.le_trans hs24 hs37)) (Nat.le_of_eq hzO40)))) bO10_0
  replace v32 := ho.va (Nat.ne_of_gt (Nat.lt_of_lt_of_le lt38 (Nat.le_of_eq hzO40))) v32
  replace v33 := ho.va (Nat.ne_of_gt (Nat.lt_of_lt_of_le lt39 (Nat.le_of_eq hzO40))) v33
  replace bO44_0 := ho.box (Nat.ne_of_lt (Nat.lt_of_lt_of_le lt43 (Nat.le_of_eq hzO44))) bO44_0
  have hs49 : X45.heap.size ≤ X48.heap.size := Nat.le_of_eq ho.size.symm
  clear ho hk bO40_0
  have bO40_0 := hv0; clear hv0
  refine pl_put rfl (by kernel_rfl) (by kernel_rfl) (sn_set (O := O44) (j := 0) (v := .slice (some ⟨B29, o30, none⟩) 24 k31) (ex_store (p := .pointer (some ⟨O44, 0, none⟩)) (v := .agg #[.slice (some ⟨B29, o30, none⟩) 24 k31]) rfl (by kernel_rfl) (by kernel_rfl) (st25 bO44_0.1 bO44_0.2)) bO44_0 ?_)
  intro X50 ho hv0 hk
  replace hE := ho.ext hE (Nat.le_trans (Nat.le_trans hs2 (Nat.le_trans hs8 (Nat.le_trans hs12 (Nat.le_trans hs15 (Nat.le_trans hs24 (Nat.le_trans hs37 hs42)))))) (Nat.le_of_eq hzO44))
  replace hX25 := ho.ext hX25 (Nat.le_trans (Nat.le_trans hs37 hs42) (Nat.le_of_eq hzO44))
  replace v5 := ho.va (Nat.ne_of_gt (Nat.lt_of_lt_of_le lt9 (Nat.le_trans (Nat.le_trans hs12 (Nat.le_trans hs15 (Nat.le_trans hs24 (Nat.le_trans hs37 hs42)))) (Nat.le_of_eq hzO44)))) v5
  replace bO10_0 := ho.box (Nat.ne_of_gt (Nat.lt_of_lt_of_le lt13 (Nat.le_trans (Nat.le_trans hs15 (Nat.le_trans hs24 (Nat.le_trans hs37 hs42))) (Nat.le_of_eq hzO44)))) bO10_0
  replace v32 := ho.va (Nat.ne_of_gt (Nat.lt_of_lt_of_le lt38 (Nat.le_trans hs42 (Nat.le_of_eq hzO44)))) v32
  replace v33 := ho.va (Nat.ne_of_gt (Nat.lt_of_lt_of_le lt39 (Nat.le_trans hs42 (Nat.le_of_eq hzO44)))) v33
  replace bO40_0 := ho.box (Nat.ne_of_gt (Nat.lt_of_lt_of_le lt43 (Nat.le_of_eq hzO44))) bO40_0
  have hs51 : X48.heap.size ≤ X50.heap.size := Nat.le_of_eq ho.size.symm
  clear ho hk bO44_0
  have bO44_0 := hv0; clear hv0
  refine pl_take (.int .i64 0) rfl (by kernel_rfl) (by kernel_rfl) (by kernel_rfl) (by kernel_rfl) ?_
  refine pl_nil ?_
  refine qw_then ?_
  refine cw_clean [2, 7, 8, 9, 10, 11] (ws' := [(2, .slice a2 n2 c2), (7, .pointer (some ⟨O10, 0, none⟩)), (8, .slice la18 t17 lc19), (9, .pointer (some ⟨O40, 0, none⟩)), (10, .pointer (some ⟨O44, 0, none⟩)), (11, .int .i64 0)]) (by kernel_rfl) (fun L => ?_)
  refine cw_seq ?_
  refine cw_seq ?_
  refine cw_plain ?_
  refine pl_take (.int .i64 0) rfl (by kernel_rfl) (by kernel_rfl) (by kernel_rfl) (by kernel_rfl) ?_
  refine pl_take (.bool false) rfl (by kernel_rfl) (by kernel_rfl) (by kernel_rfl) (by kernel_rfl) ?_
  refine pl_nil ?_
  refine qw_then ?_
  refine cw_f (by kernel_rfl) ?_
  refine cw_skip ?_
  refine qw_then ?_
  refine cw_seq ?_
  refine cw_plain ?_
  refine pl_take (.agg #[.slice (some ⟨B3, 0, none⟩) 24 k4]) rfl (by kernel_rfl) (by kernel_rfl) (by kernel_rfl) (ex_load rfl (by kernel_rfl) (ld25 (bO10_0.1))) ?_
  refine pl_step rfl (by kernel_rfl) (by kernel_rfl) (by kernel_rfl) (sn_new (us := #[.slice none 0 0]) (t := 25) (by kernel_rfl) ?_)
  intro O52 X53 hO hOs hb hbx
  have hzO52 := hO; have hyO52 := hOs; clear hO hOs
  have bO52_0 : BoxAt X53 O52 0 (.slice none 0 0) := hbx 0 _ rfl
  clear hbx
  replace hE := hE.trans hb
  replace hX25 := hX25.trans hb
  replace v5 := v5.ext hb
  replace bO10_0 := BoxAt.ext hb bO10_0
  replace v32 := v32.ext hb
  replace v33 := v33.ext hb
  replace bO40_0 := BoxAt.ext hb bO40_0
  replace bO44_0 := BoxAt.ext hb bO44_0
  have hs54 := hb.size
  clear hb
  have lt55 := bO52_0.lt
  refine pl_put rfl (by kernel_rfl) (by kernel_rfl) (sn_set (O := O52) (j := 0) (v := .slice (some ⟨B3, 0, none⟩) 24 k4) (ex_store (p := .pointer (some ⟨O52, 0, none⟩)) (v := .agg #[.slice (some ⟨B3, 0, none⟩) 24 k4]) rfl (by kernel_rfl) (by kernel_rfl) (st25 bO52_0.1 bO52_0.2)) bO52_0 ?_)
  intro X56 ho hv0 hk
  replace hE := ho.ext hE (Nat.le_trans (Nat.le_trans hs2 (Nat.le_trans hs8 (Nat.le_trans hs12 (Nat.le_trans hs15 (Nat.le_trans hs24 (Nat.le_trans hs37 (Nat.le_trans hs42 (Nat.le_trans hs46 (Nat.le_trans hs49 hs51))))))))) (Nat.le_of_eq hzO52))
  replace hX25 := ho.ext hX25 (Nat.le_trans (Nat.le_trans hs37 (Nat.le_trans hs42 (Nat.le_trans hs46 (Nat.le_trans hs49 hs51)))) (Nat.le_of_eq hzO52))
  replace v5 := ho.va (Nat.ne_of_gt (Nat.lt_of_lt_of_le lt9 (Nat.le_trans (Nat.le_trans hs12 (Nat.le_trans hs15 (Nat.le_trans hs24 (Nat.le_trans hs37 (Nat.le_trans hs42 (Nat.le_trans hs46 (Nat.le_trans hs49 hs51))))))) (Nat.le_of_eq hzO52)))) v5
  replace bO10_0 := ho.box (Nat.ne_of_gt (Nat.lt_of_lt_of_le lt13 (Nat.le_trans (Nat.le_trans hs15 (Nat.le_trans hs24 (Nat.le_trans hs37 (Nat.le_trans hs42 (Nat.le_trans hs46 (Nat.le_trans hs49 hs51)))))) (Nat.le_of_eq hzO52)))) bO10_0
  replace v32 := ho.va (Nat.ne_of_gt (Nat.lt_of_lt_of_le lt38 (Nat.le_trans (Nat.le_trans hs42 (Nat.le_trans hs46 (Nat.le_trans hs49 hs51))) (Nat.le_of_eq hzO52)))) v32
  replace v33 := ho.va (Nat.ne_of_gt (Nat.lt_of_lt_of_le lt39 (Nat.le_trans (Nat.le_trans hs42 (Nat.le_trans hs46 (Nat.le_trans hs49 hs51))) (Nat.le_of_eq hzO52)))) v33
  replace bO40_0 := ho.box (Nat.ne_of_gt (Nat.lt_of_lt_of_le lt43 (Nat.le_trans (Nat.le_trans hs46 (Nat.le_trans hs49 hs51)) (Nat.le_of_eq hzO52)))) bO40_0
  replace bO44_0 := ho.box (Nat.ne_of_gt (Nat.lt_of_lt_of_le lt47 (Nat.le_trans (Nat.le_trans hs49 hs51) (Nat.le_of_eq hzO52)))) bO44_0
  have hs57 : X53.heap.size ≤ X56.heap.size := Nat.le_of_eq ho.size.symm
  clear ho hk bO52_0
  have bO52_0 := hv0; clear hv0
  refine pl_nil ?_
  refine qw_then ?_
  refine cw_seq ?_
  refine cw_seq ?_
  refine cw_plain ?_
  refine pl_take (.int .i64 0) rfl (by kernel_rfl) (by kernel_rfl) (by kernel_rfl) (by kernel_rfl) ?_
  refine pl_nil ?_
  refine qw_then ?_
  refine cw_block ?_
  refine cw_loop [2, 8, 9, 10, 12, 13] (fun ws' wr m => ∃ i : Nat, ∃ B : Nat, ∃ o : Nat, ∃ k : Nat, ∃ T : List Int, ws' = [(2, .slice a2 n2 c2), (8, .slice la18 t17 lc19), (9, .pointer (some ⟨O40, 0, none⟩)), (10, .pointer (some ⟨O44, 0, none⟩)), (12, .pointer (some ⟨O52, 0, none⟩)), (13, .int .i64 (((i : Nat) : Int) : Int))] ∧ m = t17 - i ∧ X56.heap.size ≤ wr.heap.size ∧ Ext w wr ∧ Ext w23 wr ∧ VA wr B3 0 (areaL q0 n0) ∧ BoxAt wr O10 0 (.slice (some ⟨B3, 0, none⟩) 24 k4) ∧ VA wr B26 o27 (Globe.leftL (areaL q0 n0) (ss16.map fun s => s.2)) ∧ VA wr B29 o30 (Globe.leftL (areaL q0 n0) (ss16.map fun s => s.1)) ∧ BoxAt wr O40 0 (.slice (some ⟨B26, o27, none⟩) 24 k28) ∧ BoxAt wr O44 0 (.slice (some ⟨B29, o30, none⟩) 24 k31) ∧ BoxAt wr O52 0 (.slice (some ⟨B, o, none⟩) 24 k) ∧ VA wr B o T ∧ i ≤ t17 ∧ Hid (O52 ≠ B) ∧ Globe.containsB T (Globe.leftL (areaL q0 n0) ((ss16.map fun s => s.2).take i)) = true ∧ Globe.containsB (Globe.leftL (areaL q0 n0) ((ss16.map fun s => s.1).take i)) T = true) (ws0 := [(2, .slice a2 n2 c2), (8, .slice la18 t17 lc19), (9, .pointer (some ⟨O40, 0, none⟩)), (10, .pointer (some ⟨O44, 0, none⟩)), (12, .pointer (some ⟨O52, 0, none⟩)), (13, .int .i64 0)]) (by kernel_rfl) _ ⟨0, B3, 0, k4, (areaL q0 n0), rfl, rfl, Nat.le_refl _, hE, hX25, v5, bO10_0, v32, v33, bO40_0, bO44_0, bO52_0, v5, by omega, Lib.hid (Nat.ne_of_gt (Nat.lt_of_lt_of_le lt9 (Nat.le_trans (Nat.le_trans hs12 (Nat.le_trans hs15 (Nat.le_trans hs24 (Nat.le_trans hs37 (Nat.le_trans hs42 (Nat.le_trans hs46 (Nat.le_trans hs49 hs51))))))) (Nat.le_of_eq hzO52)))), ⟨Globe.contains_self v5.2, Globe.contains_self v5.2⟩⟩ ?_
  clear v5 bO10_0 v32 v33 bO40_0 bO44_0 bO52_0 hE hX25
  rintro m60 L ws w59 ⟨i, B, o, k, T, rfl, rfl, hs58, hE, hX25, v5, bO10_0, v32, v33, bO40_0, bO44_0, bO52_0, vT, hi, hne, Hbt⟩
  have lt61 := vT.lt
  by_cases hlt : i < t17
  ·
    obtain ⟨sb, so, s, rfl, hs, hst⟩ := sS20.at hlt
    obtain ⟨q1', q2', q3'⟩ := okS_at hok21 hs
    obtain ⟨S1, s1, e1, S2, s2, e2, d1, d2, g1, g2⟩ := hst.v q1' q2'
    have hl1 : Globe.leftL (areaL q0 n0) ((ss16.map fun s => s.2).take (i + 1)) = Globe.lessL (Globe.leftL (areaL q0 n0) ((ss16.map fun s => s.2).take i)) s.2 := by rw [take_snoc' (x := s.2) (by rw [List.getElem?_map, hs]; rfl), Globe.left_snoc]
    have hl2 : Globe.leftL (areaL q0 n0) ((ss16.map fun s => s.1).take (i + 1)) = Globe.lessL (Globe.leftL (areaL q0 n0) ((ss16.map fun s => s.1).take i)) s.1 := by rw [take_snoc' (x := s.1) (by rw [List.getElem?_map, hs]; rfl), Globe.left_snoc]
    obtain ⟨M, hM⟩ : ∃ M, M = min n2 i := ⟨_, rfl⟩
    have hM1 : M ≤ n2 := by omega
    have QM := QAt.drop Q2 c2 hnc2 M hM1
    refine cw_seq ?_
    refine cw_seq ?_
    refine cw_plain ?_
    refine pl_take (.int .i64 (((i : Nat) : Int) : Int)) rfl (by kernel_rfl) (by kernel_rfl) (by kernel_rfl) (by kernel_rfl) ?_
    refine pl_take (.slice (some ⟨sb, so, none⟩) t17 lc19) rfl (by kernel_rfl) (by kernel_rfl) (by kernel_rfl) (by kernel_rfl) ?_
    refine pl_take (.int .i64 (((t17 : Nat) : Int) : Int)) rfl (by kernel_rfl) (by kernel_rfl) (by kernel_rfl) (by kernel_rfl) ?_
    refine pl_take (.bool true) rfl (by kernel_rfl) (by kernel_rfl) (by kernel_rfl) (ev_dec (show _ = Result.ok (Next.value (Value.bool (decide ((((i : Nat) : Int) : Int) < (((t17 : Nat) : Int) : Int))))) _ from by kernel_rfl) (by omega)) ?_
    refine pl_nil ?_
    refine qw_then ?_
    refine cw_t (by kernel_rfl) ?_
    refine cw_skip ?_
    refine qw_then ?_
    refine cw_seq ?_
    refine cw_block ?_
    refine cw_seq ?_
    refine cw_join (fun ws' Y => ∃ B64 : Nat, ∃ k65 : Nat, ∃ B71 : Nat, ∃ k72 : Nat, ∃ O78 : Nat, ws' = [(2, .slice a2 n2 c2), (8, .slice (some ⟨sb, so, none⟩) t17 lc19), (9, .pointer (some ⟨O40, 0, none⟩)), (10, .pointer (some ⟨O44, 0, none⟩)), (12, .pointer (some ⟨O52, 0, none⟩)), (13, .int .i64 (((i : Nat) : Int) : Int)), (14, .pointer (some ⟨O78, 0, none⟩)), (15, .int .i64 0)] ∧ Ext w Y ∧ Ext w23 Y ∧ VA Y B3 0 (areaL q0 n0) ∧ BoxAt Y O10 0 (.slice (some ⟨B3, 0, none⟩) 24 k4) ∧ VA Y B26 o27 (Globe.leftL (areaL q0 n0) (ss16.map fun s => s.2)) ∧ VA Y B29 o30 (Globe.leftL (areaL q0 n0) (ss16.map fun s => s.1)) ∧ BoxAt Y O40 0 (.slice (some ⟨B26, o27, none⟩) 24 k28) ∧ BoxAt Y O44 0 (.slice (some ⟨B29, o30, none⟩) 24 k31) ∧ BoxAt Y O52 0 (.slice (some ⟨B, o, none⟩) 24 k) ∧ VA Y B o T ∧ VA Y B64 0 (areaL (fun i j => q2 (i + M) j) (n2 - M)) ∧ VA Y B71 0 (Globe.meetL s.2 (areaL (fun i j => q2 (i + M) j) (n2 - M))) ∧ BoxAt Y O78 0 (.slice (some ⟨B71, 0, none⟩) 24 k72) ∧ w59.heap.size ≤ Y.heap.size ∧ w59.heap.size ≤ B64 ∧ w59.heap.size ≤ B71 ∧ w59.heap.size ≤ O78 ∧ Hid (B64 ≠ B71) ∧ Hid (B64 ≠ O78) ∧ Hid (B71 ≠ O78)) (fun hJ => ?_) ?_
    ·
      refine cw_draw [(some 43, [8], []), (some 44, [13], []), (some 45, [43, 44], [0, 1]), (some 46, [45], [2]), (some 47, [46], [3]), (some 48, [2], []), (some 49, [2], []), (some 50, [49], [6]), (some 51, [13], []), (some 52, [50, 51], [7, 8]), (some 53, [48, 52], [5, 9]), (some 54, [53], [10]), (some 55, [47, 54], [4, 11, 11]), (some 42, [55], [12]), (some 56, [42], [13]), (some 57, [42], [13]), (some 14, [], []), (none, [14, 56], [16, 14, 12, 0, 1, 2, 3, 4, 5, 6, 7, 8, 9, 10, 11, 12, 13, 14, 16]), (some 15, [57], [15, 17, 0, 1, 2, 3, 4, 5, 6, 7, 8, 9, 10, 11, 12, 13, 14, 15, 16, 17])] (fun w' => w'.cell? ⟨sb, so + i * 2 + 1, none⟩ = some (.slice (some ⟨S2, s2, none⟩) 24 e2)) (by kernel_rfl) (by kernel_rfl) (by kernel_rfl) (by kernel_rfl) ((calm_then (calm_block (calm_then (calm_then (calm_block (calm_then calm_body))))))) ((hX25.cell d2)) (fun ops Q X62 hb hL hR hK => ?_)
      replace hE := hE.trans hb
      replace hX25 := hX25.trans hb
      replace v5 := v5.ext hb
      replace bO10_0 := BoxAt.ext hb bO10_0
      replace v32 := v32.ext hb
      replace v33 := v33.ext hb
      replace bO40_0 := BoxAt.ext hb bO40_0
      replace bO44_0 := BoxAt.ext hb bO44_0
      replace bO52_0 := BoxAt.ext hb bO52_0
      replace vT := vT.ext hb
      have hs63 := hb.size
      clear hb
      refine wd_take 0 (.slice (some ⟨sb, so, none⟩) t17 lc19) hR rfl (by kernel_rfl) rfl (by kernel_rfl) (fun w _ => by kernel_rfl) ((hX25.cell d2)) ?_
      refine wd_take 1 (.int .i64 (((i : Nat) : Int) : Int)) hR rfl (by kernel_rfl) rfl (by kernel_rfl) (fun w _ => by kernel_rfl) ((hX25.cell d2)) ?_
      refine wd_take 2 (.pointer (some ⟨sb, so + i * 2, none⟩)) hR rfl (by kernel_rfl) rfl (by kernel_rfl) (fun w _ => ex_index (p := .slice (some ⟨sb, so, none⟩) t17 lc19) (i := .int .i64 ((i : Nat) : Int)) rfl (by kernel_rfl) (by kernel_rfl) (ix26 (k := i) (by omega))) ((hX25.cell d2)) ?_
      refine wd_take 3 (.pointer (some ⟨sb, so + i * 2 + 1, none⟩)) hR rfl (by kernel_rfl) rfl (by kernel_rfl) (fun w _ => by kernel_rfl) ((hX25.cell d2)) ?_
      refine wd_take 4 (.agg #[.slice (some ⟨S2, s2, none⟩) 24 e2]) hR rfl (by kernel_rfl) rfl (by kernel_rfl) (fun w hS => ex_load rfl (by kernel_rfl) (ld25 (hS))) ((hX25.cell d2)) ?_
      refine wd_take 5 (.slice a2 n2 c2) hR rfl (by kernel_rfl) rfl (by kernel_rfl) (fun w _ => by kernel_rfl) ((hX25.cell d2)) ?_
      refine wd_take 6 (.slice a2 n2 c2) hR rfl (by kernel_rfl) rfl (by kernel_rfl) (fun w _ => by kernel_rfl) ((hX25.cell d2)) ?_
      refine wd_take 7 (.int .i64 (((n2 : Nat) : Int) : Int)) hR rfl (by kernel_rfl) rfl (by kernel_rfl) (fun w _ => by kernel_rfl) ((hX25.cell d2)) ?_
      refine wd_take 8 (.int .i64 (((i : Nat) : Int) : Int)) hR rfl (by kernel_rfl) rfl (by kernel_rfl) (fun w _ => by kernel_rfl) ((hX25.cell d2)) ?_
      refine wd_take 9 (.int .i64 (((M : Nat) : Int) : Int)) hR rfl (by kernel_rfl) rfl (by kernel_rfl) (fun w _ => ev_int (show _ = Result.ok (Next.value (Value.int .i64 (if (i : Int) < (n2 : Int) then (i : Int) else (n2 : Int)))) _ from by kernel_rfl) (by rw [hM]; split <;> omega)) ((hX25.cell d2)) ?_
      refine wd_take 10 (.slice (if c2 = M then a2 else a2.map (fun x => x.add (M * 4))) (n2 - M) (c2 - M)) hR rfl (by kernel_rfl) rfl (by kernel_rfl) (fun w _ => ex_slice (p := .slice a2 n2 c2) rfl (by kernel_rfl) (by kernel_rfl) (by kernel_rfl) (by kernel_rfl) (sl22_100b (k := M) (by omega) (by omega))) ((hX25.cell d2)) ?_
      refine wd_two 11 16 hR rfl rfl (by kernel_rfl) (by kernel_rfl) (by kernel_rfl) (by kernel_rfl) ?_ ?_
      ·
        refine sn_call (f := 11) (args := #[.slice (if c2 = M then a2 else a2.map (fun x => x.add (M * 4))) (n2 - M) (c2 - M)]) (by kernel_rfl) ((Area_c _ _ QM hE (by omega)).mono ?_)
        rintro e w68 ⟨B64, k65, rfl, hn67, v66, hb⟩
        replace hE := hE.trans hb
        replace hX25 := hX25.trans hb
        replace v5 := v5.ext hb
        replace bO10_0 := BoxAt.ext hb bO10_0
        replace v32 := v32.ext hb
        replace v33 := v33.ext hb
        replace bO40_0 := BoxAt.ext hb bO40_0
        replace bO44_0 := BoxAt.ext hb bO44_0
        replace bO52_0 := BoxAt.ext hb bO52_0
        replace vT := vT.ext hb
        have hs69 := hb.size
        clear hb
        have lt70 := v66.lt
        refine ⟨_, rfl, (hX25.cell d2), ?_⟩
        refine wd_two 12 16 hR rfl rfl (by kernel_rfl) (by kernel_rfl) (by kernel_rfl) (by kernel_rfl) ?_ ?_
        ·
          refine sn_call (f := 28) (args := #[.agg #[.slice (some ⟨S2, s2, none⟩) 24 e2], .agg #[.slice (some ⟨B64, 0, none⟩) 24 k65]]) (by kernel_rfl) ((Meet_v _ _ _ (g2.ext hX25) (Ext.refl _) v66 (Ext.refl _)).mono ?_)
          rintro e w75 ⟨B71, k72, rfl, hn74, -, v73, hb⟩
          replace hE := hE.trans hb
          replace hX25 := hX25.trans hb
          replace v5 := v5.ext hb
          replace bO10_0 := BoxAt.ext hb bO10_0
          replace v32 := v32.ext hb
          replace v33 := v33.ext hb
          replace bO40_0 := BoxAt.ext hb bO40_0
          replace bO44_0 := BoxAt.ext hb bO44_0
          replace bO52_0 := BoxAt.ext hb bO52_0
          replace vT := vT.ext hb
          replace v66 := v66.ext hb
          have hs76 := hb.size
          clear hb
          have lt77 := v73.lt
          refine ⟨_, rfl, (hX25.cell d2), ?_⟩
          refine wd_take 13 (.tuple #[.agg #[.slice (some ⟨B71, 0, none⟩) 24 k72], .int .i64 0]) hR rfl (by kernel_rfl) rfl (by kernel_rfl) (fun w _ => by kernel_rfl) ((hX25.cell d2)) ?_
          refine wd_take 14 (.agg #[.slice (some ⟨B71, 0, none⟩) 24 k72]) hR rfl (by kernel_rfl) rfl (by kernel_rfl) (fun w _ => by kernel_rfl) ((hX25.cell d2)) ?_
          refine wd_take 15 (.int .i64 0) hR rfl (by kernel_rfl) rfl (by kernel_rfl) (fun w _ => by kernel_rfl) ((hX25.cell d2)) ?_
          refine wd_step 16 hR rfl (by kernel_rfl) (by kernel_rfl) (by kernel_rfl) (sn_new (us := #[.slice none 0 0]) (t := 25) (by kernel_rfl) ?_)
          intro O78 X79 hO hOs hb hbx
          have hzO78 := hO; have hyO78 := hOs; clear hO hOs
          have bO78_0 : BoxAt X79 O78 0 (.slice none 0 0) := hbx 0 _ rfl
          clear hbx
          replace hE := hE.trans hb
          replace hX25 := hX25.trans hb
          replace v5 := v5.ext hb
          replace bO10_0 := BoxAt.ext hb bO10_0
          replace v32 := v32.ext hb
          replace v33 := v33.ext hb
          replace bO40_0 := BoxAt.ext hb bO40_0
          replace bO44_0 := BoxAt.ext hb bO44_0
          replace bO52_0 := BoxAt.ext hb bO52_0
          replace vT := vT.ext hb
          replace v66 := v66.ext hb
          replace v73 := v73.ext hb
          have hs80 := hb.size
          clear hb
          have lt81 := bO78_0.lt
          refine ⟨(hX25.cell d2), ?_⟩
          refine wd_step 17 hR rfl (by kernel_rfl) (by kernel_rfl) (by kernel_rfl) (sn_set (O := O78) (j := 0) (v := .slice (some ⟨B71, 0, none⟩) 24 k72) (ex_store (p := .pointer (some ⟨O78, 0, none⟩)) (v := .agg #[.slice (some ⟨B71, 0, none⟩) 24 k72]) rfl (by kernel_rfl) (by kernel_rfl) (st25 bO78_0.1 bO78_0.2)) bO78_0 ?_)
          intro X82 ho hv0 hk
          replace hE := ho.ext hE (Nat.le_trans (Nat.le_trans hs2 (Nat.le_trans hs8 (Nat.le_trans hs12 (Nat.le_trans hs15 (Nat.le_trans hs24 (Nat.le_trans hs37 (Nat.le_trans hs42 (Nat.le_trans hs46 (Nat.le_trans hs49 (Nat.le_trans hs51 (Nat.le_trans hs54 (Nat.le_trans hs57 (Nat.le_trans hs58 (Nat.le_trans hs63 (Nat.le_trans hs69 hs76))))))))))))))) (Nat.le_of_eq hzO78))
          replace hX25 := ho.ext hX25 (Nat.le_trans (Nat.le_trans hs37 (Nat.le_trans hs42 (Nat.le_trans hs46 (Nat.le_trans hs49 (Nat.le_trans hs51 (Nat.le_trans hs54 (Nat.le_trans hs57 (Nat.le_trans hs58 (Nat.le_trans hs63 (Nat.le_trans hs69 hs76)))))))))) (Nat.le_of_eq hzO78))
          replace v5 := ho.va (Nat.ne_of_gt (Nat.lt_of_lt_of_le lt9 (Nat.le_trans (Nat.le_trans hs12 (Nat.le_trans hs15 (Nat.le_trans hs24 (Nat.le_trans hs37 (Nat.le_trans hs42 (Nat.le_trans hs46 (Nat.le_trans hs49 (Nat.le_trans hs51 (Nat.le_trans hs54 (Nat.le_trans hs57 (Nat.le_trans hs58 (Nat.le_trans hs63 (Nat.le_trans hs69 hs76))))))))))))) (Nat.le_of_eq hzO78)))) v5
          replace bO10_0 := ho.box (Nat.ne_of_gt (Nat.lt_of_lt_of_le lt13 (Nat.le_trans (Nat.le_trans hs15 (Nat.le_trans hs24 (Nat.le_trans hs37 (Nat.le_trans hs42 (Nat.le_trans hs46 (Nat.le_trans hs49 (Nat.le_trans hs51 (Nat.le_trans hs54 (Nat.le_trans hs57 (Nat.le_trans hs58 (Nat.le_trans hs63 (Nat.le_trans hs69 hs76)))))))))))) (Nat.le_of_eq hzO78)))) bO10_0
          replace v32 := ho.va (Nat.ne_of_gt (Nat.lt_of_lt_of_le lt38 (Nat.le_trans (Nat.le_trans hs42 (Nat.le_trans hs46 (Nat.le_trans hs49 (Nat.le_trans hs51 (Nat.le_trans hs54 (Nat.le_trans hs57 (Nat.le_trans hs58 (Nat.le_trans hs63 (Nat.le_trans hs69 hs76))))))))) (Nat.le_of_eq hzO78)))) v32
          replace v33 := ho.va (Nat.ne_of_gt (Nat.lt_of_lt_of_le lt39 (Nat.le_trans (Nat.le_trans hs42 (Nat.le_trans hs46 (Nat.le_trans hs49 (Nat.le_trans hs51 (Nat.le_trans hs54 (Nat.le_trans hs57 (Nat.le_trans hs58 (Nat.le_trans hs63 (Nat.le_trans hs69 hs76))))))))) (Nat.le_of_eq hzO78)))) v33
          replace bO40_0 := ho.box (Nat.ne_of_gt (Nat.lt_of_lt_of_le lt43 (Nat.le_trans (Nat.le_trans hs46 (Nat.le_trans hs49 (Nat.le_trans hs51 (Nat.le_trans hs54 (Nat.le_trans hs57 (Nat.le_trans hs58 (Nat.le_trans hs63 (Nat.le_trans hs69 hs76)))))))) (Nat.le_of_eq hzO78)))) bO40_0
          replace bO44_0 := ho.box (Nat.ne_of_gt (Nat.lt_of_lt_of_le lt47 (Nat.le_trans (Nat.le_trans hs49 (Nat.le_trans hs51 (Nat.le_trans hs54 (Nat.le_trans hs57 (Nat.le_trans hs58 (Nat.le_trans hs63 (Nat.le_trans hs69 hs76))))))) (Nat.le_of_eq hzO78)))) bO44_0
          replace bO52_0 := ho.box (Nat.ne_of_gt (Nat.lt_of_lt_of_le lt55 (Nat.le_trans (Nat.le_trans hs57 (Nat.le_trans hs58 (Nat.le_trans hs63 (Nat.le_trans hs69 hs76)))) (Nat.le_of_eq hzO78)))) bO52_0
          replace vT := ho.va (Nat.ne_of_gt (Nat.lt_of_lt_of_le lt61 (Nat.le_trans (Nat.le_trans hs63 (Nat.le_trans hs69 hs76)) (Nat.le_of_eq hzO78)))) vT
          replace v66 := ho.va (Nat.ne_of_gt (Nat.lt_of_lt_of_le lt70 (Nat.le_trans hs76 (Nat.le_of_eq hzO78)))) v66
          replace v73 := ho.va (Nat.ne_of_gt (Nat.lt_of_lt_of_le lt77 (Nat.le_of_eq hzO78))) v73
          have hs83 : X79.heap.size ≤ X82.heap.size := Nat.le_of_eq ho.size.symm
          clear ho hk bO78_0
          have bO78_0 := hv0; clear hv0
          refine ⟨(hX25.cell d2), ?_⟩
          refine wd_take 18 (.int .i64 0) hR rfl (by kernel_rfl) rfl (by kernel_rfl) (fun w _ => by kernel_rfl) ((hX25.cell d2)) ?_
          refine wd_end hL hR hK (by kernel_rfl) ?_
          exact qw_leaf hJ [2, 8, 9, 10, 12, 13, 14, 15] (ws' := [(2, .slice a2 n2 c2), (8, .slice (some ⟨sb, so, none⟩) t17 lc19), (9, .pointer (some ⟨O40, 0, none⟩)), (10, .pointer (some ⟨O44, 0, none⟩)), (12, .pointer (some ⟨O52, 0, none⟩)), (13, .int .i64 (((i : Nat) : Int) : Int)), (14, .pointer (some ⟨O78, 0, none⟩)), (15, .int .i64 0)]) (by kernel_rfl) ⟨B64, k65, B71, k72, O78, rfl, hE, hX25, v5, bO10_0, v32, v33, bO40_0, bO44_0, bO52_0, vT, v66, v73, bO78_0, (Nat.le_trans hs63 (Nat.le_trans hs69 (Nat.le_trans hs76 (Nat.le_trans hs80 hs83)))), (Nat.le_trans hs63 hn67), (Nat.le_trans (Nat.le_trans hs63 hs69) hn74), (Nat.le_trans (Nat.le_trans hs63 (Nat.le_trans hs69 hs76)) (Nat.le_of_eq hzO78)), Lib.hid (Nat.ne_of_lt (Nat.lt_of_lt_of_le lt70 hn74)), Lib.hid (Nat.ne_of_lt (Nat.lt_of_lt_of_le lt70 (Nat.le_trans hs76 (Nat.le_of_eq hzO78)))), Lib.hid (Nat.ne_of_lt (Nat.lt_of_lt_of_le lt77 (Nat.le_of_eq hzO78)))⟩
        ·
          refine sn_new (us := #[.slice none 0 0]) (t := 25) (by kernel_rfl) ?_
          intro O84 X85 hO hOs hb hbx
          have hzO84 := hO; have hyO84 := hOs; clear hO hOs
          have bO84_0 : BoxAt X85 O84 0 (.slice none 0 0) := hbx 0 _ rfl
          clear hbx
          replace hE := hE.trans hb
          replace hX25 := hX25.trans hb
          replace v5 := v5.ext hb
          replace bO10_0 := BoxAt.ext hb bO10_0
          replace v32 := v32.ext hb
          replace v33 := v33.ext hb
          replace bO40_0 := BoxAt.ext hb bO40_0
          replace bO44_0 := BoxAt.ext hb bO44_0
          replace bO52_0 := BoxAt.ext hb bO52_0
          replace vT := vT.ext hb
          replace v66 := v66.ext hb
          have hs86 := hb.size
          clear hb
          have lt87 := bO84_0.lt
          refine ⟨(hX25.cell d2), ?_⟩
          refine wd_step 12 hR rfl (by kernel_rfl) (by kernel_rfl) (by kernel_rfl) (sn_call (f := 28) (args := #[.agg #[.slice (some ⟨S2, s2, none⟩) 24 e2], .agg #[.slice (some ⟨B64, 0, none⟩) 24 k65]]) (by kernel_rfl) ((Meet_v _ _ _ (g2.ext hX25) (Ext.refl _) v66 (Ext.refl _)).mono ?_))
          rintro e w92 ⟨B88, k89, rfl, hn91, -, v90, hb⟩
          replace hE := hE.trans hb
          replace hX25 := hX25.trans hb
          replace v5 := v5.ext hb
          replace bO10_0 := BoxAt.ext hb bO10_0
          replace v32 := v32.ext hb
          replace v33 := v33.ext hb
          replace bO40_0 := BoxAt.ext hb bO40_0
          replace bO44_0 := BoxAt.ext hb bO44_0
          replace bO52_0 := BoxAt.ext hb bO52_0
          replace vT := vT.ext hb
          replace v66 := v66.ext hb
          replace bO84_0 := BoxAt.ext hb bO84_0
          have hs93 := hb.size
          clear hb
          have lt94 := v90.lt
          refine ⟨_, rfl, (hX25.cell d2), ?_⟩
          refine wd_take 13 (.tuple #[.agg #[.slice (some ⟨B88, 0, none⟩) 24 k89], .int .i64 0]) hR rfl (by kernel_rfl) rfl (by kernel_rfl) (fun w _ => by kernel_rfl) ((hX25.cell d2)) ?_
          refine wd_take 14 (.agg #[.slice (some ⟨B88, 0, none⟩) 24 k89]) hR rfl (by kernel_rfl) rfl (by kernel_rfl) (fun w _ => by kernel_rfl) ((hX25.cell d2)) ?_
          refine wd_take 15 (.int .i64 0) hR rfl (by kernel_rfl) rfl (by kernel_rfl) (fun w _ => by kernel_rfl) ((hX25.cell d2)) ?_
          refine wd_step 17 hR rfl (by kernel_rfl) (by kernel_rfl) (by kernel_rfl) (sn_set (O := O84) (j := 0) (v := .slice (some ⟨B88, 0, none⟩) 24 k89) (ex_store (p := .pointer (some ⟨O84, 0, none⟩)) (v := .agg #[.slice (some ⟨B88, 0, none⟩) 24 k89]) rfl (by kernel_rfl) (by kernel_rfl) (st25 bO84_0.1 bO84_0.2)) bO84_0 ?_)
          intro X95 ho hv0 hk
          replace hE := ho.ext hE (Nat.le_trans (Nat.le_trans hs2 (Nat.le_trans hs8 (Nat.le_trans hs12 (Nat.le_trans hs15 (Nat.le_trans hs24 (Nat.le_trans hs37 (Nat.le_trans hs42 (Nat.le_trans hs46 (Nat.le_trans hs49 (Nat.le_trans hs51 (Nat.le_trans hs54 (Nat.le_trans hs57 (Nat.le_trans hs58 (Nat.le_trans hs63 hs69)))))))))))))) (Nat.le_of_eq hzO84))
          replace hX25 := ho.ext hX25 (Nat.le_trans (Nat.le_trans hs37 (Nat.le_trans hs42 (Nat.le_trans hs46 (Nat.le_trans hs49 (Nat.le_trans hs51 (Nat.le_trans hs54 (Nat.le_trans hs57 (Nat.le_trans hs58 (Nat.le_trans hs63 hs69))))))))) (Nat.le_of_eq hzO84))
          replace v5 := ho.va (Nat.ne_of_gt (Nat.lt_of_lt_of_le lt9 (Nat.le_trans (Nat.le_trans hs12 (Nat.le_trans hs15 (Nat.le_trans hs24 (Nat.le_trans hs37 (Nat.le_trans hs42 (Nat.le_trans hs46 (Nat.le_trans hs49 (Nat.le_trans hs51 (Nat.le_trans hs54 (Nat.le_trans hs57 (Nat.le_trans hs58 (Nat.le_trans hs63 hs69)))))))))))) (Nat.le_of_eq hzO84)))) v5
          replace bO10_0 := ho.box (Nat.ne_of_gt (Nat.lt_of_lt_of_le lt13 (Nat.le_trans (Nat.le_trans hs15 (Nat.le_trans hs24 (Nat.le_trans hs37 (Nat.le_trans hs42 (Nat.le_trans hs46 (Nat.le_trans hs49 (Nat.le_trans hs51 (Nat.le_trans hs54 (Nat.le_trans hs57 (Nat.le_trans hs58 (Nat.le_trans hs63 hs69))))))))))) (Nat.le_of_eq hzO84)))) bO10_0
          replace v32 := ho.va (Nat.ne_of_gt (Nat.lt_of_lt_of_le lt38 (Nat.le_trans (Nat.le_trans hs42 (Nat.le_trans hs46 (Nat.le_trans hs49 (Nat.le_trans hs51 (Nat.le_trans hs54 (Nat.le_trans hs57 (Nat.le_trans hs58 (Nat.le_trans hs63 hs69)))))))) (Nat.le_of_eq hzO84)))) v32
          replace v33 := ho.va (Nat.ne_of_gt (Nat.lt_of_lt_of_le lt39 (Nat.le_trans (Nat.le_trans hs42 (Nat.le_trans hs46 (Nat.le_trans hs49 (Nat.le_trans hs51 (Nat.le_trans hs54 (Nat.le_trans hs57 (Nat.le_trans hs58 (Nat.le_trans hs63 hs69)))))))) (Nat.le_of_eq hzO84)))) v33
          replace bO40_0 := ho.box (Nat.ne_of_gt (Nat.lt_of_lt_of_le lt43 (Nat.le_trans (Nat.le_trans hs46 (Nat.le_trans hs49 (Nat.le_trans hs51 (Nat.le_trans hs54 (Nat.le_trans hs57 (Nat.le_trans hs58 (Nat.le_trans hs63 hs69))))))) (Nat.le_of_eq hzO84)))) bO40_0
          replace bO44_0 := ho.box (Nat.ne_of_gt (Nat.lt_of_lt_of_le lt47 (Nat.le_trans (Nat.le_trans hs49 (Nat.le_trans hs51 (Nat.le_trans hs54 (Nat.le_trans hs57 (Nat.le_trans hs58 (Nat.le_trans hs63 hs69)))))) (Nat.le_of_eq hzO84)))) bO44_0
          replace bO52_0 := ho.box (Nat.ne_of_gt (Nat.lt_of_lt_of_le lt55 (Nat.le_trans (Nat.le_trans hs57 (Nat.le_trans hs58 (Nat.le_trans hs63 hs69))) (Nat.le_of_eq hzO84)))) bO52_0
          replace vT := ho.va (Nat.ne_of_gt (Nat.lt_of_lt_of_le lt61 (Nat.le_trans (Nat.le_trans hs63 hs69) (Nat.le_of_eq hzO84)))) vT
          replace v66 := ho.va (Nat.ne_of_gt (Nat.lt_of_lt_of_le lt70 (Nat.le_of_eq hzO84))) v66
          replace v90 := ho.va (Nat.ne_of_lt (Nat.lt_of_lt_of_le lt87 hn91)) v90
          have hs96 : w92.heap.size ≤ X95.heap.size := Nat.le_of_eq ho.size.symm
          clear ho hk bO84_0
          have bO84_0 := hv0; clear hv0
          refine ⟨(hX25.cell d2), ?_⟩
          refine wd_take 18 (.int .i64 0) hR rfl (by kernel_rfl) rfl (by kernel_rfl) (fun w _ => by kernel_rfl) ((hX25.cell d2)) ?_
          refine wd_end hL hR hK (by kernel_rfl) ?_
          exact qw_leaf hJ [2, 8, 9, 10, 12, 13, 14, 15] (ws' := [(2, .slice a2 n2 c2), (8, .slice (some ⟨sb, so, none⟩) t17 lc19), (9, .pointer (some ⟨O40, 0, none⟩)), (10, .pointer (some ⟨O44, 0, none⟩)), (12, .pointer (some ⟨O52, 0, none⟩)), (13, .int .i64 (((i : Nat) : Int) : Int)), (14, .pointer (some ⟨O84, 0, none⟩)), (15, .int .i64 0)]) (by kernel_rfl) ⟨B64, k65, B88, k89, O84, rfl, hE, hX25, v5, bO10_0, v32, v33, bO40_0, bO44_0, bO52_0, vT, v66, v90, bO84_0, (Nat.le_trans hs63 (Nat.le_trans hs69 (Nat.le_trans hs86 (Nat.le_trans hs93 hs96)))), (Nat.le_trans hs63 hn67), (Nat.le_trans (Nat.le_trans hs63 (Nat.le_trans hs69 hs86)) hn91), (Nat.le_trans (Nat.le_trans hs63 hs69) (Nat.le_of_eq hzO84)), Lib.hid (Nat.ne_of_lt (Nat.lt_of_lt_of_le lt70 (Nat.le_trans hs86 hn91))), Lib.hid (Nat.ne_of_lt (Nat.lt_of_lt_of_le lt70 (Nat.le_of_eq hzO84))), Lib.hid (Nat.ne_of_gt (Nat.lt_of_lt_of_le lt87 hn91))⟩
      ·
        refine sn_new (us := #[.slice none 0 0]) (t := 25) (by kernel_rfl) ?_
        intro O97 X98 hO hOs hb hbx
        have hzO97 := hO; have hyO97 := hOs; clear hO hOs
        have bO97_0 : BoxAt X98 O97 0 (.slice none 0 0) := hbx 0 _ rfl
        clear hbx
        replace hE := hE.trans hb
        replace hX25 := hX25.trans hb
        replace v5 := v5.ext hb
        replace bO10_0 := BoxAt.ext hb bO10_0
        replace v32 := v32.ext hb
        replace v33 := v33.ext hb
        replace bO40_0 := BoxAt.ext hb bO40_0
        replace bO44_0 := BoxAt.ext hb bO44_0
        replace bO52_0 := BoxAt.ext hb bO52_0
        replace vT := vT.ext hb
        have hs99 := hb.size
        clear hb
        have lt100 := bO97_0.lt
        refine ⟨(hX25.cell d2), ?_⟩
        refine wd_step 11 hR rfl (by kernel_rfl) (by kernel_rfl) (by kernel_rfl) (sn_call (f := 11) (args := #[.slice (if c2 = M then a2 else a2.map (fun x => x.add (M * 4))) (n2 - M) (c2 - M)]) (by kernel_rfl) ((Area_c _ _ QM hE (by omega)).mono ?_))
        rintro e w105 ⟨B101, k102, rfl, hn104, v103, hb⟩
        replace hE := hE.trans hb
        replace hX25 := hX25.trans hb
        replace v5 := v5.ext hb
        replace bO10_0 := BoxAt.ext hb bO10_0
        replace v32 := v32.ext hb
        replace v33 := v33.ext hb
        replace bO40_0 := BoxAt.ext hb bO40_0
        replace bO44_0 := BoxAt.ext hb bO44_0
        replace bO52_0 := BoxAt.ext hb bO52_0
        replace vT := vT.ext hb
        replace bO97_0 := BoxAt.ext hb bO97_0
        have hs106 := hb.size
        clear hb
        have lt107 := v103.lt
        refine ⟨_, rfl, (hX25.cell d2), ?_⟩
        refine wd_step 12 hR rfl (by kernel_rfl) (by kernel_rfl) (by kernel_rfl) (sn_call (f := 28) (args := #[.agg #[.slice (some ⟨S2, s2, none⟩) 24 e2], .agg #[.slice (some ⟨B101, 0, none⟩) 24 k102]]) (by kernel_rfl) ((Meet_v _ _ _ (g2.ext hX25) (Ext.refl _) v103 (Ext.refl _)).mono ?_))
        rintro e w112 ⟨B108, k109, rfl, hn111, -, v110, hb⟩
        replace hE := hE.trans hb
        replace hX25 := hX25.trans hb
        replace v5 := v5.ext hb
        replace bO10_0 := BoxAt.ext hb bO10_0
        replace v32 := v32.ext hb
        replace v33 := v33.ext hb
        replace bO40_0 := BoxAt.ext hb bO40_0
        replace bO44_0 := BoxAt.ext hb bO44_0
        replace bO52_0 := BoxAt.ext hb bO52_0
        replace vT := vT.ext hb
        replace bO97_0 := BoxAt.ext hb bO97_0
        replace v103 := v103.ext hb
        have hs113 := hb.size
        clear hb
        have lt114 := v110.lt
        refine ⟨_, rfl, (hX25.cell d2), ?_⟩
        refine wd_take 13 (.tuple #[.agg #[.slice (some ⟨B108, 0, none⟩) 24 k109], .int .i64 0]) hR rfl (by kernel_rfl) rfl (by kernel_rfl) (fun w _ => by kernel_rfl) ((hX25.cell d2)) ?_
        refine wd_take 14 (.agg #[.slice (some ⟨B108, 0, none⟩) 24 k109]) hR rfl (by kernel_rfl) rfl (by kernel_rfl) (fun w _ => by kernel_rfl) ((hX25.cell d2)) ?_
        refine wd_take 15 (.int .i64 0) hR rfl (by kernel_rfl) rfl (by kernel_rfl) (fun w _ => by kernel_rfl) ((hX25.cell d2)) ?_
        refine wd_step 17 hR rfl (by kernel_rfl) (by kernel_rfl) (by kernel_rfl) (sn_set (O := O97) (j := 0) (v := .slice (some ⟨B108, 0, none⟩) 24 k109) (ex_store (p := .pointer (some ⟨O97, 0, none⟩)) (v := .agg #[.slice (some ⟨B108, 0, none⟩) 24 k109]) rfl (by kernel_rfl) (by kernel_rfl) (st25 bO97_0.1 bO97_0.2)) bO97_0 ?_)
        intro X115 ho hv0 hk
        replace hE := ho.ext hE (Nat.le_trans (Nat.le_trans hs2 (Nat.le_trans hs8 (Nat.le_trans hs12 (Nat.le_trans hs15 (Nat.le_trans hs24 (Nat.le_trans hs37 (Nat.le_trans hs42 (Nat.le_trans hs46 (Nat.le_trans hs49 (Nat.le_trans hs51 (Nat.le_trans hs54 (Nat.le_trans hs57 (Nat.le_trans hs58 hs63))))))))))))) (Nat.le_of_eq hzO97))
        replace hX25 := ho.ext hX25 (Nat.le_trans (Nat.le_trans hs37 (Nat.le_trans hs42 (Nat.le_trans hs46 (Nat.le_trans hs49 (Nat.le_trans hs51 (Nat.le_trans hs54 (Nat.le_trans hs57 (Nat.le_trans hs58 hs63)))))))) (Nat.le_of_eq hzO97))
        replace v5 := ho.va (Nat.ne_of_gt (Nat.lt_of_lt_of_le lt9 (Nat.le_trans (Nat.le_trans hs12 (Nat.le_trans hs15 (Nat.le_trans hs24 (Nat.le_trans hs37 (Nat.le_trans hs42 (Nat.le_trans hs46 (Nat.le_trans hs49 (Nat.le_trans hs51 (Nat.le_trans hs54 (Nat.le_trans hs57 (Nat.le_trans hs58 hs63))))))))))) (Nat.le_of_eq hzO97)))) v5
        replace bO10_0 := ho.box (Nat.ne_of_gt (Nat.lt_of_lt_of_le lt13 (Nat.le_trans (Nat.le_trans hs15 (Nat.le_trans hs24 (Nat.le_trans hs37 (Nat.le_trans hs42 (Nat.le_trans hs46 (Nat.le_trans hs49 (Nat.le_trans hs51 (Nat.le_trans hs54 (Nat.le_trans hs57 (Nat.le_trans hs58 hs63)))))))))) (Nat.le_of_eq hzO97)))) bO10_0
        replace v32 := ho.va (Nat.ne_of_gt (Nat.lt_of_lt_of_le lt38 (Nat.le_trans (Nat.le_trans hs42 (Nat.le_trans hs46 (Nat.le_trans hs49 (Nat.le_trans hs51 (Nat.le_trans hs54 (Nat.le_trans hs57 (Nat.le_trans hs58 hs63))))))) (Nat.le_of_eq hzO97)))) v32
        replace v33 := ho.va (Nat.ne_of_gt (Nat.lt_of_lt_of_le lt39 (Nat.le_trans (Nat.le_trans hs42 (Nat.le_trans hs46 (Nat.le_trans hs49 (Nat.le_trans hs51 (Nat.le_trans hs54 (Nat.le_trans hs57 (Nat.le_trans hs58 hs63))))))) (Nat.le_of_eq hzO97)))) v33
        replace bO40_0 := ho.box (Nat.ne_of_gt (Nat.lt_of_lt_of_le lt43 (Nat.le_trans (Nat.le_trans hs46 (Nat.le_trans hs49 (Nat.le_trans hs51 (Nat.le_trans hs54 (Nat.le_trans hs57 (Nat.le_trans hs58 hs63)))))) (Nat.le_of_eq hzO97)))) bO40_0
        replace bO44_0 := ho.box (Nat.ne_of_gt (Nat.lt_of_lt_of_le lt47 (Nat.le_trans (Nat.le_trans hs49 (Nat.le_trans hs51 (Nat.le_trans hs54 (Nat.le_trans hs57 (Nat.le_trans hs58 hs63))))) (Nat.le_of_eq hzO97)))) bO44_0
        replace bO52_0 := ho.box (Nat.ne_of_gt (Nat.lt_of_lt_of_le lt55 (Nat.le_trans (Nat.le_trans hs57 (Nat.le_trans hs58 hs63)) (Nat.le_of_eq hzO97)))) bO52_0
        replace vT := ho.va (Nat.ne_of_gt (Nat.lt_of_lt_of_le lt61 (Nat.le_trans hs63 (Nat.le_of_eq hzO97)))) vT
        replace v103 := ho.va (Nat.ne_of_lt (Nat.lt_of_lt_of_le lt100 hn104)) v103
        replace v110 := ho.va (Nat.ne_of_lt (Nat.lt_of_lt_of_le lt100 (Nat.le_trans hs106 hn111))) v110
        have hs116 : w112.heap.size ≤ X115.heap.size := Nat.le_of_eq ho.size.symm
        clear ho hk bO97_0
        have bO97_0 := hv0; clear hv0
        refine ⟨(hX25.cell d2), ?_⟩
        refine wd_take 18 (.int .i64 0) hR rfl (by kernel_rfl) rfl (by kernel_rfl) (fun w _ => by kernel_rfl) ((hX25.cell d2)) ?_
        refine wd_end hL hR hK (by kernel_rfl) ?_
        exact qw_leaf hJ [2, 8, 9, 10, 12, 13, 14, 15] (ws' := [(2, .slice a2 n2 c2), (8, .slice (some ⟨sb, so, none⟩) t17 lc19), (9, .pointer (some ⟨O40, 0, none⟩)), (10, .pointer (some ⟨O44, 0, none⟩)), (12, .pointer (some ⟨O52, 0, none⟩)), (13, .int .i64 (((i : Nat) : Int) : Int)), (14, .pointer (some ⟨O97, 0, none⟩)), (15, .int .i64 0)]) (by kernel_rfl) ⟨B101, k102, B108, k109, O97, rfl, hE, hX25, v5, bO10_0, v32, v33, bO40_0, bO44_0, bO52_0, vT, v103, v110, bO97_0, (Nat.le_trans hs63 (Nat.le_trans hs99 (Nat.le_trans hs106 (Nat.le_trans hs113 hs116)))), (Nat.le_trans (Nat.le_trans hs63 hs99) hn104), (Nat.le_trans (Nat.le_trans hs63 (Nat.le_trans hs99 hs106)) hn111), (Nat.le_trans hs63 (Nat.le_of_eq hzO97)), Lib.hid (Nat.ne_of_lt (Nat.lt_of_lt_of_le lt107 hn111)), Lib.hid (Nat.ne_of_gt (Nat.lt_of_lt_of_le lt100 hn104)), Lib.hid (Nat.ne_of_gt (Nat.lt_of_lt_of_le lt100 (Nat.le_trans hs106 hn111)))⟩
    ·
      clear v5 bO10_0 v32 v33 bO40_0 bO44_0 bO52_0 vT hE hX25
      rintro L ws Y117 ⟨B64, k65, B71, k72, O78, rfl, hE, hX25, v5, bO10_0, v32, v33, bO40_0, bO44_0, bO52_0, vT, v66, v73, bO78_0, hn118, hn119, hn120, hn121, hn122, hn123, hn124⟩
      have lt125 := v66.lt
      have lt126 := v73.lt
      have lt127 := bO78_0.lt
      refine qw_then ?_
      refine cw_seq ?_
      refine cw_join (fun ws' Y => ∃ B130 : Nat, ∃ k131 : Nat, ∃ O137 : Nat, ws' = [(2, .slice a2 n2 c2), (8, .slice (some ⟨sb, so, none⟩) t17 lc19), (9, .pointer (some ⟨O40, 0, none⟩)), (10, .pointer (some ⟨O44, 0, none⟩)), (12, .pointer (some ⟨O52, 0, none⟩)), (13, .int .i64 (((i : Nat) : Int) : Int)), (15, .int .i64 0), (16, .pointer (some ⟨O137, 0, none⟩)), (17, .int .i64 0)] ∧ Ext w Y ∧ Ext w23 Y ∧ VA Y B3 0 (areaL q0 n0) ∧ BoxAt Y O10 0 (.slice (some ⟨B3, 0, none⟩) 24 k4) ∧ VA Y B26 o27 (Globe.leftL (areaL q0 n0) (ss16.map fun s => s.2)) ∧ VA Y B29 o30 (Globe.leftL (areaL q0 n0) (ss16.map fun s => s.1)) ∧ BoxAt Y O40 0 (.slice (some ⟨B26, o27, none⟩) 24 k28) ∧ BoxAt Y O44 0 (.slice (some ⟨B29, o30, none⟩) 24 k31) ∧ BoxAt Y O52 0 (.slice (some ⟨B, o, none⟩) 24 k) ∧ VA Y B o T ∧ VA Y B64 0 (areaL (fun i j => q2 (i + M) j) (n2 - M)) ∧ VA Y B71 0 (Globe.meetL s.2 (areaL (fun i j => q2 (i + M) j) (n2 - M))) ∧ BoxAt Y O78 0 (.slice (some ⟨B71, 0, none⟩) 24 k72) ∧ VA Y B130 0 (Globe.unionL s.1 (Globe.meetL s.2 (areaL (fun i j => q2 (i + M) j) (n2 - M)))) ∧ BoxAt Y O137 0 (.slice (some ⟨B130, 0, none⟩) 24 k131) ∧ Y117.heap.size ≤ Y.heap.size ∧ Y117.heap.size ≤ B130 ∧ Y117.heap.size ≤ O137 ∧ Hid (B130 ≠ O137)) (fun hJ => ?_) ?_
      ·
        refine cw_draw [(some 59, [8], []), (some 60, [13], []), (some 61, [59, 60], [0, 1]), (some 62, [61], [2]), (some 63, [62], [3]), (some 64, [14], []), (some 65, [63, 64], [4, 5]), (some 58, [65], [6]), (some 66, [58], [7]), (some 67, [58], [7]), (some 16, [], []), (none, [16, 66], [10, 8, 6, 0, 1, 2, 3, 4, 5, 6, 7, 8, 10]), (some 17, [67], [9, 11, 0, 1, 2, 3, 4, 5, 6, 7, 8, 9, 10, 11])] (fun w' => w'.cell? ⟨sb, so + i * 2, none⟩ = some (.slice (some ⟨S1, s1, none⟩) 24 e1) ∧ w'.cell? ⟨O78, 0, none⟩ = some (.slice (some ⟨B71, 0, none⟩) 24 k72)) (by kernel_rfl) (by kernel_rfl) (by kernel_rfl) (by kernel_rfl) ((calm_then (calm_block (calm_then (calm_then (calm_block (calm_then calm_body))))))) (⟨(hX25.cell d1), bO78_0.1⟩) (fun ops Q X128 hb hL hR hK => ?_)
        replace hE := hE.trans hb
        replace hX25 := hX25.trans hb
        replace v5 := v5.ext hb
        replace bO10_0 := BoxAt.ext hb bO10_0
        replace v32 := v32.ext hb
        replace v33 := v33.ext hb
        replace bO40_0 := BoxAt.ext hb bO40_0
        replace bO44_0 := BoxAt.ext hb bO44_0
        replace bO52_0 := BoxAt.ext hb bO52_0
        replace vT := vT.ext hb
        replace v66 := v66.ext hb
        replace v73 := v73.ext hb
        replace bO78_0 := BoxAt.ext hb bO78_0
        have hs129 := hb.size
        clear hb
        refine wd_take 0 (.slice (some ⟨sb, so, none⟩) t17 lc19) hR rfl (by kernel_rfl) rfl (by kernel_rfl) (fun w _ => by kernel_rfl) (⟨(hX25.cell d1), bO78_0.1⟩) ?_
        refine wd_take 1 (.int .i64 (((i : Nat) : Int) : Int)) hR rfl (by kernel_rfl) rfl (by kernel_rfl) (fun w _ => by kernel_rfl) (⟨(hX25.cell d1), bO78_0.1⟩) ?_
        refine wd_take 2 (.pointer (some ⟨sb, so + i * 2, none⟩)) hR rfl (by kernel_rfl) rfl (by kernel_rfl) (fun w _ => ex_index (p := .slice (some ⟨sb, so, none⟩) t17 lc19) (i := .int .i64 ((i : Nat) : Int)) rfl (by kernel_rfl) (by kernel_rfl) (ix26 (k := i) (by omega))) (⟨(hX25.cell d1), bO78_0.1⟩) ?_
        refine wd_take 3 (.pointer (some ⟨sb, so + i * 2, none⟩)) hR rfl (by kernel_rfl) rfl (by kernel_rfl) (fun w _ => by kernel_rfl) (⟨(hX25.cell d1), bO78_0.1⟩) ?_
        refine wd_take 4 (.agg #[.slice (some ⟨S1, s1, none⟩) 24 e1]) hR rfl (by kernel_rfl) rfl (by kernel_rfl) (fun w hS => ex_load rfl (by kernel_rfl) (ld25 (hS.1))) (⟨(hX25.cell d1), bO78_0.1⟩) ?_
        refine wd_take 5 (.agg #[.slice (some ⟨B71, 0, none⟩) 24 k72]) hR rfl (by kernel_rfl) rfl (by kernel_rfl) (fun w hS => ex_load rfl (by kernel_rfl) (ld25 (hS.2))) (⟨(hX25.cell d1), bO78_0.1⟩) ?_
        refine wd_two 6 10 hR rfl rfl (by kernel_rfl) (by kernel_rfl) (by kernel_rfl) (by kernel_rfl) ?_ ?_
        ·
          refine sn_call (f := 31) (args := #[.agg #[.slice (some ⟨S1, s1, none⟩) 24 e1], .agg #[.slice (some ⟨B71, 0, none⟩) 24 k72]]) (by kernel_rfl) ((Union_v _ _ _ (g1.ext hX25) (Ext.refl _) v73 (Ext.refl _)).mono ?_)
          rintro e w134 ⟨B130, k131, rfl, hn133, -, v132, hb⟩
          replace hE := hE.trans hb
          replace hX25 := hX25.trans hb
          replace v5 := v5.ext hb
          replace bO10_0 := BoxAt.ext hb bO10_0
          replace v32 := v32.ext hb
          replace v33 := v33.ext hb
          replace bO40_0 := BoxAt.ext hb bO40_0
          replace bO44_0 := BoxAt.ext hb bO44_0
          replace bO52_0 := BoxAt.ext hb bO52_0
          replace vT := vT.ext hb
          replace v66 := v66.ext hb
          replace v73 := v73.ext hb
          replace bO78_0 := BoxAt.ext hb bO78_0
          have hs135 := hb.size
          clear hb
          have lt136 := v132.lt
          refine ⟨_, rfl, ⟨(hX25.cell d1), bO78_0.1⟩, ?_⟩
          refine wd_take 7 (.tuple #[.agg #[.slice (some ⟨B130, 0, none⟩) 24 k131], .int .i64 0]) hR rfl (by kernel_rfl) rfl (by kernel_rfl) (fun w _ => by kernel_rfl) (⟨(hX25.cell d1), bO78_0.1⟩) ?_
          refine wd_take 8 (.agg #[.slice (some ⟨B130, 0, none⟩) 24 k131]) hR rfl (by kernel_rfl) rfl (by kernel_rfl) (fun w _ => by kernel_rfl) (⟨(hX25.cell d1), bO78_0.1⟩) ?_
          refine wd_take 9 (.int .i64 0) hR rfl (by kernel_rfl) rfl (by kernel_rfl) (fun w _ => by kernel_rfl) (⟨(hX25.cell d1), bO78_0.1⟩) ?_
          refine wd_step 10 hR rfl (by kernel_rfl) (by kernel_rfl) (by kernel_rfl) (sn_new (us := #[.slice none 0 0]) (t := 25) (by kernel_rfl) ?_)
          intro O137 X138 hO hOs hb hbx
          have hzO137 := hO; have hyO137 := hOs; clear hO hOs
          have bO137_0 : BoxAt X138 O137 0 (.slice none 0 0) := hbx 0 _ rfl
          clear hbx
          replace hE := hE.trans hb
          replace hX25 := hX25.trans hb
          replace v5 := v5.ext hb
          replace bO10_0 := BoxAt.ext hb bO10_0
          replace v32 := v32.ext hb
          replace v33 := v33.ext hb
          replace bO40_0 := BoxAt.ext hb bO40_0
          replace bO44_0 := BoxAt.ext hb bO44_0
          replace bO52_0 := BoxAt.ext hb bO52_0
          replace vT := vT.ext hb
          replace v66 := v66.ext hb
          replace v73 := v73.ext hb
          replace bO78_0 := BoxAt.ext hb bO78_0
          replace v132 := v132.ext hb
          have hs139 := hb.size
          clear hb
          have lt140 := bO137_0.lt
          refine ⟨⟨(hX25.cell d1), bO78_0.1⟩, ?_⟩
          refine wd_step 11 hR rfl (by kernel_rfl) (by kernel_rfl) (by kernel_rfl) (sn_set (O := O137) (j := 0) (v := .slice (some ⟨B130, 0, none⟩) 24 k131) (ex_store (p := .pointer (some ⟨O137, 0, none⟩)) (v := .agg #[.slice (some ⟨B130, 0, none⟩) 24 k131]) rfl (by kernel_rfl) (by kernel_rfl) (st25 bO137_0.1 bO137_0.2)) bO137_0 ?_)
          intro X141 ho hv0 hk
          replace hE := ho.ext hE (Nat.le_trans (Nat.le_trans hs2 (Nat.le_trans hs8 (Nat.le_trans hs12 (Nat.le_trans hs15 (Nat.le_trans hs24 (Nat.le_trans hs37 (Nat.le_trans hs42 (Nat.le_trans hs46 (Nat.le_trans hs49 (Nat.le_trans hs51 (Nat.le_trans hs54 (Nat.le_trans hs57 (Nat.le_trans hs58 (Nat.le_trans hn118 (Nat.le_trans hs129 hs135))))))))))))))) (Nat.le_of_eq hzO137))
          replace hX25 := ho.ext hX25 (Nat.le_trans (Nat.le_trans hs37 (Nat.le_trans hs42 (Nat.le_trans hs46 (Nat.le_trans hs49 (Nat.le_trans hs51 (Nat.le_trans hs54 (Nat.le_trans hs57 (Nat.le_trans hs58 (Nat.le_trans hn118 (Nat.le_trans hs129 hs135)))))))))) (Nat.le_of_eq hzO137))
          replace v5 := ho.va (Nat.ne_of_gt (Nat.lt_of_lt_of_le lt9 (Nat.le_trans (Nat.le_trans hs12 (Nat.le_trans hs15 (Nat.le_trans hs24 (Nat.le_trans hs37 (Nat.le_trans hs42 (Nat.le_trans hs46 (Nat.le_trans hs49 (Nat.le_trans hs51 (Nat.le_trans hs54 (Nat.le_trans hs57 (Nat.le_trans hs58 (Nat.le_trans hn118 (Nat.le_trans hs129 hs135))))))))))))) (Nat.le_of_eq hzO137)))) v5
          replace bO10_0 := ho.box (Nat.ne_of_gt (Nat.lt_of_lt_of_le lt13 (Nat.le_trans (Nat.le_trans hs15 (Nat.le_trans hs24 (Nat.le_trans hs37 (Nat.le_trans hs42 (Nat.le_trans hs46 (Nat.le_trans hs49 (Nat.le_trans hs51 (Nat.le_trans hs54 (Nat.le_trans hs57 (Nat.le_trans hs58 (Nat.le_trans hn118 (Nat.le_trans hs129 hs135)))))))))))) (Nat.le_of_eq hzO137)))) bO10_0
          replace v32 := ho.va (Nat.ne_of_gt (Nat.lt_of_lt_of_le lt38 (Nat.le_trans (Nat.le_trans hs42 (Nat.le_trans hs46 (Nat.le_trans hs49 (Nat.le_trans hs51 (Nat.le_trans hs54 (Nat.le_trans hs57 (Nat.le_trans hs58 (Nat.le_trans hn118 (Nat.le_trans hs129 hs135))))))))) (Nat.le_of_eq hzO137)))) v32
          replace v33 := ho.va (Nat.ne_of_gt (Nat.lt_of_lt_of_le lt39 (Nat.le_trans (Nat.le_trans hs42 (Nat.le_trans hs46 (Nat.le_trans hs49 (Nat.le_trans hs51 (Nat.le_trans hs54 (Nat.le_trans hs57 (Nat.le_trans hs58 (Nat.le_trans hn118 (Nat.le_trans hs129 hs135))))))))) (Nat.le_of_eq hzO137)))) v33
          replace bO40_0 := ho.box (Nat.ne_of_gt (Nat.lt_of_lt_of_le lt43 (Nat.le_trans (Nat.le_trans hs46 (Nat.le_trans hs49 (Nat.le_trans hs51 (Nat.le_trans hs54 (Nat.le_trans hs57 (Nat.le_trans hs58 (Nat.le_trans hn118 (Nat.le_trans hs129 hs135)))))))) (Nat.le_of_eq hzO137)))) bO40_0
          replace bO44_0 := ho.box (Nat.ne_of_gt (Nat.lt_of_lt_of_le lt47 (Nat.le_trans (Nat.le_trans hs49 (Nat.le_trans hs51 (Nat.le_trans hs54 (Nat.le_trans hs57 (Nat.le_trans hs58 (Nat.le_trans hn118 (Nat.le_trans hs129 hs135))))))) (Nat.le_of_eq hzO137)))) bO44_0
          replace bO52_0 := ho.box (Nat.ne_of_gt (Nat.lt_of_lt_of_le lt55 (Nat.le_trans (Nat.le_trans hs57 (Nat.le_trans hs58 (Nat.le_trans hn118 (Nat.le_trans hs129 hs135)))) (Nat.le_of_eq hzO137)))) bO52_0
          replace vT := ho.va (Nat.ne_of_gt (Nat.lt_of_lt_of_le lt61 (Nat.le_trans (Nat.le_trans hn118 (Nat.le_trans hs129 hs135)) (Nat.le_of_eq hzO137)))) vT
          replace v66 := ho.va (Nat.ne_of_gt (Nat.lt_of_lt_of_le lt125 (Nat.le_trans (Nat.le_trans hs129 hs135) (Nat.le_of_eq hzO137)))) v66
          replace v73 := ho.va (Nat.ne_of_gt (Nat.lt_of_lt_of_le lt126 (Nat.le_trans (Nat.le_trans hs129 hs135) (Nat.le_of_eq hzO137)))) v73
          replace bO78_0 := ho.box (Nat.ne_of_gt (Nat.lt_of_lt_of_le lt127 (Nat.le_trans (Nat.le_trans hs129 hs135) (Nat.le_of_eq hzO137)))) bO78_0
          replace v132 := ho.va (Nat.ne_of_gt (Nat.lt_of_lt_of_le lt136 (Nat.le_of_eq hzO137))) v132
          have hs142 : X138.heap.size ≤ X141.heap.size := Nat.le_of_eq ho.size.symm
          clear ho hk bO137_0
          have bO137_0 := hv0; clear hv0
          refine ⟨⟨(hX25.cell d1), bO78_0.1⟩, ?_⟩
          refine wd_take 12 (.int .i64 0) hR rfl (by kernel_rfl) rfl (by kernel_rfl) (fun w _ => by kernel_rfl) (⟨(hX25.cell d1), bO78_0.1⟩) ?_
          refine wd_end hL hR hK (by kernel_rfl) ?_
          exact qw_leaf hJ [2, 8, 9, 10, 12, 13, 15, 16, 17] (ws' := [(2, .slice a2 n2 c2), (8, .slice (some ⟨sb, so, none⟩) t17 lc19), (9, .pointer (some ⟨O40, 0, none⟩)), (10, .pointer (some ⟨O44, 0, none⟩)), (12, .pointer (some ⟨O52, 0, none⟩)), (13, .int .i64 (((i : Nat) : Int) : Int)), (15, .int .i64 0), (16, .pointer (some ⟨O137, 0, none⟩)), (17, .int .i64 0)]) (by kernel_rfl) ⟨B130, k131, O137, rfl, hE, hX25, v5, bO10_0, v32, v33, bO40_0, bO44_0, bO52_0, vT, v66, v73, bO78_0, v132, bO137_0, (Nat.le_trans hs129 (Nat.le_trans hs135 (Nat.le_trans hs139 hs142))), (Nat.le_trans hs129 hn133), (Nat.le_trans (Nat.le_trans hs129 hs135) (Nat.le_of_eq hzO137)), Lib.hid (Nat.ne_of_lt (Nat.lt_of_lt_of_le lt136 (Nat.le_of_eq hzO137)))⟩
        ·
          refine sn_new (us := #[.slice none 0 0]) (t := 25) (by kernel_rfl) ?_
          intro O143 X144 hO hOs hb hbx
          have hzO143 := hO; have hyO143 := hOs; clear hO hOs
          have bO143_0 : BoxAt X144 O143 0 (.slice none 0 0) := hbx 0 _ rfl
          clear hbx
          replace hE := hE.trans hb
          replace hX25 := hX25.trans hb
          replace v5 := v5.ext hb
          replace bO10_0 := BoxAt.ext hb bO10_0
          replace v32 := v32.ext hb
          replace v33 := v33.ext hb
          replace bO40_0 := BoxAt.ext hb bO40_0
          replace bO44_0 := BoxAt.ext hb bO44_0
          replace bO52_0 := BoxAt.ext hb bO52_0
          replace vT := vT.ext hb
          replace v66 := v66.ext hb
          replace v73 := v73.ext hb
          replace bO78_0 := BoxAt.ext hb bO78_0
          have hs145 := hb.size
          clear hb
          have lt146 := bO143_0.lt
          refine ⟨⟨(hX25.cell d1), bO78_0.1⟩, ?_⟩
          refine wd_step 6 hR rfl (by kernel_rfl) (by kernel_rfl) (by kernel_rfl) (sn_call (f := 31) (args := #[.agg #[.slice (some ⟨S1, s1, none⟩) 24 e1], .agg #[.slice (some ⟨B71, 0, none⟩) 24 k72]]) (by kernel_rfl) ((Union_v _ _ _ (g1.ext hX25) (Ext.refl _) v73 (Ext.refl _)).mono ?_))
          rintro e w151 ⟨B147, k148, rfl, hn150, -, v149, hb⟩
          replace hE := hE.trans hb
          replace hX25 := hX25.trans hb
          replace v5 := v5.ext hb
          replace bO10_0 := BoxAt.ext hb bO10_0
          replace v32 := v32.ext hb
          replace v33 := v33.ext hb
          replace bO40_0 := BoxAt.ext hb bO40_0
          replace bO44_0 := BoxAt.ext hb bO44_0
          replace bO52_0 := BoxAt.ext hb bO52_0
          replace vT := vT.ext hb
          replace v66 := v66.ext hb
          replace v73 := v73.ext hb
          replace bO78_0 := BoxAt.ext hb bO78_0
          replace bO143_0 := BoxAt.ext hb bO143_0
          have hs152 := hb.size
          clear hb
          have lt153 := v149.lt
          refine ⟨_, rfl, ⟨(hX25.cell d1), bO78_0.1⟩, ?_⟩
          refine wd_take 7 (.tuple #[.agg #[.slice (some ⟨B147, 0, none⟩) 24 k148], .int .i64 0]) hR rfl (by kernel_rfl) rfl (by kernel_rfl) (fun w _ => by kernel_rfl) (⟨(hX25.cell d1), bO78_0.1⟩) ?_
          refine wd_take 8 (.agg #[.slice (some ⟨B147, 0, none⟩) 24 k148]) hR rfl (by kernel_rfl) rfl (by kernel_rfl) (fun w _ => by kernel_rfl) (⟨(hX25.cell d1), bO78_0.1⟩) ?_
          refine wd_take 9 (.int .i64 0) hR rfl (by kernel_rfl) rfl (by kernel_rfl) (fun w _ => by kernel_rfl) (⟨(hX25.cell d1), bO78_0.1⟩) ?_
          refine wd_step 11 hR rfl (by kernel_rfl) (by kernel_rfl) (by kernel_rfl) (sn_set (O := O143) (j := 0) (v := .slice (some ⟨B147, 0, none⟩) 24 k148) (ex_store (p := .pointer (some ⟨O143, 0, none⟩)) (v := .agg #[.slice (some ⟨B147, 0, none⟩) 24 k148]) rfl (by kernel_rfl) (by kernel_rfl) (st25 bO143_0.1 bO143_0.2)) bO143_0 ?_)
          intro X154 ho hv0 hk
          replace hE := ho.ext hE (Nat.le_trans (Nat.le_trans hs2 (Nat.le_trans hs8 (Nat.le_trans hs12 (Nat.le_trans hs15 (Nat.le_trans hs24 (Nat.le_trans hs37 (Nat.le_trans hs42 (Nat.le_trans hs46 (Nat.le_trans hs49 (Nat.le_trans hs51 (Nat.le_trans hs54 (Nat.le_trans hs57 (Nat.le_trans hs58 (Nat.le_trans hn118 hs129)))))))))))))) (Nat.le_of_eq hzO143))
          replace hX25 := ho.ext hX25 (Nat.le_trans (Nat.le_trans hs37 (Nat.le_trans hs42 (Nat.le_trans hs46 (Nat.le_trans hs49 (Nat.le_trans hs51 (Nat.le_trans hs54 (Nat.le_trans hs57 (Nat.le_trans hs58 (Nat.le_trans hn118 hs129))))))))) (Nat.le_of_eq hzO143))
          replace v5 := ho.va (Nat.ne_of_gt (Nat.lt_of_lt_of_le lt9 (Nat.le_trans (Nat.le_trans hs12 (Nat.le_trans hs15 (Nat.le_trans hs24 (Nat.le_trans hs37 (Nat.le_trans hs42 (Nat.le_trans hs46 (Nat.le_trans hs49 (Nat.le_trans hs51 (Nat.le_trans hs54 (Nat.le_trans hs57 (Nat.le_trans hs58 (Nat.le_trans hn118 hs129)))))))))))) (Nat.le_of_eq hzO143)))) v5
          replace bO10_0 := ho.box (Nat.ne_of_gt (Nat.lt_of_lt_of_le lt13 (Nat.le_trans (Nat.le_trans hs15 (Nat.le_trans hs24 (Nat.le_trans hs37 (Nat.le_trans hs42 (Nat.le_trans hs46 (Nat.le_trans hs49 (Nat.le_trans hs51 (Nat.le_trans hs54 (Nat.le_trans hs57 (Nat.le_trans hs58 (Nat.le_trans hn118 hs129))))))))))) (Nat.le_of_eq hzO143)))) bO10_0
          replace v32 := ho.va (Nat.ne_of_gt (Nat.lt_of_lt_of_le lt38 (Nat.le_trans (Nat.le_trans hs42 (Nat.le_trans hs46 (Nat.le_trans hs49 (Nat.le_trans hs51 (Nat.le_trans hs54 (Nat.le_trans hs57 (Nat.le_trans hs58 (Nat.le_trans hn118 hs129)))))))) (Nat.le_of_eq hzO143)))) v32
          replace v33 := ho.va (Nat.ne_of_gt (Nat.lt_of_lt_of_le lt39 (Nat.le_trans (Nat.le_trans hs42 (Nat.le_trans hs46 (Nat.le_trans hs49 (Nat.le_trans hs51 (Nat.le_trans hs54 (Nat.le_trans hs57 (Nat.le_trans hs58 (Nat.le_trans hn118 hs129)))))))) (Nat.le_of_eq hzO143)))) v33
          replace bO40_0 := ho.box (Nat.ne_of_gt (Nat.lt_of_lt_of_le lt43 (Nat.le_trans (Nat.le_trans hs46 (Nat.le_trans hs49 (Nat.le_trans hs51 (Nat.le_trans hs54 (Nat.le_trans hs57 (Nat.le_trans hs58 (Nat.le_trans hn118 hs129))))))) (Nat.le_of_eq hzO143)))) bO40_0
          replace bO44_0 := ho.box (Nat.ne_of_gt (Nat.lt_of_lt_of_le lt47 (Nat.le_trans (Nat.le_trans hs49 (Nat.le_trans hs51 (Nat.le_trans hs54 (Nat.le_trans hs57 (Nat.le_trans hs58 (Nat.le_trans hn118 hs129)))))) (Nat.le_of_eq hzO143)))) bO44_0
          replace bO52_0 := ho.box (Nat.ne_of_gt (Nat.lt_of_lt_of_le lt55 (Nat.le_trans (Nat.le_trans hs57 (Nat.le_trans hs58 (Nat.le_trans hn118 hs129))) (Nat.le_of_eq hzO143)))) bO52_0
          replace vT := ho.va (Nat.ne_of_gt (Nat.lt_of_lt_of_le lt61 (Nat.le_trans (Nat.le_trans hn118 hs129) (Nat.le_of_eq hzO143)))) vT
          replace v66 := ho.va (Nat.ne_of_gt (Nat.lt_of_lt_of_le lt125 (Nat.le_trans hs129 (Nat.le_of_eq hzO143)))) v66
          replace v73 := ho.va (Nat.ne_of_gt (Nat.lt_of_lt_of_le lt126 (Nat.le_trans hs129 (Nat.le_of_eq hzO143)))) v73
          replace bO78_0 := ho.box (Nat.ne_of_gt (Nat.lt_of_lt_of_le lt127 (Nat.le_trans hs129 (Nat.le_of_eq hzO143)))) bO78_0
          replace v149 := ho.va (Nat.ne_of_lt (Nat.lt_of_lt_of_le lt146 hn150)) v149
          have hs155 : w151.heap.size ≤ X154.heap.size := Nat.le_of_eq ho.size.symm
          clear ho hk bO143_0
          have bO143_0 := hv0; clear hv0
          refine ⟨⟨(hX25.cell d1), bO78_0.1⟩, ?_⟩
          refine wd_take 12 (.int .i64 0) hR rfl (by kernel_rfl) rfl (by kernel_rfl) (fun w _ => by kernel_rfl) (⟨(hX25.cell d1), bO78_0.1⟩) ?_
          refine wd_end hL hR hK (by kernel_rfl) ?_
          exact qw_leaf hJ [2, 8, 9, 10, 12, 13, 15, 16, 17] (ws' := [(2, .slice a2 n2 c2), (8, .slice (some ⟨sb, so, none⟩) t17 lc19), (9, .pointer (some ⟨O40, 0, none⟩)), (10, .pointer (some ⟨O44, 0, none⟩)), (12, .pointer (some ⟨O52, 0, none⟩)), (13, .int .i64 (((i : Nat) : Int) : Int)), (15, .int .i64 0), (16, .pointer (some ⟨O143, 0, none⟩)), (17, .int .i64 0)]) (by kernel_rfl) ⟨B147, k148, O143, rfl, hE, hX25, v5, bO10_0, v32, v33, bO40_0, bO44_0, bO52_0, vT, v66, v73, bO78_0, v149, bO143_0, (Nat.le_trans hs129 (Nat.le_trans hs145 (Nat.le_trans hs152 hs155))), (Nat.le_trans (Nat.le_trans hs129 hs145) hn150), (Nat.le_trans hs129 (Nat.le_of_eq hzO143)), Lib.hid (Nat.ne_of_gt (Nat.lt_of_lt_of_le lt146 hn150))⟩
      ·
        clear v5 bO10_0 v32 v33 bO40_0 bO44_0 bO52_0 vT v66 v73 bO78_0 hE hX25
        rintro L ws Y156 ⟨B130, k131, O137, rfl, hE, hX25, v5, bO10_0, v32, v33, bO40_0, bO44_0, bO52_0, vT, v66, v73, bO78_0, v132, bO137_0, hn157, hn158, hn159, hn160⟩
        have lt161 := v132.lt
        have lt162 := bO137_0.lt
        refine qw_then ?_
        refine cw_seq ?_
        refine cw_plain ?_
        refine pl_take (.agg #[.slice (some ⟨B, o, none⟩) 24 k]) rfl (by kernel_rfl) (by kernel_rfl) (by kernel_rfl) (ex_load rfl (by kernel_rfl) (ld25 (bO52_0.1))) ?_
        refine pl_take (.agg #[.slice (some ⟨B130, 0, none⟩) 24 k131]) rfl (by kernel_rfl) (by kernel_rfl) (by kernel_rfl) (ex_load rfl (by kernel_rfl) (ld25 (bO137_0.1))) ?_
        refine pl_step rfl (by kernel_rfl) (by kernel_rfl) (by kernel_rfl) (sn_call (f := 33) (args := #[.agg #[.slice (some ⟨B, o, none⟩) 24 k], .agg #[.slice (some ⟨B130, 0, none⟩) 24 k131]]) (by kernel_rfl) ((Less_v _ _ _ vT (Ext.refl _) v132 (Ext.refl _)).mono ?_))
        rintro e w167 ⟨B163, k164, rfl, hn166, -, v165, hb⟩
        replace hE := hE.trans hb
        replace hX25 := hX25.trans hb
        replace v5 := v5.ext hb
        replace bO10_0 := BoxAt.ext hb bO10_0
        replace v32 := v32.ext hb
        replace v33 := v33.ext hb
        replace bO40_0 := BoxAt.ext hb bO40_0
        replace bO44_0 := BoxAt.ext hb bO44_0
        replace bO52_0 := BoxAt.ext hb bO52_0
        replace vT := vT.ext hb
        replace v66 := v66.ext hb
        replace v73 := v73.ext hb
        replace bO78_0 := BoxAt.ext hb bO78_0
        replace v132 := v132.ext hb
        replace bO137_0 := BoxAt.ext hb bO137_0
        have hs168 := hb.size
        clear hb
        have lt169 := v165.lt
        refine ⟨_, rfl, ?_⟩
        refine pl_take (.tuple #[.agg #[.slice (some ⟨B163, 0, none⟩) 24 k164], .int .i64 0]) rfl (by kernel_rfl) (by kernel_rfl) (by kernel_rfl) (by kernel_rfl) ?_
        refine pl_take (.agg #[.slice (some ⟨B163, 0, none⟩) 24 k164]) rfl (by kernel_rfl) (by kernel_rfl) (by kernel_rfl) (by kernel_rfl) ?_
        refine pl_take (.int .i64 0) rfl (by kernel_rfl) (by kernel_rfl) (by kernel_rfl) (by kernel_rfl) ?_
        refine pl_step rfl (by kernel_rfl) (by kernel_rfl) (by kernel_rfl) (sn_new (us := #[.slice none 0 0]) (t := 25) (by kernel_rfl) ?_)
        intro O170 X171 hO hOs hb hbx
        have hzO170 := hO; have hyO170 := hOs; clear hO hOs
        have bO170_0 : BoxAt X171 O170 0 (.slice none 0 0) := hbx 0 _ rfl
        clear hbx
        replace hE := hE.trans hb
        replace hX25 := hX25.trans hb
        replace v5 := v5.ext hb
        replace bO10_0 := BoxAt.ext hb bO10_0
        replace v32 := v32.ext hb
        replace v33 := v33.ext hb
        replace bO40_0 := BoxAt.ext hb bO40_0
        replace bO44_0 := BoxAt.ext hb bO44_0
        replace bO52_0 := BoxAt.ext hb bO52_0
        replace vT := vT.ext hb
        replace v66 := v66.ext hb
        replace v73 := v73.ext hb
        replace bO78_0 := BoxAt.ext hb bO78_0
        replace v132 := v132.ext hb
        replace bO137_0 := BoxAt.ext hb bO137_0
        replace v165 := v165.ext hb
        have hs172 := hb.size
        clear hb
        have lt173 := bO170_0.lt
        refine pl_put rfl (by kernel_rfl) (by kernel_rfl) (sn_set (O := O170) (j := 0) (v := .slice (some ⟨B163, 0, none⟩) 24 k164) (ex_store (p := .pointer (some ⟨O170, 0, none⟩)) (v := .agg #[.slice (some ⟨B163, 0, none⟩) 24 k164]) rfl (by kernel_rfl) (by kernel_rfl) (st25 bO170_0.1 bO170_0.2)) bO170_0 ?_)
        intro X174 ho hv0 hk
        replace hE := ho.ext hE (Nat.le_trans (Nat.le_trans hs2 (Nat.le_trans hs8 (Nat.le_trans hs12 (Nat.le_trans hs15 (Nat.le_trans hs24 (Nat.le_trans hs37 (Nat.le_trans hs42 (Nat.le_trans hs46 (Nat.le_trans hs49 (Nat.le_trans hs51 (Nat.le_trans hs54 (Nat.le_trans hs57 (Nat.le_trans hs58 (Nat.le_trans hn118 (Nat.le_trans hn157 hs168))))))))))))))) (Nat.le_of_eq hzO170))
        replace hX25 := ho.ext hX25 (Nat.le_trans (Nat.le_trans hs37 (Nat.le_trans hs42 (Nat.le_trans hs46 (Nat.le_trans hs49 (Nat.le_trans hs51 (Nat.le_trans hs54 (Nat.le_trans hs57 (Nat.le_trans hs58 (Nat.le_trans hn118 (Nat.le_trans hn157 hs168)))))))))) (Nat.le_of_eq hzO170))
        replace v5 := ho.va (Nat.ne_of_gt (Nat.lt_of_lt_of_le lt9 (Nat.le_trans (Nat.le_trans hs12 (Nat.le_trans hs15 (Nat.le_trans hs24 (Nat.le_trans hs37 (Nat.le_trans hs42 (Nat.le_trans hs46 (Nat.le_trans hs49 (Nat.le_trans hs51 (Nat.le_trans hs54 (Nat.le_trans hs57 (Nat.le_trans hs58 (Nat.le_trans hn118 (Nat.le_trans hn157 hs168))))))))))))) (Nat.le_of_eq hzO170)))) v5
        replace bO10_0 := ho.box (Nat.ne_of_gt (Nat.lt_of_lt_of_le lt13 (Nat.le_trans (Nat.le_trans hs15 (Nat.le_trans hs24 (Nat.le_trans hs37 (Nat.le_trans hs42 (Nat.le_trans hs46 (Nat.le_trans hs49 (Nat.le_trans hs51 (Nat.le_trans hs54 (Nat.le_trans hs57 (Nat.le_trans hs58 (Nat.le_trans hn118 (Nat.le_trans hn157 hs168)))))))))))) (Nat.le_of_eq hzO170)))) bO10_0
        replace v32 := ho.va (Nat.ne_of_gt (Nat.lt_of_lt_of_le lt38 (Nat.le_trans (Nat.le_trans hs42 (Nat.le_trans hs46 (Nat.le_trans hs49 (Nat.le_trans hs51 (Nat.le_trans hs54 (Nat.le_trans hs57 (Nat.le_trans hs58 (Nat.le_trans hn118 (Nat.le_trans hn157 hs168))))))))) (Nat.le_of_eq hzO170)))) v32
        replace v33 := ho.va (Nat.ne_of_gt (Nat.lt_of_lt_of_le lt39 (Nat.le_trans (Nat.le_trans hs42 (Nat.le_trans hs46 (Nat.le_trans hs49 (Nat.le_trans hs51 (Nat.le_trans hs54 (Nat.le_trans hs57 (Nat.le_trans hs58 (Nat.le_trans hn118 (Nat.le_trans hn157 hs168))))))))) (Nat.le_of_eq hzO170)))) v33
        replace bO40_0 := ho.box (Nat.ne_of_gt (Nat.lt_of_lt_of_le lt43 (Nat.le_trans (Nat.le_trans hs46 (Nat.le_trans hs49 (Nat.le_trans hs51 (Nat.le_trans hs54 (Nat.le_trans hs57 (Nat.le_trans hs58 (Nat.le_trans hn118 (Nat.le_trans hn157 hs168)))))))) (Nat.le_of_eq hzO170)))) bO40_0
        replace bO44_0 := ho.box (Nat.ne_of_gt (Nat.lt_of_lt_of_le lt47 (Nat.le_trans (Nat.le_trans hs49 (Nat.le_trans hs51 (Nat.le_trans hs54 (Nat.le_trans hs57 (Nat.le_trans hs58 (Nat.le_trans hn118 (Nat.le_trans hn157 hs168))))))) (Nat.le_of_eq hzO170)))) bO44_0
        replace bO52_0 := ho.box (Nat.ne_of_gt (Nat.lt_of_lt_of_le lt55 (Nat.le_trans (Nat.le_trans hs57 (Nat.le_trans hs58 (Nat.le_trans hn118 (Nat.le_trans hn157 hs168)))) (Nat.le_of_eq hzO170)))) bO52_0
        replace vT := ho.va (Nat.ne_of_gt (Nat.lt_of_lt_of_le lt61 (Nat.le_trans (Nat.le_trans hn118 (Nat.le_trans hn157 hs168)) (Nat.le_of_eq hzO170)))) vT
        replace v66 := ho.va (Nat.ne_of_gt (Nat.lt_of_lt_of_le lt125 (Nat.le_trans (Nat.le_trans hn157 hs168) (Nat.le_of_eq hzO170)))) v66
        replace v73 := ho.va (Nat.ne_of_gt (Nat.lt_of_lt_of_le lt126 (Nat.le_trans (Nat.le_trans hn157 hs168) (Nat.le_of_eq hzO170)))) v73
        replace bO78_0 := ho.box (Nat.ne_of_gt (Nat.lt_of_lt_of_le lt127 (Nat.le_trans (Nat.le_trans hn157 hs168) (Nat.le_of_eq hzO170)))) bO78_0
        replace v132 := ho.va (Nat.ne_of_gt (Nat.lt_of_lt_of_le lt161 (Nat.le_trans hs168 (Nat.le_of_eq hzO170)))) v132
        replace bO137_0 := ho.box (Nat.ne_of_gt (Nat.lt_of_lt_of_le lt162 (Nat.le_trans hs168 (Nat.le_of_eq hzO170)))) bO137_0
        replace v165 := ho.va (Nat.ne_of_gt (Nat.lt_of_lt_of_le lt169 (Nat.le_of_eq hzO170))) v165
        have hs175 : X171.heap.size ≤ X174.heap.size := Nat.le_of_eq ho.size.symm
        clear ho hk bO170_0
        have bO170_0 := hv0; clear hv0
        refine pl_take (.int .i64 0) rfl (by kernel_rfl) (by kernel_rfl) (by kernel_rfl) (by kernel_rfl) ?_
        refine pl_nil ?_
        refine qw_then ?_
        refine cw_clean [2, 8, 9, 10, 12, 13, 15, 17, 18, 19] (ws' := [(2, .slice a2 n2 c2), (8, .slice (some ⟨sb, so, none⟩) t17 lc19), (9, .pointer (some ⟨O40, 0, none⟩)), (10, .pointer (some ⟨O44, 0, none⟩)), (12, .pointer (some ⟨O52, 0, none⟩)), (13, .int .i64 (((i : Nat) : Int) : Int)), (15, .int .i64 0), (17, .int .i64 0), (18, .pointer (some ⟨O170, 0, none⟩)), (19, .int .i64 0)]) (by kernel_rfl) (fun L => ?_)
        refine cw_seq ?_
        refine cw_seq ?_
        refine cw_plain ?_
        refine pl_take (.int .i64 0) rfl (by kernel_rfl) (by kernel_rfl) (by kernel_rfl) (by kernel_rfl) ?_
        refine pl_take (.bool false) rfl (by kernel_rfl) (by kernel_rfl) (by kernel_rfl) (by kernel_rfl) ?_
        refine pl_take (.bool false) rfl (by kernel_rfl) (by kernel_rfl) (by kernel_rfl) (by kernel_rfl) ?_
        refine pl_take (.int .i64 0) rfl (by kernel_rfl) (by kernel_rfl) (by kernel_rfl) (by kernel_rfl) ?_
        refine pl_take (.bool false) rfl (by kernel_rfl) (by kernel_rfl) (by kernel_rfl) (by kernel_rfl) ?_
        refine pl_take (.bool false) rfl (by kernel_rfl) (by kernel_rfl) (by kernel_rfl) (by kernel_rfl) ?_
        refine pl_take (.bool false) rfl (by kernel_rfl) (by kernel_rfl) (by kernel_rfl) (by kernel_rfl) ?_
        refine pl_take (.int .i64 0) rfl (by kernel_rfl) (by kernel_rfl) (by kernel_rfl) (by kernel_rfl) ?_
        refine pl_take (.bool false) rfl (by kernel_rfl) (by kernel_rfl) (by kernel_rfl) (by kernel_rfl) ?_
        refine pl_take (.bool false) rfl (by kernel_rfl) (by kernel_rfl) (by kernel_rfl) (by kernel_rfl) ?_
        refine pl_nil ?_
        refine qw_then ?_
        refine cw_clean [2, 8, 9, 10, 12, 13, 18, 83] (ws' := [(2, .slice a2 n2 c2), (8, .slice (some ⟨sb, so, none⟩) t17 lc19), (9, .pointer (some ⟨O40, 0, none⟩)), (10, .pointer (some ⟨O44, 0, none⟩)), (12, .pointer (some ⟨O52, 0, none⟩)), (13, .int .i64 (((i : Nat) : Int) : Int)), (18, .pointer (some ⟨O170, 0, none⟩)), (83, .bool false)]) (by kernel_rfl) (fun L => ?_)
        refine cw_f (by kernel_rfl) ?_
        refine cw_skip ?_
        refine qw_then ?_
        refine cw_plain ?_
        refine pl_take (.agg #[.slice (some ⟨B163, 0, none⟩) 24 k164]) rfl (by kernel_rfl) (by kernel_rfl) (by kernel_rfl) (ex_load rfl (by kernel_rfl) (ld25 (bO170_0.1))) ?_
        refine pl_put rfl (by kernel_rfl) (by kernel_rfl) (sn_set (O := O52) (j := 0) (v := .slice (some ⟨B163, 0, none⟩) 24 k164) (ex_store (p := .pointer (some ⟨O52, 0, none⟩)) (v := .agg #[.slice (some ⟨B163, 0, none⟩) 24 k164]) rfl (by kernel_rfl) (by kernel_rfl) (st25 bO52_0.1 bO52_0.2)) bO52_0 ?_)
        intro X176 ho hv0 hk
        replace hE := ho.ext hE (Nat.le_trans (Nat.le_trans hs2 (Nat.le_trans hs8 (Nat.le_trans hs12 (Nat.le_trans hs15 (Nat.le_trans hs24 (Nat.le_trans hs37 (Nat.le_trans hs42 (Nat.le_trans hs46 (Nat.le_trans hs49 hs51))))))))) (Nat.le_of_eq hzO52))
        replace hX25 := ho.ext hX25 (Nat.le_trans (Nat.le_trans hs37 (Nat.le_trans hs42 (Nat.le_trans hs46 (Nat.le_trans hs49 hs51)))) (Nat.le_of_eq hzO52))
        replace v5 := ho.va (Nat.ne_of_gt (Nat.lt_of_lt_of_le lt9 (Nat.le_trans (Nat.le_trans hs12 (Nat.le_trans hs15 (Nat.le_trans hs24 (Nat.le_trans hs37 (Nat.le_trans hs42 (Nat.le_trans hs46 (Nat.le_trans hs49 hs51))))))) (Nat.le_of_eq hzO52)))) v5
        replace bO10_0 := ho.box (Nat.ne_of_gt (Nat.lt_of_lt_of_le lt13 (Nat.le_trans (Nat.le_trans hs15 (Nat.le_trans hs24 (Nat.le_trans hs37 (Nat.le_trans hs42 (Nat.le_trans hs46 (Nat.le_trans hs49 hs51)))))) (Nat.le_of_eq hzO52)))) bO10_0
        replace v32 := ho.va (Nat.ne_of_gt (Nat.lt_of_lt_of_le lt38 (Nat.le_trans (Nat.le_trans hs42 (Nat.le_trans hs46 (Nat.le_trans hs49 hs51))) (Nat.le_of_eq hzO52)))) v32
        replace v33 := ho.va (Nat.ne_of_gt (Nat.lt_of_lt_of_le lt39 (Nat.le_trans (Nat.le_trans hs42 (Nat.le_trans hs46 (Nat.le_trans hs49 hs51))) (Nat.le_of_eq hzO52)))) v33
        replace bO40_0 := ho.box (Nat.ne_of_gt (Nat.lt_of_lt_of_le lt43 (Nat.le_trans (Nat.le_trans hs46 (Nat.le_trans hs49 hs51)) (Nat.le_of_eq hzO52)))) bO40_0
        replace bO44_0 := ho.box (Nat.ne_of_gt (Nat.lt_of_lt_of_le lt47 (Nat.le_trans (Nat.le_trans hs49 hs51) (Nat.le_of_eq hzO52)))) bO44_0
        replace vT := ho.va hne.out vT
        replace v66 := ho.va (Nat.ne_of_lt (Nat.lt_of_lt_of_le lt55 (Nat.le_trans (Nat.le_trans hs57 hs58) hn119))) v66
        replace v73 := ho.va (Nat.ne_of_lt (Nat.lt_of_lt_of_le lt55 (Nat.le_trans (Nat.le_trans hs57 hs58) hn120))) v73
        replace bO78_0 := ho.box (Nat.ne_of_lt (Nat.lt_of_lt_of_le lt55 (Nat.le_trans (Nat.le_trans hs57 hs58) hn121))) bO78_0
        replace v132 := ho.va (Nat.ne_of_lt (Nat.lt_of_lt_of_le lt55 (Nat.le_trans (Nat.le_trans hs57 (Nat.le_trans hs58 hn118)) hn158))) v132
        replace bO137_0 := ho.box (Nat.ne_of_lt (Nat.lt_of_lt_of_le lt55 (Nat.le_trans (Nat.le_trans hs57 (Nat.le_trans hs58 hn118)) hn159))) bO137_0
        replace v165 := ho.va (Nat.ne_of_lt (Nat.lt_of_lt_of_le lt55 (Nat.le_trans (Nat.le_trans hs57 (Nat.le_trans hs58 (Nat.le_trans hn118 hn157))) hn166))) v165
        replace bO170_0 := ho.box (Nat.ne_of_lt (Nat.lt_of_lt_of_le lt55 (Nat.le_trans (Nat.le_trans hs57 (Nat.le_trans hs58 (Nat.le_trans hn118 (Nat.le_trans hn157 hs168)))) (Nat.le_of_eq hzO170)))) bO170_0
        have hs177 : X174.heap.size ≤ X176.heap.size := Nat.le_of_eq ho.size.symm
        clear ho hk bO52_0
        have bO52_0 := hv0; clear hv0
        refine pl_nil ?_
        refine qw_block ?_
        refine qw_then ?_
        refine cw_plain ?_
        refine pl_take (.int .i64 (((i : Nat) : Int) : Int)) rfl (by kernel_rfl) (by kernel_rfl) (by kernel_rfl) (by kernel_rfl) ?_
        refine pl_take (.int .i64 (((i + 1 : Nat) : Int) : Int)) rfl (by kernel_rfl) (by kernel_rfl) (by kernel_rfl) (ev_wrap (by kernel_rfl) (by omega) (by omega)) ?_
        refine pl_take (.int .i64 (((i + 1 : Nat) : Int) : Int)) rfl (by kernel_rfl) (by kernel_rfl) (by kernel_rfl) (by kernel_rfl) ?_
        refine pl_nil ?_
        refine qw_round [2, 8, 9, 10, 12, 13] (ws' := [(2, .slice a2 n2 c2), (8, .slice (some ⟨sb, so, none⟩) t17 lc19), (9, .pointer (some ⟨O40, 0, none⟩)), (10, .pointer (some ⟨O44, 0, none⟩)), (12, .pointer (some ⟨O52, 0, none⟩)), (13, .int .i64 (((i + 1 : Nat) : Int) : Int))]) (by kernel_rfl) _ ?_ ⟨(i + 1), B163, 0, k164, (Globe.lessL T (Globe.unionL s.1 (Globe.meetL s.2 (areaL (fun i j => q2 (i + M) j) (n2 - M))))), rfl, rfl, (Nat.le_trans hs58 (Nat.le_trans hn118 (Nat.le_trans hn157 (Nat.le_trans hs168 (Nat.le_trans hs172 (Nat.le_trans hs175 hs177)))))), hE, hX25, v5, bO10_0, v32, v33, bO40_0, bO44_0, bO52_0, v165, by omega, Lib.hid (Nat.ne_of_lt (Nat.lt_of_lt_of_le lt55 (Nat.le_trans (Nat.le_trans hs57 (Nat.le_trans hs58 (Nat.le_trans hn118 hn157))) hn166))), (by rw [hl1, hl2]; exact Globe.between_step q3' (area_valid _ _) Hbt.1 Hbt.2)⟩
        omega
  ·
    have hit : i = t17 := by omega
    have hbt := Hbt
    rw [hit, List.take_of_length_le (by rw [List.length_map, sS20.1]; exact Nat.le_refl _), List.take_of_length_le (by rw [List.length_map, sS20.1]; exact Nat.le_refl _)] at hbt
    refine cw_seq ?_
    refine cw_seq ?_
    refine cw_plain ?_
    refine pl_take (.int .i64 (((i : Nat) : Int) : Int)) rfl (by kernel_rfl) (by kernel_rfl) (by kernel_rfl) (by kernel_rfl) ?_
    refine pl_take (.slice la18 t17 lc19) rfl (by kernel_rfl) (by kernel_rfl) (by kernel_rfl) (by kernel_rfl) ?_
    refine pl_take (.int .i64 (((t17 : Nat) : Int) : Int)) rfl (by kernel_rfl) (by kernel_rfl) (by kernel_rfl) (by kernel_rfl) ?_
    refine pl_take (.bool false) rfl (by kernel_rfl) (by kernel_rfl) (by kernel_rfl) (ev_ndec (show _ = Result.ok (Next.value (Value.bool (decide ((((i : Nat) : Int) : Int) < (((t17 : Nat) : Int) : Int))))) _ from by kernel_rfl) (by omega)) ?_
    refine pl_nil ?_
    refine qw_then ?_
    refine cw_f (by kernel_rfl) ?_
    refine cw_exit ?_
    refine qw_then_exit ?_
    refine qw_then_exit ?_
    refine qw_block_out ?_
    refine qw_then ?_
    refine cw_seq ?_
    refine cw_plain ?_
    refine pl_take (.agg #[.slice (some ⟨B, o, none⟩) 24 k]) rfl (by kernel_rfl) (by kernel_rfl) (by kernel_rfl) (ex_load rfl (by kernel_rfl) (ld25 (bO52_0.1))) ?_
    refine pl_take (.agg #[.slice (some ⟨B26, o27, none⟩) 24 k28]) rfl (by kernel_rfl) (by kernel_rfl) (by kernel_rfl) (ex_load rfl (by kernel_rfl) (ld25 (bO40_0.1))) ?_
    refine pl_step rfl (by kernel_rfl) (by kernel_rfl) (by kernel_rfl) (sn_call (f := 32) (args := #[.agg #[.slice (some ⟨B, o, none⟩) 24 k], .agg #[.slice (some ⟨B26, o27, none⟩) 24 k28]]) (by kernel_rfl) ((Contains_r _ _ _ vT (Ext.refl _) v32 (Ext.refl _) hbt.1).mono ?_))
    rintro e w178 ⟨rfl, hb⟩
    replace hE := hE.trans hb
    replace hX25 := hX25.trans hb
    replace v5 := v5.ext hb
    replace bO10_0 := BoxAt.ext hb bO10_0
    replace v32 := v32.ext hb
    replace v33 := v33.ext hb
    replace bO40_0 := BoxAt.ext hb bO40_0
    replace bO44_0 := BoxAt.ext hb bO44_0
    replace bO52_0 := BoxAt.ext hb bO52_0
    replace vT := vT.ext hb
    have hs179 := hb.size
    clear hb
    refine ⟨_, rfl, ?_⟩
    refine pl_take (.bool true) rfl (by kernel_rfl) (by kernel_rfl) (by kernel_rfl) (by kernel_rfl) ?_
    refine pl_take (.agg #[.slice (some ⟨B29, o30, none⟩) 24 k31]) rfl (by kernel_rfl) (by kernel_rfl) (by kernel_rfl) (ex_load rfl (by kernel_rfl) (ld25 (bO44_0.1))) ?_
    refine pl_take (.agg #[.slice (some ⟨B, o, none⟩) 24 k]) rfl (by kernel_rfl) (by kernel_rfl) (by kernel_rfl) (ex_load rfl (by kernel_rfl) (ld25 (bO52_0.1))) ?_
    refine pl_step rfl (by kernel_rfl) (by kernel_rfl) (by kernel_rfl) (sn_call (f := 32) (args := #[.agg #[.slice (some ⟨B29, o30, none⟩) 24 k31], .agg #[.slice (some ⟨B, o, none⟩) 24 k]]) (by kernel_rfl) ((Contains_r _ _ _ v33 (Ext.refl _) vT (Ext.refl _) hbt.2).mono ?_))
    rintro e w180 ⟨rfl, hb⟩
    replace hE := hE.trans hb
    replace hX25 := hX25.trans hb
    replace v5 := v5.ext hb
    replace bO10_0 := BoxAt.ext hb bO10_0
    replace v32 := v32.ext hb
    replace v33 := v33.ext hb
    replace bO40_0 := BoxAt.ext hb bO40_0
    replace bO44_0 := BoxAt.ext hb bO44_0
    replace bO52_0 := BoxAt.ext hb bO52_0
    replace vT := vT.ext hb
    have hs181 := hb.size
    clear hb
    refine ⟨_, rfl, ?_⟩
    refine pl_take (.bool true) rfl (by kernel_rfl) (by kernel_rfl) (by kernel_rfl) (by kernel_rfl) ?_
    refine pl_take (.bool true) rfl (by kernel_rfl) (by kernel_rfl) (by kernel_rfl) (by kernel_rfl) ?_
    refine pl_nil ?_
    refine qw_then ?_
    refine cw_clean [6] (ws' := [(6, .bool true)]) (by kernel_rfl) (fun L => ?_)
    refine cw_ret ?_
    refine qw_ret [.bool true] rfl ⟨(by kernel_rfl), trivial⟩ ?_
    exact ⟨rfl, hE⟩

end Go.Proofs.YtglfoglkdbbmmaaDoor
