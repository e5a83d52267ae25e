/- The statement CoverChecked: for every input that the row lists, the law returns true, and every argument reads as it read before. -/
import Derived.Test.YtglfoglkdbbmmaaDoorV4CoverChecked
/- The walk of the law CoverChecked. -/
namespace Go.Proofs.YtglfoglkdbbmmaaDoor
open Go.RowKit Go.Shelf

namespace Globe
theorem check_pieces_cover : ∀ (l ps : List (List Int)) {a : List Int}, validL a = true → checkL a l ps = true → ∀ x y, x < 48 → y < 24 → hasL a x y = true → ∃ p ∈ ps, hasL p x y = true
  | [], [], a, ha, h, x, y, hx, hy, hh => by
    have := (zero_iff ha).1 (by simpa [checkL] using h) x y hx hy
    rw [this] at hh; cases hh
  | s :: ss, p :: ps, a, ha, h, x, y, hx, hy, hh => by
    simp only [checkL, Bool.and_eq_true] at h
    cases hp : hasL p x y
    · obtain ⟨q, hq, e⟩ := check_pieces_cover ss ps (less_valid ha) h.2 x y hx hy (by rw [has_less hy, hh, hp]; rfl)
      exact ⟨q, by simp [hq], e⟩
    · exact ⟨p, by simp, hp⟩
  | [], _ :: _, _, _, h, _, _, _, _, _ => by cases h
  | _ :: _, [], _, _, h, _, _, _, _, _ => by cases h
theorem pieces_sub : ∀ (l : List (List Int)) {a p : List Int}, p ∈ piecesL a l → ∀ x y, y < 24 → hasL p x y = true → hasL a x y = true
  | s :: r, a, p, hp, x, y, hy, hh => by
    rcases List.mem_cons.1 hp with rfl | hp
    · rw [has_meet hy] at hh; exact (Bool.and_eq_true_iff.1 hh).1
    · have := pieces_sub r hp x y hy hh
      rw [has_less hy] at this; exact (Bool.and_eq_true_iff.1 this).1
/-- An area with one cell turned. -/
def togL (p : List Int) (r c : Nat) : List Int := p.set r ((rowN p r ^^^ 2 ^ c : Nat) : Int)
theorem has_tog {p : List Int} {r c : Nat} (h : r < p.length) (x y : Nat) : hasL (togL p r c) x y = if r = y then (hasL p x y ^^ decide (c = x)) else hasL p x y := by
  unfold hasL togL
  rw [nth_set y h]
  split
  · rename_i e; subst e
    rw [Int.toNat_natCast, Nat.testBit_xor, Nat.testBit_two_pow]; rfl
  · rfl
theorem xor_lt {R c : Nat} (h : R < 281474976710656) (hc : c < 48) : R ^^^ 2 ^ c < 281474976710656 := Nat.xor_lt_two_pow (n := 48) h (Nat.pow_lt_pow_right (by decide) hc)
theorem tog_valid {p : List Int} (h : validL p = true) {r c : Nat} (hc : c < 48) : validL (togL p r c) = true := by
  have := xor_lt (rowN_lt h r) hc
  exact valid_set h (by omega) (by omega)
/-- Pieces of which one is turned in a cell are not accepted. -/
theorem check_turned : ∀ (l : List (List Int)) {a : List Int}, validL a = true → (∀ s ∈ l, validL s = true) → ∀ {k r c : Nat} {p : List Int}, (piecesL a l)[k]? = some p → r < 24 → c < 48 → checkL a l ((piecesL a l).set k (togL p r c)) = false
  | [], _, _, _, k, r, c, p, hp, _, _ => by simp [piecesL] at hp
  | s :: ss, a, ha, hl, 0, r, c, p, hp, hr, hc => by
    obtain rfl : meetL a s = p := by simpa [piecesL] using hp
    have hlen : r < (meetL a s).length := by rw [len_of_valid (meet_valid ha)]; exact hr
    show (containsB s (togL (meetL a s) r c) && containsB a (togL (meetL a s) r c) && checkL (lessL a (togL (meetL a s) r c)) ss (piecesL (lessL a s) ss)) = false
    cases h1 : containsB s (togL (meetL a s) r c)
    · rfl
    cases h2 : containsB a (togL (meetL a s) r c)
    · rfl
    cases h3 : checkL (lessL a (togL (meetL a s) r c)) ss (piecesL (lessL a s) ss)
    · rfl
    exfalso
    have ht := has_tog (c := c) hlen c r
    rw [if_pos rfl, decide_eq_true rfl] at ht
    cases hm : hasL (meetL a s) c r
    · rw [hm] at ht
      have q1 := contains_has h1 hc hr (by rw [ht]; rfl)
      have q2 := contains_has h2 hc hr (by rw [ht]; rfl)
      rw [has_meet hr, q1, q2] at hm; cases hm
    · rw [hm] at ht
      rw [has_meet hr] at hm
      obtain ⟨m1, m2⟩ := Bool.and_eq_true_iff.1 hm
      obtain ⟨q, hq, e⟩ := check_pieces_cover ss _ (less_valid ha) h3 c r hc hr (by rw [has_less hr, m1, ht]; rfl)
      have := pieces_sub ss hq c r hr e
      rw [has_less hr, m2] at this; simp at this
  | s :: ss, a, ha, hl, k + 1, r, c, p, hp, hr, hc => by
    have ih := check_turned ss (less_valid (b := s) ha) (fun t ht => hl t (by simp [ht])) (k := k) (r := r) (c := c) (p := p) (by simpa [piecesL] using hp) hr hc
    show (containsB s (meetL a s) && containsB a (meetL a s) && checkL (lessL a (meetL a s)) ss ((piecesL (lessL a s) ss).set k (togL p r c))) = false
    rw [less_meet ha, ih, Bool.and_false]
end Globe
theorem xor_i64 (a b : Nat) (ha : a < 4611686018427387904) (hb : b < 4611686018427387904) : bits .xor .i64 (a : Int) (b : Int) = ((a ^^^ b : Nat) : Int) := by
  show IntKind.i64.wrap ((BitVec.ofInt 64 (a : Int) ^^^ BitVec.ofInt 64 (b : Int)).toNat : Int) = _
  have e : (BitVec.ofInt 64 (a : Int) ^^^ BitVec.ofInt 64 (b : Int)).toNat = a ^^^ b := by
    rw [BitVec.toNat_xor, BitVec.ofInt_natCast, BitVec.ofInt_natCast, BitVec.toNat_ofNat, BitVec.toNat_ofNat, Nat.mod_eq_of_lt (by omega), Nat.mod_eq_of_lt (by omega)]
  have h2 : a ^^^ b < 2 ^ 62 := Nat.xor_lt_two_pow ha hb
  rw [e, IntKind.wrap_i64]
  omega
theorem check_of {l : List Int} {ss : List (List Int × List Int)} {ps : List (List Int)} (h : checkB l ss ps = true) : Globe.checkL l (ss.map fun s => s.1) ps = true := by
  unfold checkB at h; simp only [Bool.and_eq_true] at h; exact h.2.2.2
theorem check_b {LA : List Int} {ss : List (List Int × List Int)} {ps : List (List Int)} {b : Bool} (h : Globe.checkL LA (ss.map fun s => s.1) ps = b) (hv : Globe.validL LA = true) (hok : Globe.stripsOk ss = true) (hl : ps.length = ss.length) : checkB LA ss ps = b := by
  unfold checkB; rw [h, hv, hok, hl]; simp
set_option maxRecDepth 1000000 in
set_option maxHeartbeats 4000000 in
theorem CoverChecked_walk (w : World) (v0 : Value) (o0 : Quads w v0) (v1 : Value) (o1 : Quads w v1) (v2 : Value) (o2 : Quads w v2) (i3 : Int) (hi3 : IsI i3) (v4 : Value) (o4 : Pair v4) (hT : Tab w) :
    Calls Tryd.prog 4 #[v0, v1, v2, .int .i64 i3, v4] w fun e w' => e = .returned (.bool true) ∧ Ext w w' := by
  obtain ⟨a0, n0, c0, q0, rfl, hnc0, hcm0, hz0, Q0⟩ := o0
  obtain ⟨a1, n1, c1, q1, rfl, hnc1, hcm1, hz1, Q1⟩ := o1
  obtain ⟨a2, n2, c2, q2, rfl, hnc2, hcm2, hz2, Q2⟩ := o2
  obtain ⟨x4, y4, rfl, hx4, hy4⟩ := o4
  refine calls_cw 162 [(4, .agg #[.int .i64 (x4 : Int), .int .i64 (y4 : Int)]), (3, .int .i64 (i3 : Int)), (2, .slice a2 n2 c2), (1, .slice a1 n1 c1), (0, .slice a0 n0 c0)] Tryd.func4 rfl Tryd.ntmps4 (by kernel_rfl) (by kernel_rfl) (fun L => ?_)
  have hE : Ext w w := Ext.refl w
  refine cw_seq ?_
  refine cw_plain ?_
  refine pl_step rfl (by kernel_rfl) (by kernel_rfl) (by kernel_rfl) (sn_new (us := #[.int .i64 (x4 : Int), .int .i64 (y4 : Int)]) (t := 50) (by kernel_rfl) ?_)
  intro O1 X2 hO hOs hb hbx
  have hzO1 := hO; have hyO1 := hOs; clear hO hOs
  have bO1_0 : BoxAt X2 O1 0 (.int .i64 (x4 : Int)) := hbx 0 _ rfl
  have bO1_1 : BoxAt X2 O1 1 (.int .i64 (y4 : Int)) := hbx 1 _ rfl
  clear hbx
  replace hE := hE.trans hb
  have hs3 := hb.size
  clear hb
  have lt4 := bO1_0.lt
  refine pl_take (.bool false) rfl (by kernel_rfl) (by kernel_rfl) (by kernel_rfl) (by kernel_rfl) ?_
  refine pl_nil ?_
  refine qw_then ?_
  refine cw_seq ?_
  refine cw_seq ?_
  refine cw_plain ?_
  refine pl_step rfl (by kernel_rfl) (by kernel_rfl) (by kernel_rfl) (sn_call (f := 10) (args := #[]) (by kernel_rfl) ((sane_c _ (hT.ext hE)).mono ?_))
  rintro e w5 ⟨rfl, hb⟩
  replace hE := hE.trans hb
  replace bO1_0 := BoxAt.ext hb bO1_0
  replace bO1_1 := BoxAt.ext hb bO1_1
  have hs6 := hb.size
  clear hb
  refine ⟨_, rfl, ?_⟩
  refine pl_take (.bool false) rfl (by kernel_rfl) (by kernel_rfl) (by kernel_rfl) (by kernel_rfl) ?_
  refine pl_nil ?_
  refine qw_then ?_
  refine cw_f (by kernel_rfl) ?_
  refine cw_skip ?_
  refine qw_then ?_
  refine cw_seq ?_
  refine cw_plain ?_
  refine pl_take (.slice a0 n0 c0) rfl (by kernel_rfl) (by kernel_rfl) (by kernel_rfl) (by kernel_rfl) ?_
  refine pl_step rfl (by kernel_rfl) (by kernel_rfl) (by kernel_rfl) (sn_call (f := 11) (args := #[.slice a0 n0 c0]) (by kernel_rfl) ((Area_c _ _ Q0 hE (by omega)).mono ?_))
  rintro e w11 ⟨B7, k8, rfl, hn10, v9, hb⟩
  replace hE := hE.trans hb
  replace bO1_0 := BoxAt.ext hb bO1_0
  replace bO1_1 := BoxAt.ext hb bO1_1
  have hs12 := hb.size
  clear hb
  have lt13 := v9.lt
  refine ⟨_, rfl, ?_⟩
  refine pl_step rfl (by kernel_rfl) (by kernel_rfl) (by kernel_rfl) (sn_new (us := #[.slice none 0 0]) (t := 25) (by kernel_rfl) ?_)
  intro O14 X15 hO hOs hb hbx
  have hzO14 := hO; have hyO14 := hOs; clear hO hOs
  have bO14_0 : BoxAt X15 O14 0 (.slice none 0 0) := hbx 0 _ rfl
  clear hbx
  replace hE := hE.trans hb
  replace bO1_0 := BoxAt.ext hb bO1_0
  replace bO1_1 := BoxAt.ext hb bO1_1
  replace v9 := v9.ext hb
  have hs16 := hb.size
  clear hb
  have lt17 := bO14_0.lt
  refine pl_put rfl (by kernel_rfl) (by kernel_rfl) (sn_set (O := O14) (j := 0) (v := .slice (some ⟨B7, 0, none⟩) 24 k8) (ex_store (p := .pointer (some ⟨O14, 0, none⟩)) (v := .agg #[.slice (some ⟨B7, 0, none⟩) 24 k8]) rfl (by kernel_rfl) (by kernel_rfl) (st25 bO14_0.1 bO14_0.2)) bO14_0 ?_)
  intro X18 ho hv0 hk
  replace hE := ho.ext hE (Nat.le_trans (Nat.le_trans hs3 (Nat.le_trans hs6 hs12)) (Nat.le_of_eq hzO14))
  replace bO1_0 := ho.box (Nat.ne_of_gt (Nat.lt_of_lt_of_le lt4 (Nat.le_trans (Nat.le_trans hs6 hs12) (Nat.le_of_eq hzO14)))) bO1_0
  replace bO1_1 := ho.box (Nat.ne_of_gt (Nat.lt_of_lt_of_le lt4 (Nat.le_trans (Nat.le_trans hs6 hs12) (Nat.le_of_eq hzO14)))) bO1_1
  replace v9 := ho.va (Nat.ne_of_gt (Nat.lt_of_lt_of_le lt13 (Nat.le_of_eq hzO14))) v9
  have hs19 : X15.heap.size ≤ X18.heap.size := Nat.le_of_eq ho.size.symm
  clear ho hk bO14_0
  have bO14_0 := hv0; clear hv0
  refine pl_nil ?_
  refine qw_then ?_
  refine cw_seq ?_
  refine cw_plain ?_
  refine pl_take (.slice a1 n1 c1) rfl (by kernel_rfl) (by kernel_rfl) (by kernel_rfl) (by kernel_rfl) ?_
  refine pl_step rfl (by kernel_rfl) (by kernel_rfl) (by kernel_rfl) (sn_call (f := 12) (args := #[.slice a1 n1 c1]) (by kernel_rfl) ((Strips_s _ Q1 hE (by omega) (by omega)).mono ?_))
  rintro e w27 ⟨ss20, t21, la22, lc23, rfl, sS24, hok25, ht26, hb⟩
  replace hE := hE.trans hb
  replace bO1_0 := BoxAt.ext hb bO1_0
  replace bO1_1 := BoxAt.ext hb bO1_1
  replace v9 := v9.ext hb
  replace bO14_0 := BoxAt.ext hb bO14_0
  have hs28 := hb.size
  clear hb
  have hX29 : Ext w27 w27 := Ext.refl _
  refine ⟨_, rfl, ?_⟩
  refine pl_take (.slice la22 t21 lc23) rfl (by kernel_rfl) (by kernel_rfl) (by kernel_rfl) (by kernel_rfl) ?_
  refine pl_nil ?_
  refine qw_then ?_
  refine cw_clean [2, 3, 9, 11, 12] (ws' := [(2, .slice a2 n2 c2), (3, .int .i64 (i3 : Int)), (9, .pointer (some ⟨O1, 0, none⟩)), (11, .pointer (some ⟨O14, 0, none⟩)), (12, .slice la22 t21 lc23)]) (by kernel_rfl) (fun L => ?_)
  refine cw_seq ?_
  refine cw_plain ?_
  refine pl_take (.agg #[.slice (some ⟨B7, 0, none⟩) 24 k8]) rfl (by kernel_rfl) (by kernel_rfl) (by kernel_rfl) (ex_load rfl (by kernel_rfl) (ld25 (bO14_0.1))) ?_
  refine pl_take (.slice la22 t21 lc23) rfl (by kernel_rfl) (by kernel_rfl) (by kernel_rfl) (by kernel_rfl) ?_
  refine pl_step rfl (by kernel_rfl) (by kernel_rfl) (by kernel_rfl) (sn_call (f := 15) (args := #[.agg #[.slice (some ⟨B7, 0, none⟩) 24 k8], .slice la22 t21 lc23]) (by kernel_rfl) ((Uncovered_v _ _ _ v9 (Ext.refl _) sS24 (Ext.refl _) hok25).mono ?_))
  rintro e w40 ⟨B30, o31, k32, B33, o34, k35, rfl, v36, v37, hn38, hn39, hb⟩
  replace hE := hE.trans hb
  replace hX29 := hX29.trans hb
  replace bO1_0 := BoxAt.ext hb bO1_0
  replace bO1_1 := BoxAt.ext hb bO1_1
  replace v9 := v9.ext hb
  replace bO14_0 := BoxAt.ext hb bO14_0
  have hs41 := hb.size
  clear hb
  have lt42 := v36.lt
  have lt43 := v37.lt
  refine ⟨_, rfl, ?_⟩
  refine pl_take (.tuple #[.agg #[.slice (some ⟨B30, o31, none⟩) 24 k32], .agg #[.slice (some ⟨B33, o34, none⟩) 24 k35], .int .i64 0]) rfl (by kernel_rfl) (by kernel_rfl) (by kernel_rfl) (by kernel_rfl) ?_
  refine pl_take (.agg #[.slice (some ⟨B30, o31, none⟩) 24 k32]) rfl (by kernel_rfl) (by kernel_rfl) (by kernel_rfl) (by kernel_rfl) ?_
  refine pl_take (.agg #[.slice (some ⟨B33, o34, none⟩) 24 k35]) rfl (by kernel_rfl) (by kernel_rfl) (by kernel_rfl) (by kernel_rfl) ?_
  refine pl_take (.int .i64 0) rfl (by kernel_rfl) (by kernel_rfl) (by kernel_rfl) (by kernel_rfl) ?_
  refine pl_step rfl (by kernel_rfl) (by kernel_rfl) (by kernel_rfl) (sn_new (us := #[.slice none 0 0]) (t := 25) (by kernel_rfl) ?_)
  intro O44 X45 hO hOs hb hbx
  have hzO44 := hO; have hyO44 := hOs; clear hO hOs
  have bO44_0 : BoxAt X45 O44 0 (.slice none 0 0) := hbx 0 _ rfl
  clear hbx
  replace hE := hE.trans hb
  replace hX29 := hX29.trans hb
  replace bO1_0 := BoxAt.ext hb bO1_0
  replace bO1_1 := BoxAt.ext hb bO1_1
  replace v9 := v9.ext hb
  replace bO14_0 := BoxAt.ext hb bO14_0
  replace v36 := v36.ext hb
  replace v37 := v37.ext hb
  have hs46 := hb.size
  clear hb
  have lt47 := bO44_0.lt
  refine pl_step rfl (by kernel_rfl) (by kernel_rfl) (by kernel_rfl) (sn_new (us := #[.slice none 0 0]) (t := 25) (by kernel_rfl) ?_)
  intro O48 X49 hO hOs hb hbx
  have hzO48 := hO; have hyO48 := hOs; clear hO hOs
  have bO48_0 : BoxAt X49 O48 0 (.slice none 0 0) := hbx 0 _ rfl
  clear hbx
  replace hE := hE.trans hb
  replace hX29 := hX29.trans hb
  replace bO1_0 := BoxAt.ext hb bO1_0
  replace bO1_1 := BoxAt.ext hb bO1_1
  replace v9 := v9.ext hb
  replace bO14_0 := BoxAt.ext hb bO14_0
  replace v36 := v36.ext hb
  replace v37 := v37.ext hb
  replace bO44_0 := BoxAt.ext hb bO44_0
  have hs50 := hb.size
  clear hb
  have lt51 := bO48_0.lt
  refine pl_put rfl (by kernel_rfl) (by kernel_rfl) (sn_set (O := O44) (j := 0) (v := .slice (some ⟨B30, o31, none⟩) 24 k32) (ex_store (p := .pointer (some ⟨O44, 0, none⟩)) (v := .agg #[.slice (some ⟨B30, o31, none⟩) 24 k32]) rfl (by kernel_rfl) (by kernel_rfl) (st25 bO44_0.1 bO44_0.2)) bO44_0 ?_)
  intro X52 ho hv0 hk
  replace hE := ho.ext hE (Nat.le_trans (Nat.le_trans hs3 (Nat.le_trans hs6 (Nat.le_trans hs12 (Nat.le_trans hs16 (Nat.le_trans hs19 (Nat.le_trans hs28 hs41)))))) (Nat.le_of_eq hzO44))
  replace hX29 := ho.ext hX29 (Nat.le_trans hs41 (Nat.le_of_eq hzO44))
  replace bO1_0 := ho.box (Nat.ne_of_gt (Nat.lt_of_lt_of_le lt4 (Nat.le_trans (Nat.le_trans hs6 (Nat.le_trans hs12 (Nat.le_trans hs16 (Nat.le_trans hs19 (Nat.le_trans hs28 hs41))))) (Nat.le_of_eq hzO44)))) bO1_0
  replace bO1_1 := ho.box (Nat.ne_of_gt (Nat.lt_of_lt_of_le lt4 (Nat.le_trans (Nat.le_trans hs6 (Nat.le_trans hs12 (Nat.le_trans hs16 (Nat.le_trans hs19 (Nat.le_trans hs28 hs41))))) (Nat.le_of_eq hzO44)))) bO1_1
  replace v9 := ho.va (Nat.ne_of_gt (Nat.lt_of_lt_of_le lt13 (Nat.le_trans (Nat.le_trans hs16 (Nat.le_trans hs19 (Nat.le_trans hs28 hs41))) (Nat.le_of_eq hzO44)))) v9
  replace bO14_0 := ho.box (Nat.ne_of_gt (Nat.lt_of_lt_of_le lt17 (Nat.le_trans (Nat.le_trans hs19 (Nat.le_trans hs28 hs41)) (Nat.le_of_eq hzO44)))) bO14_0
  replace v36 := ho.va (Nat.ne_of_gt (Nat.lt_of_lt_of_le lt42 (Nat.le_of_eq hzO44))) v36
  replace v37 := ho.va (Nat.ne_of_gt (Nat.lt_of_lt_of_le lt43 (Nat.le_of_eq hzO44))) v37
  replace bO48_0 := ho.box (Nat.ne_of_lt (Nat.lt_of_lt_of_le lt47 (Nat.le_of_eq hzO48))) bO48_0
  have hs53 : X49.heap.size ≤ X52.heap.size := Nat.le_of_eq ho.size.symm
  clear ho hk bO44_0
  have bO44_0 := hv0; clear hv0
  refine pl_put rfl (by kernel_rfl) (by kernel_rfl) (sn_set (O := O48) (j := 0) (v := .slice (some ⟨B33, o34, none⟩) 24 k35) (ex_store (p := .pointer (some ⟨O48, 0, none⟩)) (v := .agg #[.slice (some ⟨B33, o34, none⟩) 24 k35]) rfl (by kernel_rfl) (by kernel_rfl) (st25 bO48_0.1 bO48_0.2)) bO48_0 ?_)
  intro X54 ho hv0 hk
  replace hE := ho.ext hE (Nat.le_trans (Nat.le_trans hs3 (Nat.le_trans hs6 (Nat.le_trans hs12 (Nat.le_trans hs16 (Nat.le_trans hs19 (Nat.le_trans hs28 (Nat.le_trans hs41 hs46))))))) (Nat.le_of_eq hzO48))
  replace hX29 := ho.ext hX29 (Nat.le_trans (Nat.le_trans hs41 hs46) (Nat.le_of_eq hzO48))
  replace bO1_0 := ho.box (Nat.ne_of_gt (Nat.lt_of_lt_of_le lt4 (Nat.le_trans (Nat.le_trans hs6 (Nat.le_trans hs12 (Nat.le_trans hs16 (Nat.le_trans hs19 (Nat.le_trans hs28 (Nat.le_trans hs41 hs46)))))) (Nat.le_of_eq hzO48)))) bO1_0
  replace bO1_1 := ho.box (Nat.ne_of_gt (Nat.lt_of_lt_of_le lt4 (Nat.le_trans (Nat.le_trans hs6 (Nat.le_trans hs12 (Nat.le_trans hs16 (Nat.le_trans hs19 (Nat.le_trans hs28 (Nat.le_trans hs41 hs46)))))) (Nat.le_of_eq hzO48)))) bO1_1
  replace v9 := ho.va (Nat.ne_of_gt (Nat.lt_of_lt_of_le lt13 (Nat.le_trans (Nat.le_trans hs16 (Nat.le_trans hs19 (Nat.le_trans hs28 (Nat.le_trans hs41 hs46)))) (Nat.le_of_eq hzO48)))) v9
  replace bO14_0 := ho.box (Nat.ne_of_gt (Nat.lt_of_lt_of_le lt17 (Nat.le_trans (Nat.le_trans hs19 (Nat.le_trans hs28 (Nat.le_trans hs41 hs46))) (Nat.le_of_eq hzO48)))) bO14_0
  replace v36 := ho.va (Nat.ne_of_gt (Nat.lt_of_lt_of_le lt42 (Nat.le_trans hs46 (Nat.le_of_eq hzO48)))) v36
  replace v37 := ho.va (Nat.ne_of_gt (Nat.lt_of_lt_of_le lt43 (Nat.le_trans hs46 (Nat.le_of_eq hzO48)))) v37
  replace bO44_0 := ho.box (Nat.ne_of_gt (Nat.lt_of_lt_of_le lt47 (Nat.le_of_eq hzO48))) bO44_0
  have hs55 : X52.heap.size ≤ X54.heap.size := Nat.le_of_eq ho.size.symm
  clear ho hk bO48_0
  have bO48_0 := hv0; clear hv0
  refine pl_take (.int .i64 0) rfl (by kernel_rfl) (by kernel_rfl) (by kernel_rfl) (by kernel_rfl) ?_
  refine pl_nil ?_
  refine qw_then ?_
  refine cw_clean [2, 3, 9, 11, 12, 14, 15] (ws' := [(2, .slice a2 n2 c2), (3, .int .i64 (i3 : Int)), (9, .pointer (some ⟨O1, 0, none⟩)), (11, .pointer (some ⟨O14, 0, none⟩)), (12, .slice la22 t21 lc23), (14, .pointer (some ⟨O48, 0, none⟩)), (15, .int .i64 0)]) (by kernel_rfl) (fun L => ?_)
  refine cw_seq ?_
  refine cw_plain ?_
  refine pl_take (.agg #[.slice (some ⟨B7, 0, none⟩) 24 k8]) rfl (by kernel_rfl) (by kernel_rfl) (by kernel_rfl) (ex_load rfl (by kernel_rfl) (ld25 (bO14_0.1))) ?_
  refine pl_take (.slice la22 t21 lc23) rfl (by kernel_rfl) (by kernel_rfl) (by kernel_rfl) (by kernel_rfl) ?_
  refine pl_step rfl (by kernel_rfl) (by kernel_rfl) (by kernel_rfl) (sn_call (f := 17) (args := #[.agg #[.slice (some ⟨B7, 0, none⟩) 24 k8], .slice la22 t21 lc23]) (by kernel_rfl) ((Decompose_s _ _ _ v9 (Ext.refl _) sS24 hX29 hok25).mono ?_))
  rintro e w64 ⟨pa56, pc57, B58, o59, k60, rfl, hpc61, hP62, v63, hb⟩
  replace hE := hE.trans hb
  replace hX29 := hX29.trans hb
  replace bO1_0 := BoxAt.ext hb bO1_0
  replace bO1_1 := BoxAt.ext hb bO1_1
  replace v9 := v9.ext hb
  replace bO14_0 := BoxAt.ext hb bO14_0
  replace v36 := v36.ext hb
  replace v37 := v37.ext hb
  replace bO44_0 := BoxAt.ext hb bO44_0
  replace bO48_0 := BoxAt.ext hb bO48_0
  have hs65 := hb.size
  clear hb
  have hX66 : Ext w64 w64 := Ext.refl _
  have lt67 := v63.lt
  refine ⟨_, rfl, ?_⟩
  refine pl_take (.tuple #[.slice pa56 t21 pc57, .agg #[.slice (some ⟨B58, o59, none⟩) 24 k60], .int .i64 0]) rfl (by kernel_rfl) (by kernel_rfl) (by kernel_rfl) (by kernel_rfl) ?_
  refine pl_take (.slice pa56 t21 pc57) rfl (by kernel_rfl) (by kernel_rfl) (by kernel_rfl) (by kernel_rfl) ?_
  refine pl_take (.agg #[.slice (some ⟨B58, o59, none⟩) 24 k60]) rfl (by kernel_rfl) (by kernel_rfl) (by kernel_rfl) (by kernel_rfl) ?_
  refine pl_take (.int .i64 0) rfl (by kernel_rfl) (by kernel_rfl) (by kernel_rfl) (by kernel_rfl) ?_
  refine pl_step rfl (by kernel_rfl) (by kernel_rfl) (by kernel_rfl) (sn_new (us := #[.slice none 0 0]) (t := 25) (by kernel_rfl) ?_)
  intro O68 X69 hO hOs hb hbx
  have hzO68 := hO; have hyO68 := hOs; clear hO hOs
  have bO68_0 : BoxAt X69 O68 0 (.slice none 0 0) := hbx 0 _ rfl
  clear hbx
  replace hE := hE.trans hb
  replace hX29 := hX29.trans hb
  replace hX66 := hX66.trans hb
  replace bO1_0 := BoxAt.ext hb bO1_0
  replace bO1_1 := BoxAt.ext hb bO1_1
  replace v9 := v9.ext hb
  replace bO14_0 := BoxAt.ext hb bO14_0
  replace v36 := v36.ext hb
  replace v37 := v37.ext hb
  replace bO44_0 := BoxAt.ext hb bO44_0
  replace bO48_0 := BoxAt.ext hb bO48_0
  replace v63 := v63.ext hb
  have hs70 := hb.size
  clear hb
  have lt71 := bO68_0.lt
  refine pl_take (.slice pa56 t21 pc57) rfl (by kernel_rfl) (by kernel_rfl) (by kernel_rfl) (by kernel_rfl) ?_
  refine pl_put rfl (by kernel_rfl) (by kernel_rfl) (sn_set (O := O68) (j := 0) (v := .slice (some ⟨B58, o59, none⟩) 24 k60) (ex_store (p := .pointer (some ⟨O68, 0, none⟩)) (v := .agg #[.slice (some ⟨B58, o59, none⟩) 24 k60]) rfl (by kernel_rfl) (by kernel_rfl) (st25 bO68_0.1 bO68_0.2)) bO68_0 ?_)
  intro X72 ho hv0 hk
  replace hE := ho.ext hE (Nat.le_trans (Nat.le_trans hs3 (Nat.le_trans hs6 (Nat.le_trans hs12 (Nat.le_trans hs16 (Nat.le_trans hs19 (Nat.le_trans hs28 (Nat.le_trans hs41 (Nat.le_trans hs46 (Nat.le_trans hs50 (Nat.le_trans hs53 (Nat.le_trans hs55 hs65))))))))))) (Nat.le_of_eq hzO68))
  replace hX29 := ho.ext hX29 (Nat.le_trans (Nat.le_trans hs41 (Nat.le_trans hs46 (Nat.le_trans hs50 (Nat.le_trans hs53 (Nat.le_trans hs55 hs65))))) (Nat.le_of_eq hzO68))
  replace hX66 := ho.ext hX66 (Nat.le_of_eq hzO68)
  replace bO1_0 := ho.box (Nat.ne_of_gt (Nat.lt_of_lt_of_le lt4 (Nat.le_trans (Nat.le_trans hs6 (Nat.le_trans hs12 (Nat.le_trans hs16 (Nat.le_trans hs19 (Nat.le_trans hs28 (Nat.le_trans hs41 (Nat.le_trans hs46 (Nat.le_trans hs50 (Nat.le_trans hs53 (Nat.le_trans hs55 hs65)))))))))) (Nat.le_of_eq hzO68)))) bO1_0
  replace bO1_1 := ho.box (Nat.ne_of_gt (Nat.lt_of_lt_of_le lt4 (Nat.le_trans (Nat.le_trans hs6 (Nat.le_trans hs12 (Nat.le_trans hs16 (Nat.le_trans hs19 (Nat.le_trans hs28 (Nat.le_trans hs41 (Nat.le_trans hs46 (Nat.le_trans hs50 (Nat.le_trans hs53 (Nat.le_trans hs55 hs65)))))))))) (Nat.le_of_eq hzO68)))) bO1_1
  replace v9 := ho.va (Nat.ne_of_gt (Nat.lt_of_lt_of_le lt13 (Nat.le_trans (Nat.le_trans hs16 (Nat.le_trans hs19 (Nat.le_trans hs28 (Nat.le_trans hs41 (Nat.le_trans hs46 (Nat.le_trans hs50 (Nat.le_trans hs53 (Nat.le_trans hs55 hs65)))))))) (Nat.le_of_eq hzO68)))) v9
  replace bO14_0 := ho.box (Nat.ne_of_gt (Nat.lt_of_lt_of_le lt17 (Nat.le_trans (Nat.le_trans hs19 (Nat.le_trans hs28 (Nat.le_trans hs41 (Nat.le_trans hs46 (Nat.le_trans hs50 (Nat.le_trans hs53 (Nat.le_trans hs55 hs65))))))) (Nat.le_of_eq hzO68)))) bO14_0
  replace v36 := ho.va (Nat.ne_of_gt (Nat.lt_of_lt_of_le lt42 (Nat.le_trans (Nat.le_trans hs46 (Nat.le_trans hs50 (Nat.le_trans hs53 (Nat.le_trans hs55 hs65)))) (Nat.le_of_eq hzO68)))) v36
  replace v37 := ho.va (Nat.ne_of_gt (Nat.lt_of_lt_of_le lt43 (Nat.le_trans (Nat.le_trans hs46 (Nat.le_trans hs50 (Nat.le_trans hs53 (Nat.le_trans hs55 hs65)))) (Nat.le_of_eq hzO68)))) v37
  replace bO44_0 := ho.box (Nat.ne_of_gt (Nat.lt_of_lt_of_le lt47 (Nat.le_trans (Nat.le_trans hs50 (Nat.le_trans hs53 (Nat.le_trans hs55 hs65))) (Nat.le_of_eq hzO68)))) bO44_0
  replace bO48_0 := ho.box (Nat.ne_of_gt (Nat.lt_of_lt_of_le lt51 (Nat.le_trans (Nat.le_trans hs53 (Nat.le_trans hs55 hs65)) (Nat.le_of_eq hzO68)))) bO48_0
  replace v63 := ho.va (Nat.ne_of_gt (Nat.lt_of_lt_of_le lt67 (Nat.le_of_eq hzO68))) v63
  have hs73 : X69.heap.size ≤ X72.heap.size := Nat.le_of_eq ho.size.symm
  clear ho hk bO68_0
  have bO68_0 := hv0; clear hv0
  refine pl_take (.int .i64 0) rfl (by kernel_rfl) (by kernel_rfl) (by kernel_rfl) (by kernel_rfl) ?_
  refine pl_nil ?_
  refine qw_then ?_
  refine cw_clean [2, 3, 9, 11, 12, 14, 15, 16, 18] (ws' := [(2, .slice a2 n2 c2), (3, .int .i64 (i3 : Int)), (9, .pointer (some ⟨O1, 0, none⟩)), (11, .pointer (some ⟨O14, 0, none⟩)), (12, .slice la22 t21 lc23), (14, .pointer (some ⟨O48, 0, none⟩)), (15, .int .i64 0), (16, .slice pa56 t21 pc57), (18, .int .i64 0)]) (by kernel_rfl) (fun L => ?_)
  refine cw_seq ?_
  refine cw_seq ?_
  refine cw_plain ?_
  refine pl_take (.int .i64 0) rfl (by kernel_rfl) (by kernel_rfl) (by kernel_rfl) (by kernel_rfl) ?_
  refine pl_take (.bool false) rfl (by kernel_rfl) (by kernel_rfl) (by kernel_rfl) (by kernel_rfl) ?_
  refine pl_take (.bool false) rfl (by kernel_rfl) (by kernel_rfl) (by kernel_rfl) (by kernel_rfl) ?_
  refine pl_take (.int .i64 0) rfl (by kernel_rfl) (by kernel_rfl) (by kernel_rfl) (by kernel_rfl) ?_
  refine pl_take (.bool false) rfl (by kernel_rfl) (by kernel_rfl) (by kernel_rfl) (by kernel_rfl) ?_
  refine pl_take (.bool false) rfl (by kernel_rfl) (by kernel_rfl) (by kernel_rfl) (by kernel_rfl) ?_
  refine pl_take (.bool false) rfl (by kernel_rfl) (by kernel_rfl) (by kernel_rfl) (by kernel_rfl) ?_
  refine pl_take (.slice pa56 t21 pc57) rfl (by kernel_rfl) (by kernel_rfl) (by kernel_rfl) (by kernel_rfl) ?_
  refine pl_take (.int .i64 (((t21 : Nat) : Int) : Int)) rfl (by kernel_rfl) (by kernel_rfl) (by kernel_rfl) (by kernel_rfl) ?_
  refine pl_take (.slice la22 t21 lc23) rfl (by kernel_rfl) (by kernel_rfl) (by kernel_rfl) (by kernel_rfl) ?_
  refine pl_take (.int .i64 (((t21 : Nat) : Int) : Int)) rfl (by kernel_rfl) (by kernel_rfl) (by kernel_rfl) (by kernel_rfl) ?_
  refine pl_take (.bool false) rfl (by kernel_rfl) (by kernel_rfl) (by kernel_rfl) (ev_nne (show _ = Result.ok (Next.value (Value.bool ((((t21 : Nat) : Int) : Int) != (((t21 : Nat) : Int) : Int)))) _ from by kernel_rfl) (by omega)) ?_
  refine pl_take (.bool false) rfl (by kernel_rfl) (by kernel_rfl) (by kernel_rfl) (by kernel_rfl) ?_
  refine pl_nil ?_
  refine qw_then ?_
  refine cw_clean [2, 3, 9, 11, 12, 14, 16, 59] (ws' := [(2, .slice a2 n2 c2), (3, .int .i64 (i3 : Int)), (9, .pointer (some ⟨O1, 0, none⟩)), (11, .pointer (some ⟨O14, 0, none⟩)), (12, .slice la22 t21 lc23), (14, .pointer (some ⟨O48, 0, none⟩)), (16, .slice pa56 t21 pc57), (59, .bool false)]) (by kernel_rfl) (fun L => ?_)
  refine cw_f (by kernel_rfl) ?_
  refine cw_skip ?_
  refine qw_then ?_
  refine cw_seq ?_
  refine cw_plain ?_
  refine pl_take (.slice none 0 0) rfl (by kernel_rfl) (by kernel_rfl) (by kernel_rfl) (by kernel_rfl) ?_
  refine pl_nil ?_
  refine qw_then ?_
  refine cw_seq ?_
  refine cw_seq ?_
  refine cw_plain ?_
  refine pl_take (.int .i64 0) rfl (by kernel_rfl) (by kernel_rfl) (by kernel_rfl) (by kernel_rfl) ?_
  refine pl_nil ?_
  refine qw_then ?_
  refine cw_block ?_
  have hX74 : Ext X72 X72 := Ext.refl _
  refine cw_loop [2, 3, 9, 11, 12, 14, 16, 19, 20] (fun ws' wr m => ∃ a9 : Option Addr, ∃ i : Nat, ∃ c9 : Nat, ∃ LP : List (List Int), ws' = [(2, .slice a2 n2 c2), (3, .int .i64 (i3 : Int)), (9, .pointer (some ⟨O1, 0, none⟩)), (11, .pointer (some ⟨O14, 0, none⟩)), (12, .slice la22 t21 lc23), (14, .pointer (some ⟨O48, 0, none⟩)), (16, .slice pa56 t21 pc57), (19, .slice a9 i c9), (20, .int .i64 (((i : Nat) : Int) : Int))] ∧ m = t21 - i ∧ X72.heap.size ≤ wr.heap.size ∧ Ext w wr ∧ Ext w27 wr ∧ Ext w64 wr ∧ Ext X72 wr ∧ OwnL areaR X72.heap.size 25 1 (.slice a9 i c9) wr LP ∧ i ≤ t21 ∧ LP.length = i) (ws0 := [(2, .slice a2 n2 c2), (3, .int .i64 (i3 : Int)), (9, .pointer (some ⟨O1, 0, none⟩)), (11, .pointer (some ⟨O14, 0, none⟩)), (12, .slice la22 t21 lc23), (14, .pointer (some ⟨O48, 0, none⟩)), (16, .slice pa56 t21 pc57), (19, .slice none 0 0), (20, .int .i64 0)]) (by kernel_rfl) _ ⟨none, 0, 0, [], rfl, rfl, Nat.le_refl _, hE, hX29, hX66, hX74, OwnL.nil _ _ _ _ _, by omega, rfl⟩ ?_
  clear hE hX29 hX66 hX74
  rintro m77 L ws w76 ⟨a9, i, c9, LP, rfl, rfl, hs75, hE, hX29, hX66, hX74, own9, hi, hlp⟩
  have hX78 : Ext w76 w76 := Ext.refl _
  have hbk := own9.lt
  by_cases hlt : i < t21
  ·
    obtain ⟨sb, so, s, rfl, hs, hst⟩ := sS24.at hlt
    obtain ⟨q1', q2', q3'⟩ := okS_at hok25 hs
    obtain ⟨S1, s1, e1, S2, s2, e2, d1, d2, g1, g2⟩ := hst.v q1' q2'
    obtain ⟨M, hM⟩ : ∃ M, M = min n2 i := ⟨_, rfl⟩
    have hM1 : M ≤ n2 := by omega
    have QM := QAt.drop Q2 c2 hnc2 M hM1
    refine cw_seq ?_
    refine cw_seq ?_
    refine cw_plain ?_
    refine pl_take (.int .i64 (((i : Nat) : Int) : Int)) rfl (by kernel_rfl) (by kernel_rfl) (by kernel_rfl) (by kernel_rfl) ?_
    refine pl_take (.slice (some ⟨sb, so, none⟩) t21 lc23) rfl (by kernel_rfl) (by kernel_rfl) (by kernel_rfl) (by kernel_rfl) ?_
    refine pl_take (.int .i64 (((t21 : Nat) : Int) : Int)) rfl (by kernel_rfl) (by kernel_rfl) (by kernel_rfl) (by kernel_rfl) ?_
    refine pl_take (.bool true) rfl (by kernel_rfl) (by kernel_rfl) (by kernel_rfl) (ev_dec (show _ = Result.ok (Next.value (Value.bool (decide ((((i : Nat) : Int) : Int) < (((t21 : Nat) : Int) : Int))))) _ from by kernel_rfl) (by omega)) ?_
    refine pl_nil ?_
    refine qw_then ?_
    refine cw_t (by kernel_rfl) ?_
    refine cw_skip ?_
    refine qw_then ?_
    refine cw_seq ?_
    refine cw_block ?_
    refine cw_seq ?_
    refine cw_join (fun ws' Y => ∃ B81 : Nat, ∃ k82 : Nat, ∃ B88 : Nat, ∃ k89 : Nat, ∃ O95 : Nat, ws' = [(2, .slice a2 n2 c2), (3, .int .i64 (i3 : Int)), (9, .pointer (some ⟨O1, 0, none⟩)), (11, .pointer (some ⟨O14, 0, none⟩)), (12, .slice (some ⟨sb, so, none⟩) t21 lc23), (14, .pointer (some ⟨O48, 0, none⟩)), (16, .slice pa56 t21 pc57), (19, .slice a9 i c9), (20, .int .i64 (((i : Nat) : Int) : Int)), (21, .pointer (some ⟨O95, 0, none⟩)), (22, .int .i64 0)] ∧ Ext w Y ∧ Ext w27 Y ∧ Ext w64 Y ∧ Ext X72 Y ∧ Ext w76 Y ∧ VA Y B81 0 (areaL (fun i j => q2 (i + M) j) (n2 - M)) ∧ VA Y B88 0 (Globe.meetL s.1 (areaL (fun i j => q2 (i + M) j) (n2 - M))) ∧ BoxAt Y O95 0 (.slice (some ⟨B88, 0, none⟩) 24 k89) ∧ w76.heap.size ≤ Y.heap.size ∧ w76.heap.size ≤ B81 ∧ w76.heap.size ≤ B88 ∧ w76.heap.size ≤ O95 ∧ Hid (B81 ≠ B88) ∧ Hid (B81 ≠ O95) ∧ Hid (B88 ≠ O95)) (fun hJ => ?_) ?_
    ·
      refine cw_draw [(some 67, [12], []), (some 68, [20], []), (some 69, [67, 68], [0, 1]), (some 70, [69], [2]), (some 71, [70], [3]), (some 72, [2], []), (some 73, [2], []), (some 74, [73], [6]), (some 75, [20], []), (some 76, [74, 75], [7, 8]), (some 77, [72, 76], [5, 9]), (some 78, [77], [10]), (some 79, [71, 78], [4, 11, 11]), (some 66, [79], [12]), (some 80, [66], [13]), (some 81, [66], [13]), (some 21, [], []), (none, [21, 80], [16, 14, 12, 0, 1, 2, 3, 4, 5, 6, 7, 8, 9, 10, 11, 12, 13, 14, 16]), (some 22, [81], [15, 17, 0, 1, 2, 3, 4, 5, 6, 7, 8, 9, 10, 11, 12, 13, 14, 15, 16, 17])] (fun w' => w'.cell? ⟨sb, so + i * 2, none⟩ = some (.slice (some ⟨S1, s1, none⟩) 24 e1)) (by kernel_rfl) (by kernel_rfl) (by kernel_rfl) (by kernel_rfl) ((calm_then (calm_block (calm_then (calm_then (calm_block (calm_then calm_body))))))) ((hX29.cell d1)) (fun ops Q X79 hb hL hR hK => ?_)
      replace hE := hE.trans hb
      replace hX29 := hX29.trans hb
      replace hX66 := hX66.trans hb
      replace hX74 := hX74.trans hb
      replace hX78 := hX78.trans hb
      have hs80 := hb.size
      clear hb
      refine wd_take 0 (.slice (some ⟨sb, so, none⟩) t21 lc23) hR rfl (by kernel_rfl) rfl (by kernel_rfl) (fun w _ => by kernel_rfl) ((hX29.cell d1)) ?_
      refine wd_take 1 (.int .i64 (((i : Nat) : Int) : Int)) hR rfl (by kernel_rfl) rfl (by kernel_rfl) (fun w _ => by kernel_rfl) ((hX29.cell d1)) ?_
      refine wd_take 2 (.pointer (some ⟨sb, so + i * 2, none⟩)) hR rfl (by kernel_rfl) rfl (by kernel_rfl) (fun w _ => ex_index (p := .slice (some ⟨sb, so, none⟩) t21 lc23) (i := .int .i64 ((i : Nat) : Int)) rfl (by kernel_rfl) (by kernel_rfl) (ix26 (k := i) (by omega))) ((hX29.cell d1)) ?_
      refine wd_take 3 (.pointer (some ⟨sb, so + i * 2, none⟩)) hR rfl (by kernel_rfl) rfl (by kernel_rfl) (fun w _ => by kernel_rfl) ((hX29.cell d1)) ?_
      refine wd_take 4 (.agg #[.slice (some ⟨S1, s1, none⟩) 24 e1]) hR rfl (by kernel_rfl) rfl (by kernel_rfl) (fun w hS => ex_load rfl (by kernel_rfl) (ld25 (hS))) ((hX29.cell d1)) ?_
      refine wd_take 5 (.slice a2 n2 c2) hR rfl (by kernel_rfl) rfl (by kernel_rfl) (fun w _ => by kernel_rfl) ((hX29.cell d1)) ?_
      refine wd_take 6 (.slice a2 n2 c2) hR rfl (by kernel_rfl) rfl (by kernel_rfl) (fun w _ => by kernel_rfl) ((hX29.cell d1)) ?_
      refine wd_take 7 (.int .i64 (((n2 : Nat) : Int) : Int)) hR rfl (by kernel_rfl) rfl (by kernel_rfl) (fun w _ => by kernel_rfl) ((hX29.cell d1)) ?_
      refine wd_take 8 (.int .i64 (((i : Nat) : Int) : Int)) hR rfl (by kernel_rfl) rfl (by kernel_rfl) (fun w _ => by kernel_rfl) ((hX29.cell d1)) ?_
      refine wd_take 9 (.int .i64 (((M : Nat) : Int) : Int)) hR rfl (by kernel_rfl) rfl (by kernel_rfl) (fun w _ => ev_int (show _ = Result.ok (Next.value (Value.int .i64 (if (i : Int) < (n2 : Int) then (i : Int) else (n2 : Int)))) _ from by kernel_rfl) (by rw [hM]; split <;> omega)) ((hX29.cell d1)) ?_
      refine wd_take 10 (.slice (if c2 = M then a2 else a2.map (fun x => x.add (M * 4))) (n2 - M) (c2 - M)) hR rfl (by kernel_rfl) rfl (by kernel_rfl) (fun w _ => ex_slice (p := .slice a2 n2 c2) rfl (by kernel_rfl) (by kernel_rfl) (by kernel_rfl) (by kernel_rfl) (sl22_100b (k := M) (by omega) (by omega))) ((hX29.cell d1)) ?_
      refine wd_two 11 16 hR rfl rfl (by kernel_rfl) (by kernel_rfl) (by kernel_rfl) (by kernel_rfl) ?_ ?_
      ·
        refine sn_call (f := 11) (args := #[.slice (if c2 = M then a2 else a2.map (fun x => x.add (M * 4))) (n2 - M) (c2 - M)]) (by kernel_rfl) ((Area_c _ _ QM hE (by omega)).mono ?_)
        rintro e w85 ⟨B81, k82, rfl, hn84, v83, hb⟩
        replace hE := hE.trans hb
        replace hX29 := hX29.trans hb
        replace hX66 := hX66.trans hb
        replace hX74 := hX74.trans hb
        replace hX78 := hX78.trans hb
        have hs86 := hb.size
        clear hb
        have lt87 := v83.lt
        refine ⟨_, rfl, (hX29.cell d1), ?_⟩
        refine wd_two 12 16 hR rfl rfl (by kernel_rfl) (by kernel_rfl) (by kernel_rfl) (by kernel_rfl) ?_ ?_
        ·
          refine sn_call (f := 28) (args := #[.agg #[.slice (some ⟨S1, s1, none⟩) 24 e1], .agg #[.slice (some ⟨B81, 0, none⟩) 24 k82]]) (by kernel_rfl) ((Meet_v _ _ _ (g1.ext hX29) (Ext.refl _) v83 (Ext.refl _)).mono ?_)
          rintro e w92 ⟨B88, k89, rfl, hn91, -, v90, hb⟩
          replace hE := hE.trans hb
          replace hX29 := hX29.trans hb
          replace hX66 := hX66.trans hb
          replace hX74 := hX74.trans hb
          replace hX78 := hX78.trans hb
          replace v83 := v83.ext hb
          have hs93 := hb.size
          clear hb
          have lt94 := v90.lt
          refine ⟨_, rfl, (hX29.cell d1), ?_⟩
          refine wd_take 13 (.tuple #[.agg #[.slice (some ⟨B88, 0, none⟩) 24 k89], .int .i64 0]) hR rfl (by kernel_rfl) rfl (by kernel_rfl) (fun w _ => by kernel_rfl) ((hX29.cell d1)) ?_
          refine wd_take 14 (.agg #[.slice (some ⟨B88, 0, none⟩) 24 k89]) hR rfl (by kernel_rfl) rfl (by kernel_rfl) (fun w _ => by kernel_rfl) ((hX29.cell d1)) ?_
          refine wd_take 15 (.int .i64 0) hR rfl (by kernel_rfl) rfl (by kernel_rfl) (fun w _ => by kernel_rfl) ((hX29.cell d1)) ?_
          refine wd_step 16 hR rfl (by kernel_rfl) (by kernel_rfl) (by kernel_rfl) (sn_new (us := #[.slice none 0 0]) (t := 25) (by kernel_rfl) ?_)
          intro O95 X96 hO hOs hb hbx
          have hzO95 := hO; have hyO95 := hOs; clear hO hOs
          have bO95_0 : BoxAt X96 O95 0 (.slice none 0 0) := hbx 0 _ rfl
          clear hbx
          replace hE := hE.trans hb
          replace hX29 := hX29.trans hb
          replace hX66 := hX66.trans hb
          replace hX74 := hX74.trans hb
          replace hX78 := hX78.trans hb
          replace v83 := v83.ext hb
          replace v90 := v90.ext hb
          have hs97 := hb.size
          clear hb
          have lt98 := bO95_0.lt
          refine ⟨(hX29.cell d1), ?_⟩
          refine wd_step 17 hR rfl (by kernel_rfl) (by kernel_rfl) (by kernel_rfl) (sn_set (O := O95) (j := 0) (v := .slice (some ⟨B88, 0, none⟩) 24 k89) (ex_store (p := .pointer (some ⟨O95, 0, none⟩)) (v := .agg #[.slice (some ⟨B88, 0, none⟩) 24 k89]) rfl (by kernel_rfl) (by kernel_rfl) (st25 bO95_0.1 bO95_0.2)) bO95_0 ?_)
          intro X99 ho hv0 hk
          replace hE := ho.ext hE (Nat.le_trans (Nat.le_trans hs3 (Nat.le_trans hs6 (Nat.le_trans hs12 (Nat.le_trans hs16 (Nat.le_trans hs19 (Nat.le_trans hs28 (Nat.le_trans hs41 (Nat.le_trans hs46 (Nat.le_trans hs50 (Nat.le_trans hs53 (Nat.le_trans hs55 (Nat.le_trans hs65 (Nat.le_trans hs70 (Nat.le_trans hs73 (Nat.le_trans hs75 (Nat.le_trans hs80 (Nat.le_trans hs86 hs93))))))))))))))))) (Nat.le_of_eq hzO95))
          replace hX29 := ho.ext hX29 (Nat.le_trans (Nat.le_trans hs41 (Nat.le_trans hs46 (Nat.le_trans hs50 (Nat.le_trans hs53 (Nat.le_trans hs55 (Nat.le_trans hs65 (Nat.le_trans hs70 (Nat.le_trans hs73 (Nat.le_trans hs75 (Nat.le_trans hs80 (Nat.le_trans hs86 hs93))))))))))) (Nat.le_of_eq hzO95))
          replace hX66 := ho.ext hX66 (Nat.le_trans (Nat.le_trans hs70 (Nat.le_trans hs73 (Nat.le_trans hs75 (Nat.le_trans hs80 (Nat.le_trans hs86 hs93))))) (Nat.le_of_eq hzO95))
          replace hX74 := ho.ext hX74 (Nat.le_trans (Nat.le_trans hs75 (Nat.le_trans hs80 (Nat.le_trans hs86 hs93))) (Nat.le_of_eq hzO95))
          replace hX78 := ho.ext hX78 (Nat.le_trans (Nat.le_trans hs80 (Nat.le_trans hs86 hs93)) (Nat.le_of_eq hzO95))
          replace v83 := ho.va (Nat.ne_of_gt (Nat.lt_of_lt_of_le lt87 (Nat.le_trans hs93 (Nat.le_of_eq hzO95)))) v83
          replace v90 := ho.va (Nat.ne_of_gt (Nat.lt_of_lt_of_le lt94 (Nat.le_of_eq hzO95))) v90
          have hs100 : X96.heap.size ≤ X99.heap.size := Nat.le_of_eq ho.size.symm
          clear ho hk bO95_0
          have bO95_0 := hv0; clear hv0
          refine ⟨(hX29.cell d1), ?_⟩
          refine wd_take 18 (.int .i64 0) hR rfl (by kernel_rfl) rfl (by kernel_rfl) (fun w _ => by kernel_rfl) ((hX29.cell d1)) ?_
          refine wd_end hL hR hK (by kernel_rfl) ?_
          exact qw_leaf hJ [2, 3, 9, 11, 12, 14, 16, 19, 20, 21, 22] (ws' := [(2, .slice a2 n2 c2), (3, .int .i64 (i3 : Int)), (9, .pointer (some ⟨O1, 0, none⟩)), (11, .pointer (some ⟨O14, 0, none⟩)), (12, .slice (some ⟨sb, so, none⟩) t21 lc23), (14, .pointer (some ⟨O48, 0, none⟩)), (16, .slice pa56 t21 pc57), (19, .slice a9 i c9), (20, .int .i64 (((i : Nat) : Int) : Int)), (21, .pointer (some ⟨O95, 0, none⟩)), (22, .int .i64 0)]) (by kernel_rfl) ⟨B81, k82, B88, k89, O95, rfl, hE, hX29, hX66, hX74, hX78, v83, v90, bO95_0, (Nat.le_trans hs80 (Nat.le_trans hs86 (Nat.le_trans hs93 (Nat.le_trans hs97 hs100)))), (Nat.le_trans hs80 hn84), (Nat.le_trans (Nat.le_trans hs80 hs86) hn91), (Nat.le_trans (Nat.le_trans hs80 (Nat.le_trans hs86 hs93)) (Nat.le_of_eq hzO95)), Lib.hid (Nat.ne_of_lt (Nat.lt_of_lt_of_le lt87 hn91)), Lib.hid (Nat.ne_of_lt (Nat.lt_of_lt_of_le lt87 (Nat.le_trans hs93 (Nat.le_of_eq hzO95)))), Lib.hid (Nat.ne_of_lt (Nat.lt_of_lt_of_le lt94 (Nat.le_of_eq hzO95)))⟩
        ·
          refine sn_new (us := #[.slice none 0 0]) (t := 25) (by kernel_rfl) ?_
          intro O101 X102 hO hOs hb hbx
          have hzO101 := hO; have hyO101 := hOs; clear hO hOs
          have bO101_0 : BoxAt X102 O101 0 (.slice none 0 0) := hbx 0 _ rfl
          clear hbx
          replace hE := hE.trans hb
          replace hX29 := hX29.trans hb
          replace hX66 := hX66.trans hb
          replace hX74 := hX74.trans hb
          replace hX78 := hX78.trans hb
          replace v83 := v83.ext hb
          have hs103 := hb.size
          clear hb
          have lt104 := bO101_0.lt
          refine ⟨(hX29.cell d1), ?_⟩
          refine wd_step 12 hR rfl (by kernel_rfl) (by kernel_rfl) (by kernel_rfl) (sn_call (f := 28) (args := #[.agg #[.slice (some ⟨S1, s1, none⟩) 24 e1], .agg #[.slice (some ⟨B81, 0, none⟩) 24 k82]]) (by kernel_rfl) ((Meet_v _ _ _ (g1.ext hX29) (Ext.refl _) v83 (Ext.refl _)).mono ?_))
          rintro e w109 ⟨B105, k106, rfl, hn108, -, v107, hb⟩
          replace hE := hE.trans hb
          replace hX29 := hX29.trans hb
          replace hX66 := hX66.trans hb
          replace hX74 := hX74.trans hb
          replace hX78 := hX78.trans hb
          replace v83 := v83.ext hb
          replace bO101_0 := BoxAt.ext hb bO101_0
          have hs110 := hb.size
          clear hb
          have lt111 := v107.lt
          refine ⟨_, rfl, (hX29.cell d1), ?_⟩
          refine wd_take 13 (.tuple #[.agg #[.slice (some ⟨B105, 0, none⟩) 24 k106], .int .i64 0]) hR rfl (by kernel_rfl) rfl (by kernel_rfl) (fun w _ => by kernel_rfl) ((hX29.cell d1)) ?_
          refine wd_take 14 (.agg #[.slice (some ⟨B105, 0, none⟩) 24 k106]) hR rfl (by kernel_rfl) rfl (by kernel_rfl) (fun w _ => by kernel_rfl) ((hX29.cell d1)) ?_
          refine wd_take 15 (.int .i64 0) hR rfl (by kernel_rfl) rfl (by kernel_rfl) (fun w _ => by kernel_rfl) ((hX29.cell d1)) ?_
          refine wd_step 17 hR rfl (by kernel_rfl) (by kernel_rfl) (by kernel_rfl) (sn_set (O := O101) (j := 0) (v := .slice (some ⟨B105, 0, none⟩) 24 k106) (ex_store (p := .pointer (some ⟨O101, 0, none⟩)) (v := .agg #[.slice (some ⟨B105, 0, none⟩) 24 k106]) rfl (by kernel_rfl) (by kernel_rfl) (st25 bO101_0.1 bO101_0.2)) bO101_0 ?_)
          intro X112 ho hv0 hk
          replace hE := ho.ext hE (Nat.le_trans (Nat.le_trans hs3 (Nat.le_trans hs6 (Nat.le_trans hs12 (Nat.le_trans hs16 (Nat.le_trans hs19 (Nat.le_trans hs28 (Nat.le_trans hs41 (Nat.le_trans hs46 (Nat.le_trans hs50 (Nat.le_trans hs53 (Nat.le_trans hs55 (Nat.le_trans hs65 (Nat.le_trans hs70 (Nat.le_trans hs73 (Nat.le_trans hs75 (Nat.le_trans hs80 hs86)))))))))))))))) (Nat.le_of_eq hzO101))
          replace hX29 := ho.ext hX29 (Nat.le_trans (Nat.le_trans hs41 (Nat.le_trans hs46 (Nat.le_trans hs50 (Nat.le_trans hs53 (Nat.le_trans hs55 (Nat.le_trans hs65 (Nat.le_trans hs70 (Nat.le_trans hs73 (Nat.le_trans hs75 (Nat.le_trans hs80 hs86)))))))))) (Nat.le_of_eq hzO101))
          replace hX66 := ho.ext hX66 (Nat.le_trans (Nat.le_trans hs70 (Nat.le_trans hs73 (Nat.le_trans hs75 (Nat.le_trans hs80 hs86)))) (Nat.le_of_eq hzO101))
          replace hX74 := ho.ext hX74 (Nat.le_trans (Nat.le_trans hs75 (Nat.le_trans hs80 hs86)) (Nat.le_of_eq hzO101))
          replace hX78 := ho.ext hX78 (Nat.le_trans (Nat.le_trans hs80 hs86) (Nat.le_of_eq hzO101))
          replace v83 := ho.va (Nat.ne_of_gt (Nat.lt_of_lt_of_le lt87 (Nat.le_of_eq hzO101))) v83
          replace v107 := ho.va (Nat.ne_of_lt (Nat.lt_of_lt_of_le lt104 hn108)) v107
          have hs113 : w109.heap.size ≤ X112.heap.size := Nat.le_of_eq ho.size.symm
          clear ho hk bO101_0
          have bO101_0 := hv0; clear hv0
          refine ⟨(hX29.cell d1), ?_⟩
          refine wd_take 18 (.int .i64 0) hR rfl (by kernel_rfl) rfl (by kernel_rfl) (fun w _ => by kernel_rfl) ((hX29.cell d1)) ?_
          refine wd_end hL hR hK (by kernel_rfl) ?_
          exact qw_leaf hJ [2, 3, 9, 11, 12, 14, 16, 19, 20, 21, 22] (ws' := [(2, .slice a2 n2 c2), (3, .int .i64 (i3 : Int)), (9, .pointer (some ⟨O1, 0, none⟩)), (11, .pointer (some ⟨O14, 0, none⟩)), (12, .slice (some ⟨sb, so, none⟩) t21 lc23), (14, .pointer (some ⟨O48, 0, none⟩)), (16, .slice pa56 t21 pc57), (19, .slice a9 i c9), (20, .int .i64 (((i : Nat) : Int) : Int)), (21, .pointer (some ⟨O101, 0, none⟩)), (22, .int .i64 0)]) (by kernel_rfl) ⟨B81, k82, B105, k106, O101, rfl, hE, hX29, hX66, hX74, hX78, v83, v107, bO101_0, (Nat.le_trans hs80 (Nat.le_trans hs86 (Nat.le_trans hs103 (Nat.le_trans hs110 hs113)))), (Nat.le_trans hs80 hn84), (Nat.le_trans (Nat.le_trans hs80 (Nat.le_trans hs86 hs103)) hn108), (Nat.le_trans (Nat.le_trans hs80 hs86) (Nat.le_of_eq hzO101)), Lib.hid (Nat.ne_of_lt (Nat.lt_of_lt_of_le lt87 (Nat.le_trans hs103 hn108))), Lib.hid (Nat.ne_of_lt (Nat.lt_of_lt_of_le lt87 (Nat.le_of_eq hzO101))), Lib.hid (Nat.ne_of_gt (Nat.lt_of_lt_of_le lt104 hn108))⟩
      ·
        refine sn_new (us := #[.slice none 0 0]) (t := 25) (by kernel_rfl) ?_
        intro O114 X115 hO hOs hb hbx
        have hzO114 := hO; have hyO114 := hOs; clear hO hOs
        have bO114_0 : BoxAt X115 O114 0 (.slice none 0 0) := hbx 0 _ rfl
        clear hbx
        replace hE := hE.trans hb
        replace hX29 := hX29.trans hb
        replace hX66 := hX66.trans hb
        replace hX74 := hX74.trans hb
        replace hX78 := hX78.trans hb
        have hs116 := hb.size
        clear hb
        have lt117 := bO114_0.lt
        refine ⟨(hX29.cell d1), ?_⟩
        refine wd_step 11 hR rfl (by kernel_rfl) (by kernel_rfl) (by kernel_rfl) (sn_call (f := 11) (args := #[.slice (if c2 = M then a2 else a2.map (fun x => x.add (M * 4))) (n2 - M) (c2 - M)]) (by kernel_rfl) ((Area_c _ _ QM hE (by omega)).mono ?_))
        rintro e w122 ⟨B118, k119, rfl, hn121, v120, hb⟩
        replace hE := hE.trans hb
        replace hX29 := hX29.trans hb
        replace hX66 := hX66.trans hb
        replace hX74 := hX74.trans hb
        replace hX78 := hX78.trans hb
        replace bO114_0 := BoxAt.ext hb bO114_0
        have hs123 := hb.size
        clear hb
        have lt124 := v120.lt
        refine ⟨_, rfl, (hX29.cell d1), ?_⟩
        refine wd_step 12 hR rfl (by kernel_rfl) (by kernel_rfl) (by kernel_rfl) (sn_call (f := 28) (args := #[.agg #[.slice (some ⟨S1, s1, none⟩) 24 e1], .agg #[.slice (some ⟨B118, 0, none⟩) 24 k119]]) (by kernel_rfl) ((Meet_v _ _ _ (g1.ext hX29) (Ext.refl _) v120 (Ext.refl _)).mono ?_))
        rintro e w129 ⟨B125, k126, rfl, hn128, -, v127, hb⟩
        replace hE := hE.trans hb
        replace hX29 := hX29.trans hb
        replace hX66 := hX66.trans hb
        replace hX74 := hX74.trans hb
        replace hX78 := hX78.trans hb
        replace bO114_0 := BoxAt.ext hb bO114_0
        replace v120 := v120.ext hb
        have hs130 := hb.size
        clear hb
        have lt131 := v127.lt
        refine ⟨_, rfl, (hX29.cell d1), ?_⟩
        refine wd_take 13 (.tuple #[.agg #[.slice (some ⟨B125, 0, none⟩) 24 k126], .int .i64 0]) hR rfl (by kernel_rfl) rfl (by kernel_rfl) (fun w _ => by kernel_rfl) ((hX29.cell d1)) ?_
        refine wd_take 14 (.agg #[.slice (some ⟨B125, 0, none⟩) 24 k126]) hR rfl (by kernel_rfl) rfl (by kernel_rfl) (fun w _ => by kernel_rfl) ((hX29.cell d1)) ?_
        refine wd_take 15 (.int .i64 0) hR rfl (by kernel_rfl) rfl (by kernel_rfl) (fun w _ => by kernel_rfl) ((hX29.cell d1)) ?_
        refine wd_step 17 hR rfl (by kernel_rfl) (by kernel_rfl) (by kernel_rfl) (sn_set (O := O114) (j := 0) (v := .slice (some ⟨B125, 0, none⟩) 24 k126) (ex_store (p := .pointer (some ⟨O114, 0, none⟩)) (v := .agg #[.slice (some ⟨B125, 0, none⟩) 24 k126]) rfl (by kernel_rfl) (by kernel_rfl) (st25 bO114_0.1 bO114_0.2)) bO114_0 ?_)
        intro X132 ho hv0 hk
        replace hE := ho.ext hE (Nat.le_trans (Nat.le_trans hs3 (Nat.le_trans hs6 (Nat.le_trans hs12 (Nat.le_trans hs16 (Nat.le_trans hs19 (Nat.le_trans hs28 (Nat.le_trans hs41 (Nat.le_trans hs46 (Nat.le_trans hs50 (Nat.le_trans hs53 (Nat.le_trans hs55 (Nat.le_trans hs65 (Nat.le_trans hs70 (Nat.le_trans hs73 (Nat.le_trans hs75 hs80))))))))))))))) (Nat.le_of_eq hzO114))
        replace hX29 := ho.ext hX29 (Nat.le_trans (Nat.le_trans hs41 (Nat.le_trans hs46 (Nat.le_trans hs50 (Nat.le_trans hs53 (Nat.le_trans hs55 (Nat.le_trans hs65 (Nat.le_trans hs70 (Nat.le_trans hs73 (Nat.le_trans hs75 hs80))))))))) (Nat.le_of_eq hzO114))
        replace hX66 := ho.ext hX66 (Nat.le_trans (Nat.le_trans hs70 (Nat.le_trans hs73 (Nat.le_trans hs75 hs80))) (Nat.le_of_eq hzO114))
        replace hX74 := ho.ext hX74 (Nat.le_trans (Nat.le_trans hs75 hs80) (Nat.le_of_eq hzO114))
        replace hX78 := ho.ext hX78 (Nat.le_trans hs80 (Nat.le_of_eq hzO114))
        replace v120 := ho.va (Nat.ne_of_lt (Nat.lt_of_lt_of_le lt117 hn121)) v120
        replace v127 := ho.va (Nat.ne_of_lt (Nat.lt_of_lt_of_le lt117 (Nat.le_trans hs123 hn128))) v127
        have hs133 : w129.heap.size ≤ X132.heap.size := Nat.le_of_eq ho.size.symm
        clear ho hk bO114_0
        have bO114_0 := hv0; clear hv0
        refine ⟨(hX29.cell d1), ?_⟩
        refine wd_take 18 (.int .i64 0) hR rfl (by kernel_rfl) rfl (by kernel_rfl) (fun w _ => by kernel_rfl) ((hX29.cell d1)) ?_
        refine wd_end hL hR hK (by kernel_rfl) ?_
        exact qw_leaf hJ [2, 3, 9, 11, 12, 14, 16, 19, 20, 21, 22] (ws' := [(2, .slice a2 n2 c2), (3, .int .i64 (i3 : Int)), (9, .pointer (some ⟨O1, 0, none⟩)), (11, .pointer (some ⟨O14, 0, none⟩)), (12, .slice (some ⟨sb, so, none⟩) t21 lc23), (14, .pointer (some ⟨O48, 0, none⟩)), (16, .slice pa56 t21 pc57), (19, .slice a9 i c9), (20, .int .i64 (((i : Nat) : Int) : Int)), (21, .pointer (some ⟨O114, 0, none⟩)), (22, .int .i64 0)]) (by kernel_rfl) ⟨B118, k119, B125, k126, O114, rfl, hE, hX29, hX66, hX74, hX78, v120, v127, bO114_0, (Nat.le_trans hs80 (Nat.le_trans hs116 (Nat.le_trans hs123 (Nat.le_trans hs130 hs133)))), (Nat.le_trans (Nat.le_trans hs80 hs116) hn121), (Nat.le_trans (Nat.le_trans hs80 (Nat.le_trans hs116 hs123)) hn128), (Nat.le_trans hs80 (Nat.le_of_eq hzO114)), Lib.hid (Nat.ne_of_lt (Nat.lt_of_lt_of_le lt124 hn128)), Lib.hid (Nat.ne_of_gt (Nat.lt_of_lt_of_le lt117 hn121)), Lib.hid (Nat.ne_of_gt (Nat.lt_of_lt_of_le lt117 (Nat.le_trans hs123 hn128)))⟩
    ·
      clear hE hX29 hX66 hX74 hX78
      rintro L ws Y134 ⟨B81, k82, B88, k89, O95, rfl, hE, hX29, hX66, hX74, hX78, v83, v90, bO95_0, hn135, hn136, hn137, hn138, hn139, hn140, hn141⟩
      have lt142 := v83.lt
      have lt143 := v90.lt
      have lt144 := bO95_0.lt
      refine qw_then ?_
      refine cw_seq ?_
      refine cw_seq ?_
      refine cw_plain ?_
      refine pl_take (.int .i64 0) rfl (by kernel_rfl) (by kernel_rfl) (by kernel_rfl) (by kernel_rfl) ?_
      refine pl_take (.bool false) rfl (by kernel_rfl) (by kernel_rfl) (by kernel_rfl) (by kernel_rfl) ?_
      refine pl_nil ?_
      refine qw_then ?_
      refine cw_f (by kernel_rfl) ?_
      refine cw_skip ?_
      refine qw_then ?_
      refine cw_plain ?_
      refine pl_take (.slice a9 i c9) rfl (by kernel_rfl) (by kernel_rfl) (by kernel_rfl) (by kernel_rfl) ?_
      refine pl_take (.agg #[.slice (some ⟨B88, 0, none⟩) 24 k89]) rfl (by kernel_rfl) (by kernel_rfl) (by kernel_rfl) (ex_load rfl (by kernel_rfl) (ld25 (bO95_0.1))) ?_
      refine pl_step rfl (by kernel_rfl) (by kernel_rfl) (by kernel_rfl) (sn_newS (us := #[.slice (some ⟨B88, 0, none⟩) 24 k89]) (t := 25) (k := 1) (c := 1) (by kernel_rfl) ?_)
      intro O145 X146 hO hOs hb hbx
      have hzO145 := hO; have hyO145 := hOs; clear hO hOs
      have bO145_0 : BoxAt X146 O145 0 (.slice (some ⟨B88, 0, none⟩) 24 k89) := hbx 0 _ rfl
      clear hbx
      replace hE := hE.trans hb
      replace hX29 := hX29.trans hb
      replace hX66 := hX66.trans hb
      replace hX74 := hX74.trans hb
      replace hX78 := hX78.trans hb
      replace v83 := v83.ext hb
      replace v90 := v90.ext hb
      replace bO95_0 := BoxAt.ext hb bO95_0
      have hs147 := hb.size
      clear hb
      have lt148 := bO145_0.lt
      obtain ⟨g149, cap150, w151, hrun152, own153, hgr154⟩ := own_app1 (P := Tryd.prog) (ty := 34) areaT (own9.ext hX78) (Nat.le_trans hs75 (Nat.le_trans hn135 hs147)) (k := i) hlp (O := O145) (c := 1) (x := Globe.meetL s.1 (areaL (fun i j => q2 (i + M) j) (n2 - M))) (d := [.slice (some ⟨B88, 0, none⟩) 24 k89]) rfl (cells1 bO145_0.1) (by simp [Value.oneCell']) (⟨_, _, _, rfl, v90, rfl⟩) (away1 hbk hn137) (by omega) (by omega)
      refine pl_step rfl (by kernel_rfl) (by kernel_rfl) (by kernel_rfl) (sn_eff (v := .slice (some ⟨g149, 0, none⟩) (i + 1) cap150) (w' := w151) (ex_append rfl (by kernel_rfl) (by kernel_rfl) hrun152) ?_)
      replace hE := hgr154.ext _ hE (Nat.le_trans hs3 (Nat.le_trans hs6 (Nat.le_trans hs12 (Nat.le_trans hs16 (Nat.le_trans hs19 (Nat.le_trans hs28 (Nat.le_trans hs41 (Nat.le_trans hs46 (Nat.le_trans hs50 (Nat.le_trans hs53 (Nat.le_trans hs55 (Nat.le_trans hs65 (Nat.le_trans hs70 hs73)))))))))))))
      replace hX29 := hgr154.ext _ hX29 (Nat.le_trans hs41 (Nat.le_trans hs46 (Nat.le_trans hs50 (Nat.le_trans hs53 (Nat.le_trans hs55 (Nat.le_trans hs65 (Nat.le_trans hs70 hs73)))))))
      replace hX66 := hgr154.ext _ hX66 (Nat.le_trans hs70 hs73)
      replace hX74 := hgr154.ext _ hX74 (Nat.le_refl _)
      have hs155 := hgr154.size
      refine pl_take (.slice (some ⟨g149, 0, none⟩) (i + 1) cap150) rfl (by kernel_rfl) (by kernel_rfl) (by kernel_rfl) (by kernel_rfl) ?_
      refine pl_nil ?_
      refine qw_block ?_
      refine qw_then ?_
      refine cw_clean [2, 3, 9, 11, 12, 14, 16, 19, 20] (ws' := [(2, .slice a2 n2 c2), (3, .int .i64 (i3 : Int)), (9, .pointer (some ⟨O1, 0, none⟩)), (11, .pointer (some ⟨O14, 0, none⟩)), (12, .slice (some ⟨sb, so, none⟩) t21 lc23), (14, .pointer (some ⟨O48, 0, none⟩)), (16, .slice pa56 t21 pc57), (19, .slice (some ⟨g149, 0, none⟩) (i + 1) cap150), (20, .int .i64 (((i : Nat) : Int) : Int))]) (by kernel_rfl) (fun L => ?_)
      refine cw_plain ?_
      refine pl_take (.int .i64 (((i : Nat) : Int) : Int)) rfl (by kernel_rfl) (by kernel_rfl) (by kernel_rfl) (by kernel_rfl) ?_
      refine pl_take (.int .i64 (((i + 1 : Nat) : Int) : Int)) rfl (by kernel_rfl) (by kernel_rfl) (by kernel_rfl) (ev_wrap (by kernel_rfl) (by omega) (by omega)) ?_
      refine pl_take (.int .i64 (((i + 1 : Nat) : Int) : Int)) rfl (by kernel_rfl) (by kernel_rfl) (by kernel_rfl) (by kernel_rfl) ?_
      refine pl_nil ?_
      refine qw_round [2, 3, 9, 11, 12, 14, 16, 19, 20] (ws' := [(2, .slice a2 n2 c2), (3, .int .i64 (i3 : Int)), (9, .pointer (some ⟨O1, 0, none⟩)), (11, .pointer (some ⟨O14, 0, none⟩)), (12, .slice (some ⟨sb, so, none⟩) t21 lc23), (14, .pointer (some ⟨O48, 0, none⟩)), (16, .slice pa56 t21 pc57), (19, .slice (some ⟨g149, 0, none⟩) (i + 1) cap150), (20, .int .i64 (((i + 1 : Nat) : Int) : Int))]) (by kernel_rfl) _ ?_ ⟨(some ⟨g149, 0, none⟩), (i + 1), cap150, (LP ++ [(Globe.meetL s.1 (areaL (fun i j => q2 (i + M) j) (n2 - M)))]), rfl, rfl, (Nat.le_trans hs75 (Nat.le_trans hn135 (Nat.le_trans hs147 hs155))), hE, hX29, hX66, hX74, own153, by omega, (by rw [List.length_append, hlp]; rfl)⟩
      omega
  ·
    have hit : t21 = i := by omega
    have pM := own9.areas hlp (by omega)
    subst hit
    refine cw_seq ?_
    refine cw_seq ?_
    refine cw_plain ?_
    refine pl_take (.int .i64 (((t21 : Nat) : Int) : Int)) rfl (by kernel_rfl) (by kernel_rfl) (by kernel_rfl) (by kernel_rfl) ?_
    refine pl_take (.slice la22 t21 lc23) rfl (by kernel_rfl) (by kernel_rfl) (by kernel_rfl) (by kernel_rfl) ?_
    refine pl_take (.int .i64 (((t21 : Nat) : Int) : Int)) rfl (by kernel_rfl) (by kernel_rfl) (by kernel_rfl) (by kernel_rfl) ?_
    refine pl_take (.bool false) rfl (by kernel_rfl) (by kernel_rfl) (by kernel_rfl) (ev_ndec (show _ = Result.ok (Next.value (Value.bool (decide ((((t21 : Nat) : Int) : Int) < (((t21 : Nat) : Int) : Int))))) _ from by kernel_rfl) (by omega)) ?_
    refine pl_nil ?_
    refine qw_then ?_
    refine cw_f (by kernel_rfl) ?_
    refine cw_exit ?_
    refine qw_then_exit ?_
    refine qw_then_exit ?_
    refine qw_block_out ?_
    refine qw_then ?_
    refine cw_seq ?_
    refine cw_seq ?_
    have hself : ∀ b, decide ((Globe.cellsTo (Globe.leftL (areaL q0 n0) (ss20.map fun s => s.1)) 24).length = 0) = b → checkB (areaL q0 n0) ss20 (Globe.piecesL (areaL q0 n0) (ss20.map fun s => s.1)) = b := fun b hb => check_b (by rw [Globe.check_own _ v9.2 (sures_ok hok25)]; exact hb) v9.2 hok25 (by rw [Globe.pieces_len, List.length_map])
    rcases Bool.eq_false_or_eq_true (checkB (areaL q0 n0) ss20 LP) with hck | hck
    ·
      have hz : (Globe.cellsTo (Globe.leftL (areaL q0 n0) (ss20.map fun s => s.1)) 24).length = 0 := Globe.left_zero_of_check v9.2 (check_of hck)
      refine cw_draw [(some 88, [11], []), (some 89, [12], []), (some 90, [19], []), (some 91, [88, 89, 90], [0, 1, 2]), (some 92, [91], [3, 3]), (some 93, [14, 92], [4]), (some 94, [93, 92], [5, 4, 4]), (some 95, [94, 92], [6, 4]), (some 96, [92, 95], [4, 7]), (some 97, [96], [8, 6]), (some 98, [11, 97], [9]), (some 99, [12, 97], [9]), (some 100, [16, 97], [9]), (some 101, [98, 99, 100, 97], [10, 11, 12, 9, 9]), (some 102, [14, 97], [9]), (some 103, [102, 97], [14, 13, 9]), (some 104, [103, 97], [15, 9]), (some 105, [101, 104, 97], [13, 16, 9]), (some 106, [97, 105], [9, 17])] (fun w' => w'.cell? ⟨O14, 0, none⟩ = some (.slice (some ⟨B7, 0, none⟩) 24 k8) ∧ w'.cell? ⟨O48, 0, none⟩ = some (.slice (some ⟨B33, o34, none⟩) 24 k35)) (by kernel_rfl) (by kernel_rfl) (by kernel_rfl) (by kernel_rfl) ((calm_then (calm_then calm_body))) (⟨(BoxAt.ext hX74 bO14_0).1, (BoxAt.ext hX74 bO48_0).1⟩) (fun ops Q X156 hb hL hR hK => ?_)
      replace hE := hE.trans hb
      replace hX29 := hX29.trans hb
      replace hX66 := hX66.trans hb
      replace hX74 := hX74.trans hb
      replace hX78 := hX78.trans hb
      have hs157 := hb.size
      clear hb
      refine wd_take 0 (.agg #[.slice (some ⟨B7, 0, none⟩) 24 k8]) hR rfl (by kernel_rfl) rfl (by kernel_rfl) (fun w hS => ex_load rfl (by kernel_rfl) (ld25 (hS.1))) (⟨(BoxAt.ext hX74 bO14_0).1, (BoxAt.ext hX74 bO48_0).1⟩) ?_
      refine wd_take 1 (.slice la22 t21 lc23) hR rfl (by kernel_rfl) rfl (by kernel_rfl) (fun w _ => by kernel_rfl) (⟨(BoxAt.ext hX74 bO14_0).1, (BoxAt.ext hX74 bO48_0).1⟩) ?_
      refine wd_take 2 (.slice a9 t21 c9) hR rfl (by kernel_rfl) rfl (by kernel_rfl) (fun w _ => by kernel_rfl) (⟨(BoxAt.ext hX74 bO14_0).1, (BoxAt.ext hX74 bO48_0).1⟩) ?_
      refine wd_step 3 hR rfl (by kernel_rfl) (by kernel_rfl) (by kernel_rfl) (sn_call (f := 23) (args := #[.agg #[.slice (some ⟨B7, 0, none⟩) 24 k8], .slice la22 t21 lc23, .slice a9 t21 c9]) (by kernel_rfl) ((Check_r (r := true) _ _ _ _ (v9.ext hX74).aa (Ext.refl _) sS24 hX29 pM hX78 (hT.ext hE) (hck)).mono ?_))
      rintro e w158 ⟨rfl, hb⟩
      replace hE := hE.trans hb
      replace hX29 := hX29.trans hb
      replace hX66 := hX66.trans hb
      replace hX74 := hX74.trans hb
      replace hX78 := hX78.trans hb
      have hs159 := hb.size
      clear hb
      refine ⟨_, rfl, ⟨(BoxAt.ext hX74 bO14_0).1, (BoxAt.ext hX74 bO48_0).1⟩, ?_⟩
      refine wd_take 4 (.bool true) hR rfl (by kernel_rfl) rfl (by kernel_rfl) (fun w _ => by kernel_rfl) (⟨(BoxAt.ext hX74 bO14_0).1, (BoxAt.ext hX74 bO48_0).1⟩) ?_
      refine wd_take 5 (.agg #[.slice (some ⟨B33, o34, none⟩) 24 k35]) hR rfl (by kernel_rfl) rfl (by kernel_rfl) (fun w hS => ex_load rfl (by kernel_rfl) (ld25 (hS.2))) (⟨(BoxAt.ext hX74 bO14_0).1, (BoxAt.ext hX74 bO48_0).1⟩) ?_
      refine wd_step 6 hR rfl (by kernel_rfl) (by kernel_rfl) (by kernel_rfl) (sn_call (f := 29) (args := #[.agg #[.slice (some ⟨B33, o34, none⟩) 24 k35]]) (by kernel_rfl) ((Count_v _ _ (v37.ext hX74) (Ext.refl _) (hT.ext hE)).mono ?_))
      rintro e w160 ⟨rfl, hb⟩
      replace hE := hE.trans hb
      replace hX29 := hX29.trans hb
      replace hX66 := hX66.trans hb
      replace hX74 := hX74.trans hb
      replace hX78 := hX78.trans hb
      have hs161 := hb.size
      clear hb
      refine ⟨_, rfl, ⟨(BoxAt.ext hX74 bO14_0).1, (BoxAt.ext hX74 bO48_0).1⟩, ?_⟩
      refine wd_take 7 (.bool false) hR rfl (by kernel_rfl) rfl (by kernel_rfl) (fun w _ => ev_nne (show _ = Result.ok (Next.value (Value.bool (((((Globe.cellsTo (Globe.leftL (areaL q0 n0) (ss20.map fun s => s.1)) 24).length : Nat) : Int) : Int) != (0 : Int)))) _ from by kernel_rfl) (by omega)) (⟨(BoxAt.ext hX74 bO14_0).1, (BoxAt.ext hX74 bO48_0).1⟩) ?_
      refine wd_take 8 (.bool false) hR rfl (by kernel_rfl) rfl (by kernel_rfl) (fun w _ => by kernel_rfl) (⟨(BoxAt.ext hX74 bO14_0).1, (BoxAt.ext hX74 bO48_0).1⟩) ?_
      refine wd_take 9 (.bool false) hR rfl (by kernel_rfl) rfl (by kernel_rfl) (fun w _ => by kernel_rfl) (⟨(BoxAt.ext hX74 bO14_0).1, (BoxAt.ext hX74 bO48_0).1⟩) ?_
      refine wd_take 10 (.agg #[.slice (some ⟨B7, 0, none⟩) 24 k8]) hR rfl (by kernel_rfl) rfl (by kernel_rfl) (fun w hS => ex_load rfl (by kernel_rfl) (ld25 (hS.1))) (⟨(BoxAt.ext hX74 bO14_0).1, (BoxAt.ext hX74 bO48_0).1⟩) ?_
      refine wd_take 11 (.slice la22 t21 lc23) hR rfl (by kernel_rfl) rfl (by kernel_rfl) (fun w _ => by kernel_rfl) (⟨(BoxAt.ext hX74 bO14_0).1, (BoxAt.ext hX74 bO48_0).1⟩) ?_
      refine wd_take 12 (.slice pa56 t21 pc57) hR rfl (by kernel_rfl) rfl (by kernel_rfl) (fun w _ => by kernel_rfl) (⟨(BoxAt.ext hX74 bO14_0).1, (BoxAt.ext hX74 bO48_0).1⟩) ?_
      refine wd_take 14 (.agg #[.slice (some ⟨B33, o34, none⟩) 24 k35]) hR rfl (by kernel_rfl) rfl (by kernel_rfl) (fun w hS => ex_load rfl (by kernel_rfl) (ld25 (hS.2))) (⟨(BoxAt.ext hX74 bO14_0).1, (BoxAt.ext hX74 bO48_0).1⟩) ?_
      refine wd_step 13 hR rfl (by kernel_rfl) (by kernel_rfl) (by kernel_rfl) (sn_call (f := 23) (args := #[.agg #[.slice (some ⟨B7, 0, none⟩) 24 k8], .slice la22 t21 lc23, .slice pa56 t21 pc57]) (by kernel_rfl) ((Check_r (r := true) _ _ _ _ (v9.ext hX74).aa (Ext.refl _) sS24 hX29 hP62 hX66 (hT.ext hE) (hself _ (decide_eq_true hz))).mono ?_))
      rintro e w162 ⟨rfl, hb⟩
      replace hE := hE.trans hb
      replace hX29 := hX29.trans hb
      replace hX66 := hX66.trans hb
      replace hX74 := hX74.trans hb
      replace hX78 := hX78.trans hb
      have hs163 := hb.size
      clear hb
      refine ⟨_, rfl, ⟨(BoxAt.ext hX74 bO14_0).1, (BoxAt.ext hX74 bO48_0).1⟩, ?_⟩
      refine wd_step 15 hR rfl (by kernel_rfl) (by kernel_rfl) (by kernel_rfl) (sn_call (f := 29) (args := #[.agg #[.slice (some ⟨B33, o34, none⟩) 24 k35]]) (by kernel_rfl) ((Count_v _ _ (v37.ext hX74) (Ext.refl _) (hT.ext hE)).mono ?_))
      rintro e w164 ⟨rfl, hb⟩
      replace hE := hE.trans hb
      replace hX29 := hX29.trans hb
      replace hX66 := hX66.trans hb
      replace hX74 := hX74.trans hb
      replace hX78 := hX78.trans hb
      have hs165 := hb.size
      clear hb
      refine ⟨_, rfl, ⟨(BoxAt.ext hX74 bO14_0).1, (BoxAt.ext hX74 bO48_0).1⟩, ?_⟩
      refine wd_take 16 (.bool true) hR rfl (by kernel_rfl) rfl (by kernel_rfl) (fun w _ => ev_eq (show _ = Result.ok (Next.value (Value.bool (((((Globe.cellsTo (Globe.leftL (areaL q0 n0) (ss20.map fun s => s.1)) 24).length : Nat) : Int) : Int) == (0 : Int)))) _ from by kernel_rfl) (by omega)) (⟨(BoxAt.ext hX74 bO14_0).1, (BoxAt.ext hX74 bO48_0).1⟩) ?_
      refine wd_take 17 (.bool false) hR rfl (by kernel_rfl) rfl (by kernel_rfl) (fun w _ => by kernel_rfl) (⟨(BoxAt.ext hX74 bO14_0).1, (BoxAt.ext hX74 bO48_0).1⟩) ?_
      refine wd_take 18 (.bool false) hR rfl (by kernel_rfl) rfl (by kernel_rfl) (fun w _ => by kernel_rfl) (⟨(BoxAt.ext hX74 bO14_0).1, (BoxAt.ext hX74 bO48_0).1⟩) ?_
      refine wd_end hL hR hK (by kernel_rfl) ?_
      refine qw_then ?_
      refine cw_clean [3, 9, 11, 12, 16, 106] (ws' := [(3, .int .i64 (i3 : Int)), (9, .pointer (some ⟨O1, 0, none⟩)), (11, .pointer (some ⟨O14, 0, none⟩)), (12, .slice la22 t21 lc23), (16, .slice pa56 t21 pc57), (106, .bool false)]) (by kernel_rfl) (fun L => ?_)
      refine cw_f (by kernel_rfl) ?_
      refine cw_skip ?_
      refine qw_then ?_
      refine cw_seq ?_
      refine cw_seq ?_
      refine cw_plain ?_
      refine pl_take (.slice pa56 t21 pc57) rfl (by kernel_rfl) (by kernel_rfl) (by kernel_rfl) (by kernel_rfl) ?_
      refine pl_take (.int .i64 (((t21 : Nat) : Int) : Int)) rfl (by kernel_rfl) (by kernel_rfl) (by kernel_rfl) (by kernel_rfl) ?_
      by_cases hc166 : (((t21 : Nat) : Int) : Int) = (0 : Int)
      ·
        refine pl_take (.bool true) rfl (by kernel_rfl) (by kernel_rfl) (by kernel_rfl) (ev_eq (show _ = Result.ok (Next.value (Value.bool ((((t21 : Nat) : Int) : Int) == (0 : Int)))) _ from by kernel_rfl) (hc166)) ?_
        refine pl_nil ?_
        refine qw_then ?_
        refine cw_t (by kernel_rfl) ?_
        refine cw_seq ?_
        refine cw_plain ?_
        refine pl_take (.bool true) rfl (by kernel_rfl) (by kernel_rfl) (by kernel_rfl) (by kernel_rfl) ?_
        refine pl_nil ?_
        refine qw_then ?_
        refine cw_ret ?_
        refine qw_then_ret ?_
        refine qw_ret [.bool true] rfl ⟨(by kernel_rfl), trivial⟩ ?_
        exact ⟨rfl, hE⟩
      ·
        refine pl_take (.bool false) rfl (by kernel_rfl) (by kernel_rfl) (by kernel_rfl) (ev_neq (show _ = Result.ok (Next.value (Value.bool ((((t21 : Nat) : Int) : Int) == (0 : Int)))) _ from by kernel_rfl) (hc166)) ?_
        refine pl_nil ?_
        refine qw_then ?_
        refine cw_f (by kernel_rfl) ?_
        refine cw_skip ?_
        refine qw_then ?_
        refine cw_seq ?_
        refine cw_plain ?_
        refine pl_take (.int .i64 (i3 : Int)) rfl (by kernel_rfl) (by kernel_rfl) (by kernel_rfl) (by kernel_rfl) ?_
        refine pl_take (.slice pa56 t21 pc57) rfl (by kernel_rfl) (by kernel_rfl) (by kernel_rfl) (by kernel_rfl) ?_
        refine pl_take (.int .i64 (((t21 : Nat) : Int) : Int)) rfl (by kernel_rfl) (by kernel_rfl) (by kernel_rfl) (by kernel_rfl) ?_
        refine pl_step rfl (by kernel_rfl) (by kernel_rfl) (by kernel_rfl) (sn_call (f := 14) (args := #[.int .i64 (i3 : Int), .int .i64 (((t21 : Nat) : Int) : Int)]) (by kernel_rfl) ((pickN_c _ t21 _ hi3 (by omega) (by omega)).mono ?_))
        rintro e w' ⟨kk, rfl, kkl, kkp, rfl⟩
        refine ⟨_, rfl, ?_⟩
        refine pl_take (.int .i64 (((kk : Nat) : Int) : Int)) rfl (by kernel_rfl) (by kernel_rfl) (by kernel_rfl) (by kernel_rfl) ?_
        refine pl_nil ?_
        refine qw_then ?_
        refine cw_seq ?_
        have hX167 : Ext w164 w164 := Ext.refl _
        obtain ⟨pb, po, P, a1', n1', c1', v1', rfl, hp, dp, gp⟩ := hP62.at (by omega : kk < t21)
        have hPv : Globe.validL P = true := Globe.pieces_valid _ v9.2 P (List.mem_of_getElem? hp)
        obtain rfl : v1' = true := gp.2.2.2.symm.trans hPv
        obtain ⟨PB, pO, rfl, rfl, gp'⟩ := gp.va
        refine cw_plain ?_
        refine pl_step rfl (by kernel_rfl) (by kernel_rfl) (by kernel_rfl) (sn_newS0 (t := 3) (by kernel_rfl) ?_)
        intro O168 X169 hO hOs hb hpO168
        have hzO168 := hO; have hyO168 : O168 < X169.heap.size := (by omega); clear hO hOs
        replace hE := hE.trans hb
        replace hX29 := hX29.trans hb
        replace hX66 := hX66.trans hb
        replace hX74 := hX74.trans hb
        replace hX78 := hX78.trans hb
        replace hX167 := hX167.trans hb
        have hs170 := hb.size
        clear hb
        refine pl_take (.slice (some ⟨pb, po, none⟩) t21 pc57) rfl (by kernel_rfl) (by kernel_rfl) (by kernel_rfl) (by kernel_rfl) ?_
        refine pl_take (.int .i64 (((kk : Nat) : Int) : Int)) rfl (by kernel_rfl) (by kernel_rfl) (by kernel_rfl) (by kernel_rfl) ?_
        refine pl_take (.pointer (some ⟨pb, po + kk, none⟩)) rfl (by kernel_rfl) (by kernel_rfl) (by kernel_rfl) (ex_index (p := .slice (some ⟨pb, po, none⟩) t21 pc57) (i := .int .i64 ((kk : Nat) : Int)) rfl (by kernel_rfl) (by kernel_rfl) (ix34 (k := kk) (by omega))) ?_
        refine pl_take (.pointer (some ⟨pb, po + kk, none⟩)) rfl (by kernel_rfl) (by kernel_rfl) (by kernel_rfl) (by kernel_rfl) ?_
        refine pl_take (.slice (some ⟨PB, pO, none⟩) 24 c1') rfl (by kernel_rfl) (by kernel_rfl) (by kernel_rfl) (ex_load rfl (by kernel_rfl) (ld23 ((hX66.cell dp)))) ?_
        obtain ⟨g171, cap172, w173, hrun174, hrow175, hge176, hgr177⟩ := app_rows (ty := 23) (c := c1') hpO168 (gp'.ext hX66)
        refine pl_step rfl (by kernel_rfl) (by kernel_rfl) (by kernel_rfl) (sn_eff (v := .slice (some ⟨g171, 0, none⟩) 24 cap172) (w' := w173) (ex_append rfl (by kernel_rfl) (by kernel_rfl) hrun174) ?_)
        replace hE := hgr177.ext _ hE (Nat.le_trans (Nat.le_trans hs3 (Nat.le_trans hs6 (Nat.le_trans hs12 (Nat.le_trans hs16 (Nat.le_trans hs19 (Nat.le_trans hs28 (Nat.le_trans hs41 (Nat.le_trans hs46 (Nat.le_trans hs50 (Nat.le_trans hs53 (Nat.le_trans hs55 (Nat.le_trans hs65 (Nat.le_trans hs70 (Nat.le_trans hs73 (Nat.le_trans hs75 (Nat.le_trans hs157 (Nat.le_trans hs159 (Nat.le_trans hs161 (Nat.le_trans hs163 hs165))))))))))))))))))) (Nat.le_of_eq hzO168))
        replace hX29 := hgr177.ext _ hX29 (Nat.le_trans (Nat.le_trans hs41 (Nat.le_trans hs46 (Nat.le_trans hs50 (Nat.le_trans hs53 (Nat.le_trans hs55 (Nat.le_trans hs65 (Nat.le_trans hs70 (Nat.le_trans hs73 (Nat.le_trans hs75 (Nat.le_trans hs157 (Nat.le_trans hs159 (Nat.le_trans hs161 (Nat.le_trans hs163 hs165))))))))))))) (Nat.le_of_eq hzO168))
        replace hX66 := hgr177.ext _ hX66 (Nat.le_trans (Nat.le_trans hs70 (Nat.le_trans hs73 (Nat.le_trans hs75 (Nat.le_trans hs157 (Nat.le_trans hs159 (Nat.le_trans hs161 (Nat.le_trans hs163 hs165))))))) (Nat.le_of_eq hzO168))
        replace hX74 := hgr177.ext _ hX74 (Nat.le_trans (Nat.le_trans hs75 (Nat.le_trans hs157 (Nat.le_trans hs159 (Nat.le_trans hs161 (Nat.le_trans hs163 hs165))))) (Nat.le_of_eq hzO168))
        replace hX78 := hgr177.ext _ hX78 (Nat.le_trans (Nat.le_trans hs157 (Nat.le_trans hs159 (Nat.le_trans hs161 (Nat.le_trans hs163 hs165)))) (Nat.le_of_eq hzO168))
        replace hX167 := hgr177.ext _ hX167 (Nat.le_of_eq hzO168)
        have hs178 := hgr177.size
        have lt179 := hrow175.lt
        have v180 := hrow175.va gp'.2
        refine pl_take (.agg #[.slice (some ⟨g171, 0, none⟩) 24 cap172]) rfl (by kernel_rfl) (by kernel_rfl) (by kernel_rfl) (by kernel_rfl) ?_
        refine pl_step rfl (by kernel_rfl) (by kernel_rfl) (by kernel_rfl) (sn_new (us := #[.slice none 0 0]) (t := 25) (by kernel_rfl) ?_)
        intro O181 X182 hO hOs hb hbx
        have hzO181 := hO; have hyO181 := hOs; clear hO hOs
        have bO181_0 : BoxAt X182 O181 0 (.slice none 0 0) := hbx 0 _ rfl
        clear hbx
        replace hE := hE.trans hb
        replace hX29 := hX29.trans hb
        replace hX66 := hX66.trans hb
        replace hX74 := hX74.trans hb
        replace hX78 := hX78.trans hb
        replace hX167 := hX167.trans hb
        replace hrow175 := hrow175.ext hb
        replace v180 := v180.ext hb
        have hs183 := hb.size
        clear hb
        have lt184 := bO181_0.lt
        refine pl_put rfl (by kernel_rfl) (by kernel_rfl) (sn_set (O := O181) (j := 0) (v := .slice (some ⟨g171, 0, none⟩) 24 cap172) (ex_store (p := .pointer (some ⟨O181, 0, none⟩)) (v := .agg #[.slice (some ⟨g171, 0, none⟩) 24 cap172]) rfl (by kernel_rfl) (by kernel_rfl) (st25 bO181_0.1 bO181_0.2)) bO181_0 ?_)
        intro X185 ho hv0 hk
        replace hE := ho.ext hE (Nat.le_trans (Nat.le_trans hs3 (Nat.le_trans hs6 (Nat.le_trans hs12 (Nat.le_trans hs16 (Nat.le_trans hs19 (Nat.le_trans hs28 (Nat.le_trans hs41 (Nat.le_trans hs46 (Nat.le_trans hs50 (Nat.le_trans hs53 (Nat.le_trans hs55 (Nat.le_trans hs65 (Nat.le_trans hs70 (Nat.le_trans hs73 (Nat.le_trans hs75 (Nat.le_trans hs157 (Nat.le_trans hs159 (Nat.le_trans hs161 (Nat.le_trans hs163 (Nat.le_trans hs165 (Nat.le_trans hs170 hs178))))))))))))))))))))) (Nat.le_of_eq hzO181))
        replace hX29 := ho.ext hX29 (Nat.le_trans (Nat.le_trans hs41 (Nat.le_trans hs46 (Nat.le_trans hs50 (Nat.le_trans hs53 (Nat.le_trans hs55 (Nat.le_trans hs65 (Nat.le_trans hs70 (Nat.le_trans hs73 (Nat.le_trans hs75 (Nat.le_trans hs157 (Nat.le_trans hs159 (Nat.le_trans hs161 (Nat.le_trans hs163 (Nat.le_trans hs165 (Nat.le_trans hs170 hs178))))))))))))))) (Nat.le_of_eq hzO181))
        replace hX66 := ho.ext hX66 (Nat.le_trans (Nat.le_trans hs70 (Nat.le_trans hs73 (Nat.le_trans hs75 (Nat.le_trans hs157 (Nat.le_trans hs159 (Nat.le_trans hs161 (Nat.le_trans hs163 (Nat.le_trans hs165 (Nat.le_trans hs170 hs178))))))))) (Nat.le_of_eq hzO181))
        replace hX74 := ho.ext hX74 (Nat.le_trans (Nat.le_trans hs75 (Nat.le_trans hs157 (Nat.le_trans hs159 (Nat.le_trans hs161 (Nat.le_trans hs163 (Nat.le_trans hs165 (Nat.le_trans hs170 hs178))))))) (Nat.le_of_eq hzO181))
        replace hX78 := ho.ext hX78 (Nat.le_trans (Nat.le_trans hs157 (Nat.le_trans hs159 (Nat.le_trans hs161 (Nat.le_trans hs163 (Nat.le_trans hs165 (Nat.le_trans hs170 hs178)))))) (Nat.le_of_eq hzO181))
        replace hX167 := ho.ext hX167 (Nat.le_trans (Nat.le_trans hs170 hs178) (Nat.le_of_eq hzO181))
        replace hrow175 := ho.rows (Nat.ne_of_gt (Nat.lt_of_lt_of_le lt179 (Nat.le_of_eq hzO181))) hrow175
        replace v180 := ho.va (Nat.ne_of_gt (Nat.lt_of_lt_of_le lt179 (Nat.le_of_eq hzO181))) v180
        have hs186 : X182.heap.size ≤ X185.heap.size := Nat.le_of_eq ho.size.symm
        clear ho hk bO181_0
        have bO181_0 := hv0; clear hv0
        refine pl_nil ?_
        refine qw_then ?_
        refine cw_clean [9, 11, 12, 16, 23, 24] (ws' := [(9, .pointer (some ⟨O1, 0, none⟩)), (11, .pointer (some ⟨O14, 0, none⟩)), (12, .slice la22 t21 lc23), (16, .slice (some ⟨pb, po, none⟩) t21 pc57), (23, .int .i64 (((kk : Nat) : Int) : Int)), (24, .pointer (some ⟨O181, 0, none⟩))]) (by kernel_rfl) (fun L => ?_)
        refine cw_seq ?_
        refine cw_seq ?_
        refine cw_plain ?_
        refine pl_take (.pointer (some ⟨O181, 0, none⟩)) rfl (by kernel_rfl) (by kernel_rfl) (by kernel_rfl) (by kernel_rfl) ?_
        refine pl_take (.slice (some ⟨g171, 0, none⟩) 24 cap172) rfl (by kernel_rfl) (by kernel_rfl) (by kernel_rfl) (ex_load rfl (by kernel_rfl) (ld23 (bO181_0.1))) ?_
        refine pl_take (.int .i64 24) rfl (by kernel_rfl) (by kernel_rfl) (by kernel_rfl) (by kernel_rfl) ?_
        refine pl_take (.bool false) rfl (by kernel_rfl) (by kernel_rfl) (by kernel_rfl) (by kernel_rfl) ?_
        refine pl_nil ?_
        refine qw_then ?_
        refine cw_f (by kernel_rfl) ?_
        refine cw_skip ?_
        refine qw_then ?_
        refine cw_seq ?_
        refine cw_plain ?_
        refine pl_take (.pointer (some ⟨O1, 1, none⟩)) rfl (by kernel_rfl) (by kernel_rfl) (by kernel_rfl) (by kernel_rfl) ?_
        refine pl_take (.int .i64 (y4 : Int)) rfl (by kernel_rfl) (by kernel_rfl) (by kernel_rfl) (ex_load rfl (by kernel_rfl) (ld3 ((BoxAt.ext hX74 bO1_1).1))) ?_
        refine pl_step rfl (by kernel_rfl) (by kernel_rfl) (by kernel_rfl) (sn_call (f := 14) (args := #[.int .i64 (y4 : Int), .int .i64 24]) (by kernel_rfl) ((pickN_c _ 24 _ hy4 (by omega) (by omega)).mono ?_))
        rintro e w' ⟨rr, rfl, rrl, rrp, rfl⟩
        refine ⟨_, rfl, ?_⟩
        refine pl_take (.int .i64 (((rr : Nat) : Int) : Int)) rfl (by kernel_rfl) (by kernel_rfl) (by kernel_rfl) (by kernel_rfl) ?_
        refine pl_nil ?_
        refine qw_then ?_
        refine cw_seq ?_
        refine cw_join (fun ws' Y => ∃ cc : Nat, ws' = [(11, .pointer (some ⟨O14, 0, none⟩)), (12, .slice la22 t21 lc23), (16, .slice (some ⟨pb, po, none⟩) t21 pc57), (23, .int .i64 (((kk : Nat) : Int) : Int)), (24, .pointer (some ⟨O181, 0, none⟩))] ∧ Ext w Y ∧ Ext w27 Y ∧ Ext w64 Y ∧ Ext X72 Y ∧ Ext w76 Y ∧ Ext w164 Y ∧ BoxAt Y O181 0 (.slice (some ⟨g171, 0, none⟩) 24 cap172) ∧ cc < 48 ∧ RowsAt Y g171 ((P.set rr (((Globe.rowN P rr ^^^ 2 ^ cc : Nat) : Int) : Int))) ∧ X185.heap.size ≤ Y.heap.size) (fun hJ => ?_) ?_
        ·
          refine cw_draw [(some 129, [24], []), (some 130, [129], [0]), (some 131, [25], []), (some 132, [24], []), (some 133, [132], [3]), (some 134, [25], []), (some 135, [133, 134], [4, 5]), (some 136, [135], [6]), (some 137, [9], []), (some 138, [137], [8]), (some 139, [138], [9]), (some 140, [139], [10]), (some 141, [136, 140], [7, 11]), (some 142, [130, 131], [1, 2, 0, 1, 2, 3, 4, 5, 6, 7, 8, 9, 10, 11, 12]), (none, [142, 141], [13, 12, 10, 0, 1, 2, 3, 4, 5, 6, 7, 8, 9, 10, 11, 12])] (fun w' => w'.cell? ⟨O181, 0, none⟩ = some (.slice (some ⟨g171, 0, none⟩) 24 cap172) ∧ w'.cell? ⟨O1, 0, none⟩ = some (.int .i64 (x4 : Int))) (by kernel_rfl) (by kernel_rfl) (by kernel_rfl) (by kernel_rfl) ((calm_then calm_body)) (⟨bO181_0.1, (BoxAt.ext hX74 bO1_0).1⟩) (fun ops Q X187 hb hL hR hK => ?_)
          replace hE := hE.trans hb
          replace hX29 := hX29.trans hb
          replace hX66 := hX66.trans hb
          replace hX74 := hX74.trans hb
          replace hX78 := hX78.trans hb
          replace hX167 := hX167.trans hb
          replace hrow175 := hrow175.ext hb
          replace v180 := v180.ext hb
          replace bO181_0 := BoxAt.ext hb bO181_0
          have hs188 := hb.size
          clear hb
          refine wd_take 0 (.pointer (some ⟨O181, 0, none⟩)) hR rfl (by kernel_rfl) rfl (by kernel_rfl) (fun w _ => by kernel_rfl) (⟨bO181_0.1, (BoxAt.ext hX74 bO1_0).1⟩) ?_
          refine wd_take 1 (.slice (some ⟨g171, 0, none⟩) 24 cap172) hR rfl (by kernel_rfl) rfl (by kernel_rfl) (fun w hS => ex_load rfl (by kernel_rfl) (ld23 (hS.1))) (⟨bO181_0.1, (BoxAt.ext hX74 bO1_0).1⟩) ?_
          refine wd_take 2 (.int .i64 (((rr : Nat) : Int) : Int)) hR rfl (by kernel_rfl) rfl (by kernel_rfl) (fun w _ => by kernel_rfl) (⟨bO181_0.1, (BoxAt.ext hX74 bO1_0).1⟩) ?_
          refine wd_take 3 (.pointer (some ⟨O181, 0, none⟩)) hR rfl (by kernel_rfl) rfl (by kernel_rfl) (fun w _ => by kernel_rfl) (⟨bO181_0.1, (BoxAt.ext hX74 bO1_0).1⟩) ?_
          refine wd_take 4 (.slice (some ⟨g171, 0, none⟩) 24 cap172) hR rfl (by kernel_rfl) rfl (by kernel_rfl) (fun w hS => ex_load rfl (by kernel_rfl) (ld23 (hS.1))) (⟨bO181_0.1, (BoxAt.ext hX74 bO1_0).1⟩) ?_
          refine wd_take 5 (.int .i64 (((rr : Nat) : Int) : Int)) hR rfl (by kernel_rfl) rfl (by kernel_rfl) (fun w _ => by kernel_rfl) (⟨bO181_0.1, (BoxAt.ext hX74 bO1_0).1⟩) ?_
          refine wd_take 6 (.pointer (some ⟨g171, rr, none⟩)) hR rfl (by kernel_rfl) rfl (by kernel_rfl) (fun w _ => ex_index (p := .slice (some ⟨g171, 0, none⟩) 24 cap172) (i := .int .i64 ((rr : Nat) : Int)) rfl (by kernel_rfl) (by kernel_rfl) (ix23z (k := rr) (by omega))) (⟨bO181_0.1, (BoxAt.ext hX74 bO1_0).1⟩) ?_
          refine wd_take 8 (.pointer (some ⟨O1, 0, none⟩)) hR rfl (by kernel_rfl) rfl (by kernel_rfl) (fun w _ => by kernel_rfl) (⟨bO181_0.1, (BoxAt.ext hX74 bO1_0).1⟩) ?_
          refine wd_take 9 (.int .i64 (x4 : Int)) hR rfl (by kernel_rfl) rfl (by kernel_rfl) (fun w hS => ex_load rfl (by kernel_rfl) (ld3 (hS.2))) (⟨bO181_0.1, (BoxAt.ext hX74 bO1_0).1⟩) ?_
          refine wd_two 7 10 hR rfl rfl (by kernel_rfl) (by kernel_rfl) (by kernel_rfl) (by kernel_rfl) ?_ ?_
          ·
            refine sn_eff (v := .int .i64 (((Globe.rowN P rr : Nat) : Int) : Int)) (w' := X187) (ex_load rfl (by kernel_rfl) (ld3 (v180.cell0 (y := rr) (by omega)))) ⟨⟨bO181_0.1, (BoxAt.ext hX74 bO1_0).1⟩, ?_⟩
            refine wd_step 10 hR rfl (by kernel_rfl) (by kernel_rfl) (by kernel_rfl) (sn_call (f := 14) (args := #[.int .i64 (x4 : Int), .int .i64 48]) (by kernel_rfl) ((pickN_c _ 48 _ hx4 (by omega) (by omega)).mono ?_))
            rintro e w' ⟨cc, rfl, ccl, ccp, rfl⟩
            refine ⟨_, rfl, ⟨bO181_0.1, (BoxAt.ext hX74 bO1_0).1⟩, ?_⟩
            refine wd_take 11 (.int .i64 (((2 ^ cc : Nat) : Int) : Int)) hR rfl (by kernel_rfl) rfl (by kernel_rfl) (fun w _ => ex_bin rfl (by kernel_rfl) (by kernel_rfl) (bin_shl1 (by omega))) (⟨bO181_0.1, (BoxAt.ext hX74 bO1_0).1⟩) ?_
            refine wd_take 12 (.int .i64 (((Globe.rowN P rr ^^^ 2 ^ cc : Nat) : Int) : Int)) hR rfl (by kernel_rfl) rfl (by kernel_rfl) (fun w _ => ev_int (show _ = Result.ok (Next.value (Value.int .i64 (bits .xor .i64 ((Globe.rowN P rr : Nat) : Int) ((2 ^ cc : Nat) : Int)))) _ from by kernel_rfl) (xor_i64 _ _ (by have := Globe.rowN_lt hPv rr; omega) (by have : 2 ^ cc < 2 ^ 48 := Nat.pow_lt_pow_right (by decide) ccl; omega))) (⟨bO181_0.1, (BoxAt.ext hX74 bO1_0).1⟩) ?_
            refine wd_take 13 (.pointer (some ⟨g171, rr, none⟩)) hR rfl (by kernel_rfl) rfl (by kernel_rfl) (fun w _ => ex_index (p := .slice (some ⟨g171, 0, none⟩) 24 cap172) (i := .int .i64 ((rr : Nat) : Int)) rfl (by kernel_rfl) (by kernel_rfl) (ix23z (k := rr) (by omega))) (⟨bO181_0.1, (BoxAt.ext hX74 bO1_0).1⟩) ?_
            refine wd_step 14 hR rfl (by kernel_rfl) (by kernel_rfl) (by kernel_rfl) (sn_row (g := g171) (y := rr) (v := ((Globe.rowN P rr ^^^ 2 ^ cc : Nat) : Int)) (ex_store (p := .pointer (some ⟨g171, rr, none⟩)) (v := .int .i64 (((Globe.rowN P rr ^^^ 2 ^ cc : Nat) : Int) : Int)) rfl (by kernel_rfl) (by kernel_rfl) (st3 (hrow175.cell (by omega)) (hrow175.free (by omega)))) hrow175 (by omega) ?_)
            intro X189 ho hv0
            replace hE := ho.ext hE (Nat.le_trans (Nat.le_trans hs3 (Nat.le_trans hs6 (Nat.le_trans hs12 (Nat.le_trans hs16 (Nat.le_trans hs19 (Nat.le_trans hs28 (Nat.le_trans hs41 (Nat.le_trans hs46 (Nat.le_trans hs50 (Nat.le_trans hs53 (Nat.le_trans hs55 (Nat.le_trans hs65 (Nat.le_trans hs70 (Nat.le_trans hs73 (Nat.le_trans hs75 (Nat.le_trans hs157 (Nat.le_trans hs159 (Nat.le_trans hs161 (Nat.le_trans hs163 hs165))))))))))))))))))) (Nat.le_trans (Nat.le_of_eq hzO168) hge176))
            replace hX29 := ho.ext hX29 (Nat.le_trans (Nat.le_trans hs41 (Nat.le_trans hs46 (Nat.le_trans hs50 (Nat.le_trans hs53 (Nat.le_trans hs55 (Nat.le_trans hs65 (Nat.le_trans hs70 (Nat.le_trans hs73 (Nat.le_trans hs75 (Nat.le_trans hs157 (Nat.le_trans hs159 (Nat.le_trans hs161 (Nat.le_trans hs163 hs165))))))))))))) (Nat.le_trans (Nat.le_of_eq hzO168) hge176))
            replace hX66 := ho.ext hX66 (Nat.le_trans (Nat.le_trans hs70 (Nat.le_trans hs73 (Nat.le_trans hs75 (Nat.le_trans hs157 (Nat.le_trans hs159 (Nat.le_trans hs161 (Nat.le_trans hs163 hs165))))))) (Nat.le_trans (Nat.le_of_eq hzO168) hge176))
            replace hX74 := ho.ext hX74 (Nat.le_trans (Nat.le_trans hs75 (Nat.le_trans hs157 (Nat.le_trans hs159 (Nat.le_trans hs161 (Nat.le_trans hs163 hs165))))) (Nat.le_trans (Nat.le_of_eq hzO168) hge176))
            replace hX78 := ho.ext hX78 (Nat.le_trans (Nat.le_trans hs157 (Nat.le_trans hs159 (Nat.le_trans hs161 (Nat.le_trans hs163 hs165)))) (Nat.le_trans (Nat.le_of_eq hzO168) hge176))
            replace hX167 := ho.ext hX167 (Nat.le_trans (Nat.le_of_eq hzO168) hge176)
            replace bO181_0 := ho.box (Nat.ne_of_lt (Nat.lt_of_lt_of_le lt179 (Nat.le_of_eq hzO181))) bO181_0
            have hs190 : X187.heap.size ≤ X189.heap.size := Nat.le_of_eq ho.size.symm
            clear ho hrow175; have hrow175 := hv0; clear hv0
            refine ⟨⟨bO181_0.1, (BoxAt.ext hX74 bO1_0).1⟩, ?_⟩
            refine wd_end hL hR hK (by kernel_rfl) ?_
            exact qw_leaf hJ [11, 12, 16, 23, 24] (ws' := [(11, .pointer (some ⟨O14, 0, none⟩)), (12, .slice la22 t21 lc23), (16, .slice (some ⟨pb, po, none⟩) t21 pc57), (23, .int .i64 (((kk : Nat) : Int) : Int)), (24, .pointer (some ⟨O181, 0, none⟩))]) (by kernel_rfl) ⟨cc, rfl, hE, hX29, hX66, hX74, hX78, hX167, bO181_0, ccl, hrow175, (Nat.le_trans hs188 hs190)⟩
          ·
            refine sn_call (f := 14) (args := #[.int .i64 (x4 : Int), .int .i64 48]) (by kernel_rfl) ((pickN_c _ 48 _ hx4 (by omega) (by omega)).mono ?_)
            rintro e w' ⟨cc, rfl, ccl, ccp, rfl⟩
            refine ⟨_, rfl, ⟨bO181_0.1, (BoxAt.ext hX74 bO1_0).1⟩, ?_⟩
            refine wd_take 11 (.int .i64 (((2 ^ cc : Nat) : Int) : Int)) hR rfl (by kernel_rfl) rfl (by kernel_rfl) (fun w _ => ex_bin rfl (by kernel_rfl) (by kernel_rfl) (bin_shl1 (by omega))) (⟨bO181_0.1, (BoxAt.ext hX74 bO1_0).1⟩) ?_
            refine wd_step 7 hR rfl (by kernel_rfl) (by kernel_rfl) (by kernel_rfl) (sn_eff (v := .int .i64 (((Globe.rowN P rr : Nat) : Int) : Int)) (w' := X187) (ex_load rfl (by kernel_rfl) (ld3 (v180.cell0 (y := rr) (by omega)))) ⟨⟨bO181_0.1, (BoxAt.ext hX74 bO1_0).1⟩, ?_⟩)
            refine wd_take 12 (.int .i64 (((Globe.rowN P rr ^^^ 2 ^ cc : Nat) : Int) : Int)) hR rfl (by kernel_rfl) rfl (by kernel_rfl) (fun w _ => ev_int (show _ = Result.ok (Next.value (Value.int .i64 (bits .xor .i64 ((Globe.rowN P rr : Nat) : Int) ((2 ^ cc : Nat) : Int)))) _ from by kernel_rfl) (xor_i64 _ _ (by have := Globe.rowN_lt hPv rr; omega) (by have : 2 ^ cc < 2 ^ 48 := Nat.pow_lt_pow_right (by decide) ccl; omega))) (⟨bO181_0.1, (BoxAt.ext hX74 bO1_0).1⟩) ?_
            refine wd_take 13 (.pointer (some ⟨g171, rr, none⟩)) hR rfl (by kernel_rfl) rfl (by kernel_rfl) (fun w _ => ex_index (p := .slice (some ⟨g171, 0, none⟩) 24 cap172) (i := .int .i64 ((rr : Nat) : Int)) rfl (by kernel_rfl) (by kernel_rfl) (ix23z (k := rr) (by omega))) (⟨bO181_0.1, (BoxAt.ext hX74 bO1_0).1⟩) ?_
            refine wd_step 14 hR rfl (by kernel_rfl) (by kernel_rfl) (by kernel_rfl) (sn_row (g := g171) (y := rr) (v := ((Globe.rowN P rr ^^^ 2 ^ cc : Nat) : Int)) (ex_store (p := .pointer (some ⟨g171, rr, none⟩)) (v := .int .i64 (((Globe.rowN P rr ^^^ 2 ^ cc : Nat) : Int) : Int)) rfl (by kernel_rfl) (by kernel_rfl) (st3 (hrow175.cell (by omega)) (hrow175.free (by omega)))) hrow175 (by omega) ?_)
            intro X191 ho hv0
            replace hE := ho.ext hE (Nat.le_trans (Nat.le_trans hs3 (Nat.le_trans hs6 (Nat.le_trans hs12 (Nat.le_trans hs16 (Nat.le_trans hs19 (Nat.le_trans hs28 (Nat.le_trans hs41 (Nat.le_trans hs46 (Nat.le_trans hs50 (Nat.le_trans hs53 (Nat.le_trans hs55 (Nat.le_trans hs65 (Nat.le_trans hs70 (Nat.le_trans hs73 (Nat.le_trans hs75 (Nat.le_trans hs157 (Nat.le_trans hs159 (Nat.le_trans hs161 (Nat.le_trans hs163 hs165))))))))))))))))))) (Nat.le_trans (Nat.le_of_eq hzO168) hge176))
            replace hX29 := ho.ext hX29 (Nat.le_trans (Nat.le_trans hs41 (Nat.le_trans hs46 (Nat.le_trans hs50 (Nat.le_trans hs53 (Nat.le_trans hs55 (Nat.le_trans hs65 (Nat.le_trans hs70 (Nat.le_trans hs73 (Nat.le_trans hs75 (Nat.le_trans hs157 (Nat.le_trans hs159 (Nat.le_trans hs161 (Nat.le_trans hs163 hs165))))))))))))) (Nat.le_trans (Nat.le_of_eq hzO168) hge176))
            replace hX66 := ho.ext hX66 (Nat.le_trans (Nat.le_trans hs70 (Nat.le_trans hs73 (Nat.le_trans hs75 (Nat.le_trans hs157 (Nat.le_trans hs159 (Nat.le_trans hs161 (Nat.le_trans hs163 hs165))))))) (Nat.le_trans (Nat.le_of_eq hzO168) hge176))
            replace hX74 := ho.ext hX74 (Nat.le_trans (Nat.le_trans hs75 (Nat.le_trans hs157 (Nat.le_trans hs159 (Nat.le_trans hs161 (Nat.le_trans hs163 hs165))))) (Nat.le_trans (Nat.le_of_eq hzO168) hge176))
            replace hX78 := ho.ext hX78 (Nat.le_trans (Nat.le_trans hs157 (Nat.le_trans hs159 (Nat.le_trans hs161 (Nat.le_trans hs163 hs165)))) (Nat.le_trans (Nat.le_of_eq hzO168) hge176))
            replace hX167 := ho.ext hX167 (Nat.le_trans (Nat.le_of_eq hzO168) hge176)
            replace bO181_0 := ho.box (Nat.ne_of_lt (Nat.lt_of_lt_of_le lt179 (Nat.le_of_eq hzO181))) bO181_0
            have hs192 : X187.heap.size ≤ X191.heap.size := Nat.le_of_eq ho.size.symm
            clear ho hrow175; have hrow175 := hv0; clear hv0
            refine ⟨⟨bO181_0.1, (BoxAt.ext hX74 bO1_0).1⟩, ?_⟩
            refine wd_end hL hR hK (by kernel_rfl) ?_
            exact qw_leaf hJ [11, 12, 16, 23, 24] (ws' := [(11, .pointer (some ⟨O14, 0, none⟩)), (12, .slice la22 t21 lc23), (16, .slice (some ⟨pb, po, none⟩) t21 pc57), (23, .int .i64 (((kk : Nat) : Int) : Int)), (24, .pointer (some ⟨O181, 0, none⟩))]) (by kernel_rfl) ⟨cc, rfl, hE, hX29, hX66, hX74, hX78, hX167, bO181_0, ccl, hrow175, (Nat.le_trans hs188 hs192)⟩
        ·
          clear hrow175 v180 bO181_0 hE hX29 hX66 hX74 hX78 hX167
          rintro L ws Y193 ⟨cc, rfl, hE, hX29, hX66, hX74, hX78, hX167, bO181_0, ccl, hrow175, hn194⟩
          refine qw_then ?_
          refine cw_seq ?_
          have vT : VA Y193 g171 0 (Globe.togL P rr cc) := hrow175.va (Globe.tog_valid hPv ccl)
          have hX195 : Ext Y193 Y193 := Ext.refl _
          refine cw_plain ?_
          refine pl_step rfl (by kernel_rfl) (by kernel_rfl) (by kernel_rfl) (sn_newS0 (t := 25) (by kernel_rfl) ?_)
          intro O196 X197 hO hOs hb hpO196
          have hzO196 := hO; have hyO196 : O196 < X197.heap.size := (by omega); clear hO hOs
          replace hE := hE.trans hb
          replace hX29 := hX29.trans hb
          replace hX66 := hX66.trans hb
          replace hX74 := hX74.trans hb
          replace hX78 := hX78.trans hb
          replace hX167 := hX167.trans hb
          replace hX195 := hX195.trans hb
          have hs198 := hb.size
          clear hb
          refine pl_take (.slice (some ⟨pb, po, none⟩) t21 pc57) rfl (by kernel_rfl) (by kernel_rfl) (by kernel_rfl) (by kernel_rfl) ?_
          obtain ⟨g199, cap200, w201, hrun202, own206, hgr205⟩ := app_areas (ty := 34) (c := pc57) (n₀ := Y193.heap.size) hpO196 (Nat.le_of_eq hzO196) (hP62.ext hX66) (by omega) (by omega) (Globe.pieces_valid _ v9.2)
          refine pl_step rfl (by kernel_rfl) (by kernel_rfl) (by kernel_rfl) (sn_eff (v := .slice (some ⟨g199, 0, none⟩) t21 cap200) (w' := w201) (ex_append rfl (by kernel_rfl) (by kernel_rfl) hrun202) ?_)
          replace hE := hgr205.ext _ hE (Nat.le_trans hs3 (Nat.le_trans hs6 (Nat.le_trans hs12 (Nat.le_trans hs16 (Nat.le_trans hs19 (Nat.le_trans hs28 (Nat.le_trans hs41 (Nat.le_trans hs46 (Nat.le_trans hs50 (Nat.le_trans hs53 (Nat.le_trans hs55 (Nat.le_trans hs65 (Nat.le_trans hs70 (Nat.le_trans hs73 (Nat.le_trans hs75 (Nat.le_trans hs157 (Nat.le_trans hs159 (Nat.le_trans hs161 (Nat.le_trans hs163 (Nat.le_trans hs165 (Nat.le_trans hs170 (Nat.le_trans hs178 (Nat.le_trans hs183 (Nat.le_trans hs186 hn194))))))))))))))))))))))))
          replace hX29 := hgr205.ext _ hX29 (Nat.le_trans hs41 (Nat.le_trans hs46 (Nat.le_trans hs50 (Nat.le_trans hs53 (Nat.le_trans hs55 (Nat.le_trans hs65 (Nat.le_trans hs70 (Nat.le_trans hs73 (Nat.le_trans hs75 (Nat.le_trans hs157 (Nat.le_trans hs159 (Nat.le_trans hs161 (Nat.le_trans hs163 (Nat.le_trans hs165 (Nat.le_trans hs170 (Nat.le_trans hs178 (Nat.le_trans hs183 (Nat.le_trans hs186 hn194))))))))))))))))))
          replace hX66 := hgr205.ext _ hX66 (Nat.le_trans hs70 (Nat.le_trans hs73 (Nat.le_trans hs75 (Nat.le_trans hs157 (Nat.le_trans hs159 (Nat.le_trans hs161 (Nat.le_trans hs163 (Nat.le_trans hs165 (Nat.le_trans hs170 (Nat.le_trans hs178 (Nat.le_trans hs183 (Nat.le_trans hs186 hn194))))))))))))
          replace hX74 := hgr205.ext _ hX74 (Nat.le_trans hs75 (Nat.le_trans hs157 (Nat.le_trans hs159 (Nat.le_trans hs161 (Nat.le_trans hs163 (Nat.le_trans hs165 (Nat.le_trans hs170 (Nat.le_trans hs178 (Nat.le_trans hs183 (Nat.le_trans hs186 hn194))))))))))
          replace hX78 := hgr205.ext _ hX78 (Nat.le_trans hs157 (Nat.le_trans hs159 (Nat.le_trans hs161 (Nat.le_trans hs163 (Nat.le_trans hs165 (Nat.le_trans hs170 (Nat.le_trans hs178 (Nat.le_trans hs183 (Nat.le_trans hs186 hn194)))))))))
          replace hX167 := hgr205.ext _ hX167 (Nat.le_trans hs170 (Nat.le_trans hs178 (Nat.le_trans hs183 (Nat.le_trans hs186 hn194))))
          replace hX195 := hgr205.ext _ hX195 (Nat.le_refl _)
          have hs207 := hgr205.size
          have hn208 := own206.base g199 rfl; have lt209 := own206.lt g199 rfl
          refine pl_take (.slice (some ⟨g199, 0, none⟩) t21 cap200) rfl (by kernel_rfl) (by kernel_rfl) (by kernel_rfl) (by kernel_rfl) ?_
          refine pl_nil ?_
          refine qw_then ?_
          refine cw_seq ?_
          refine cw_plain ?_
          refine pl_take (.slice (some ⟨g199, 0, none⟩) t21 cap200) rfl (by kernel_rfl) (by kernel_rfl) (by kernel_rfl) (by kernel_rfl) ?_
          refine pl_take (.int .i64 (((kk : Nat) : Int) : Int)) rfl (by kernel_rfl) (by kernel_rfl) (by kernel_rfl) (by kernel_rfl) ?_
          refine pl_take (.agg #[.slice (some ⟨g171, 0, none⟩) 24 cap172]) rfl (by kernel_rfl) (by kernel_rfl) (by kernel_rfl) (ex_load rfl (by kernel_rfl) (ld25 ((BoxAt.ext hX195 bO181_0).1))) ?_
          refine pl_take (.pointer (some ⟨g199, kk, none⟩)) rfl (by kernel_rfl) (by kernel_rfl) (by kernel_rfl) (ex_index (p := .slice (some ⟨g199, 0, none⟩) t21 cap200) (i := .int .i64 ((kk : Nat) : Int)) rfl (by kernel_rfl) (by kernel_rfl) (ix34z (k := kk) (by omega))) ?_
          obtain ⟨⟨u8, hu8⟩, hf8, pC⟩ := areas_set (c := cap172) own206 hP62.1 (by omega) (k := kk) (by omega) (hL := (vT.ext hX195)) ((Nat.ne_of_lt (Nat.lt_of_lt_of_le lt179 (Nat.le_trans (Nat.le_trans hs183 (Nat.le_trans hs186 hn194)) hn208))))
          refine pl_put rfl (by kernel_rfl) (by kernel_rfl) (sn_skp (w' := w201.setCell ⟨g199, kk, none⟩ (.slice (some ⟨g171, 0, none⟩) 24 cap172)) (ex_store (p := .pointer (some ⟨g199, kk, none⟩)) (v := .agg #[.slice (some ⟨g171, 0, none⟩) 24 cap172]) rfl (by kernel_rfl) (by kernel_rfl) (st25 hu8 hf8)) ?_)
          have ho := turns_set w201 g199 kk (.slice (some ⟨g171, 0, none⟩) 24 cap172)
          obtain ⟨X210, hX8⟩ : ∃ X, X = w201.setCell ⟨g199, kk, none⟩ (.slice (some ⟨g171, 0, none⟩) 24 cap172) := ⟨_, rfl⟩
          rw [← hX8] at ho pC ⊢; clear hX8
          replace hE := ho.ext hE (Nat.le_trans (Nat.le_trans hs3 (Nat.le_trans hs6 (Nat.le_trans hs12 (Nat.le_trans hs16 (Nat.le_trans hs19 (Nat.le_trans hs28 (Nat.le_trans hs41 (Nat.le_trans hs46 (Nat.le_trans hs50 (Nat.le_trans hs53 (Nat.le_trans hs55 (Nat.le_trans hs65 (Nat.le_trans hs70 (Nat.le_trans hs73 (Nat.le_trans hs75 (Nat.le_trans hs157 (Nat.le_trans hs159 (Nat.le_trans hs161 (Nat.le_trans hs163 (Nat.le_trans hs165 (Nat.le_trans hs170 (Nat.le_trans hs178 (Nat.le_trans hs183 (Nat.le_trans hs186 hn194)))))))))))))))))))))))) hn208)
          replace hX29 := ho.ext hX29 (Nat.le_trans (Nat.le_trans hs41 (Nat.le_trans hs46 (Nat.le_trans hs50 (Nat.le_trans hs53 (Nat.le_trans hs55 (Nat.le_trans hs65 (Nat.le_trans hs70 (Nat.le_trans hs73 (Nat.le_trans hs75 (Nat.le_trans hs157 (Nat.le_trans hs159 (Nat.le_trans hs161 (Nat.le_trans hs163 (Nat.le_trans hs165 (Nat.le_trans hs170 (Nat.le_trans hs178 (Nat.le_trans hs183 (Nat.le_trans hs186 hn194)))))))))))))))))) hn208)
          replace hX66 := ho.ext hX66 (Nat.le_trans (Nat.le_trans hs70 (Nat.le_trans hs73 (Nat.le_trans hs75 (Nat.le_trans hs157 (Nat.le_trans hs159 (Nat.le_trans hs161 (Nat.le_trans hs163 (Nat.le_trans hs165 (Nat.le_trans hs170 (Nat.le_trans hs178 (Nat.le_trans hs183 (Nat.le_trans hs186 hn194)))))))))))) hn208)
          replace hX74 := ho.ext hX74 (Nat.le_trans (Nat.le_trans hs75 (Nat.le_trans hs157 (Nat.le_trans hs159 (Nat.le_trans hs161 (Nat.le_trans hs163 (Nat.le_trans hs165 (Nat.le_trans hs170 (Nat.le_trans hs178 (Nat.le_trans hs183 (Nat.le_trans hs186 hn194)))))))))) hn208)
          replace hX78 := ho.ext hX78 (Nat.le_trans (Nat.le_trans hs157 (Nat.le_trans hs159 (Nat.le_trans hs161 (Nat.le_trans hs163 (Nat.le_trans hs165 (Nat.le_trans hs170 (Nat.le_trans hs178 (Nat.le_trans hs183 (Nat.le_trans hs186 hn194))))))))) hn208)
          replace hX167 := ho.ext hX167 (Nat.le_trans (Nat.le_trans hs170 (Nat.le_trans hs178 (Nat.le_trans hs183 (Nat.le_trans hs186 hn194)))) hn208)
          replace hX195 := ho.ext hX195 hn208
          have hs211 : w201.heap.size ≤ X210.heap.size := Nat.le_of_eq ho.size.symm
          have hX212 : Ext X210 X210 := Ext.refl _
          refine pl_nil ?_
          refine qw_then ?_
          refine cw_seq ?_
          refine cw_plain ?_
          refine pl_take (.agg #[.slice (some ⟨B7, 0, none⟩) 24 k8]) rfl (by kernel_rfl) (by kernel_rfl) (by kernel_rfl) (ex_load rfl (by kernel_rfl) (ld25 ((BoxAt.ext hX74 bO14_0).1))) ?_
          refine pl_take (.slice la22 t21 lc23) rfl (by kernel_rfl) (by kernel_rfl) (by kernel_rfl) (by kernel_rfl) ?_
          refine pl_take (.slice (some ⟨g199, 0, none⟩) t21 cap200) rfl (by kernel_rfl) (by kernel_rfl) (by kernel_rfl) (by kernel_rfl) ?_
          refine pl_step rfl (by kernel_rfl) (by kernel_rfl) (by kernel_rfl) (sn_call (f := 23) (args := #[.agg #[.slice (some ⟨B7, 0, none⟩) 24 k8], .slice la22 t21 lc23, .slice (some ⟨g199, 0, none⟩) t21 cap200]) (by kernel_rfl) ((Check_r (r := false) _ _ _ _ (v9.ext hX74).aa (Ext.refl _) sS24 hX29 pC (Ext.refl _) (hT.ext hE) (check_b (Globe.check_turned _ v9.2 (sures_ok hok25) hp rrl ccl) v9.2 hok25 (by rw [List.length_set, Globe.pieces_len, List.length_map]))).mono ?_))
          rintro e w213 ⟨rfl, hb⟩
          replace hE := hE.trans hb
          replace hX29 := hX29.trans hb
          replace hX66 := hX66.trans hb
          replace hX74 := hX74.trans hb
          replace hX78 := hX78.trans hb
          replace hX167 := hX167.trans hb
          replace hX195 := hX195.trans hb
          replace hX212 := hX212.trans hb
          have hs214 := hb.size
          clear hb
          refine ⟨_, rfl, ?_⟩
          refine pl_take (.bool true) rfl (by kernel_rfl) (by kernel_rfl) (by kernel_rfl) (by kernel_rfl) ?_
          refine pl_take (.bool true) rfl (by kernel_rfl) (by kernel_rfl) (by kernel_rfl) (by kernel_rfl) ?_
          refine pl_skip rfl (by kernel_rfl) (by kernel_rfl) (by kernel_rfl) ?_
          refine pl_skip rfl (by kernel_rfl) (by kernel_rfl) (by kernel_rfl) ?_
          refine pl_skip rfl (by kernel_rfl) (by kernel_rfl) (by kernel_rfl) ?_
          refine pl_skip rfl (by kernel_rfl) (by kernel_rfl) (by kernel_rfl) ?_
          refine pl_skip rfl (by kernel_rfl) (by kernel_rfl) (by kernel_rfl) ?_
          refine pl_take (.bool true) rfl (by kernel_rfl) (by kernel_rfl) (by kernel_rfl) (by kernel_rfl) ?_
          refine pl_take (.bool true) rfl (by kernel_rfl) (by kernel_rfl) (by kernel_rfl) (by kernel_rfl) ?_
          refine pl_nil ?_
          refine qw_then ?_
          refine cw_clean [10] (ws' := [(10, .bool true)]) (by kernel_rfl) (fun L => ?_)
          refine cw_ret ?_
          refine qw_ret [.bool true] rfl ⟨(by kernel_rfl), trivial⟩ ?_
          exact ⟨rfl, hE⟩
    ·
      by_cases hz : (Globe.cellsTo (Globe.leftL (areaL q0 n0) (ss20.map fun s => s.1)) 24).length = 0
      ·
        refine cw_draw [(some 88, [11], []), (some 89, [12], []), (some 90, [19], []), (some 91, [88, 89, 90], [0, 1, 2]), (some 92, [91], [3, 3]), (some 93, [14, 92], [4]), (some 94, [93, 92], [5, 4, 4]), (some 95, [94, 92], [6, 4]), (some 96, [92, 95], [4, 7]), (some 97, [96], [8, 6]), (some 98, [11, 97], [9]), (some 99, [12, 97], [9]), (some 100, [16, 97], [9]), (some 101, [98, 99, 100, 97], [10, 11, 12, 9, 9]), (some 102, [14, 97], [9]), (some 103, [102, 97], [14, 13, 9]), (some 104, [103, 97], [15, 9]), (some 105, [101, 104, 97], [13, 16, 9]), (some 106, [97, 105], [9, 17])] (fun w' => w'.cell? ⟨O14, 0, none⟩ = some (.slice (some ⟨B7, 0, none⟩) 24 k8) ∧ w'.cell? ⟨O48, 0, none⟩ = some (.slice (some ⟨B33, o34, none⟩) 24 k35)) (by kernel_rfl) (by kernel_rfl) (by kernel_rfl) (by kernel_rfl) ((calm_then (calm_then calm_body))) (⟨(BoxAt.ext hX74 bO14_0).1, (BoxAt.ext hX74 bO48_0).1⟩) (fun ops Q X215 hb hL hR hK => ?_)
        replace hE := hE.trans hb
        replace hX29 := hX29.trans hb
        replace hX66 := hX66.trans hb
        replace hX74 := hX74.trans hb
        replace hX78 := hX78.trans hb
        have hs216 := hb.size
        clear hb
        refine wd_take 0 (.agg #[.slice (some ⟨B7, 0, none⟩) 24 k8]) hR rfl (by kernel_rfl) rfl (by kernel_rfl) (fun w hS => ex_load rfl (by kernel_rfl) (ld25 (hS.1))) (⟨(BoxAt.ext hX74 bO14_0).1, (BoxAt.ext hX74 bO48_0).1⟩) ?_
        refine wd_take 1 (.slice la22 t21 lc23) hR rfl (by kernel_rfl) rfl (by kernel_rfl) (fun w _ => by kernel_rfl) (⟨(BoxAt.ext hX74 bO14_0).1, (BoxAt.ext hX74 bO48_0).1⟩) ?_
        refine wd_take 2 (.slice a9 t21 c9) hR rfl (by kernel_rfl) rfl (by kernel_rfl) (fun w _ => by kernel_rfl) (⟨(BoxAt.ext hX74 bO14_0).1, (BoxAt.ext hX74 bO48_0).1⟩) ?_
        refine wd_step 3 hR rfl (by kernel_rfl) (by kernel_rfl) (by kernel_rfl) (sn_call (f := 23) (args := #[.agg #[.slice (some ⟨B7, 0, none⟩) 24 k8], .slice la22 t21 lc23, .slice a9 t21 c9]) (by kernel_rfl) ((Check_r (r := false) _ _ _ _ (v9.ext hX74).aa (Ext.refl _) sS24 hX29 pM hX78 (hT.ext hE) (hck)).mono ?_))
        rintro e w217 ⟨rfl, hb⟩
        replace hE := hE.trans hb
        replace hX29 := hX29.trans hb
        replace hX66 := hX66.trans hb
        replace hX74 := hX74.trans hb
        replace hX78 := hX78.trans hb
        have hs218 := hb.size
        clear hb
        refine ⟨_, rfl, ⟨(BoxAt.ext hX74 bO14_0).1, (BoxAt.ext hX74 bO48_0).1⟩, ?_⟩
        refine wd_take 4 (.bool false) hR rfl (by kernel_rfl) rfl (by kernel_rfl) (fun w _ => by kernel_rfl) (⟨(BoxAt.ext hX74 bO14_0).1, (BoxAt.ext hX74 bO48_0).1⟩) ?_
        refine wd_skip 5 hR rfl (by kernel_rfl) rfl (by kernel_rfl) (⟨(BoxAt.ext hX74 bO14_0).1, (BoxAt.ext hX74 bO48_0).1⟩) ?_
        refine wd_skip 6 hR rfl (by kernel_rfl) rfl (by kernel_rfl) (⟨(BoxAt.ext hX74 bO14_0).1, (BoxAt.ext hX74 bO48_0).1⟩) ?_
        refine wd_skip 7 hR rfl (by kernel_rfl) rfl (by kernel_rfl) (⟨(BoxAt.ext hX74 bO14_0).1, (BoxAt.ext hX74 bO48_0).1⟩) ?_
        refine wd_take 8 (.bool false) hR rfl (by kernel_rfl) rfl (by kernel_rfl) (fun w _ => by kernel_rfl) (⟨(BoxAt.ext hX74 bO14_0).1, (BoxAt.ext hX74 bO48_0).1⟩) ?_
        refine wd_take 9 (.bool false) hR rfl (by kernel_rfl) rfl (by kernel_rfl) (fun w _ => by kernel_rfl) (⟨(BoxAt.ext hX74 bO14_0).1, (BoxAt.ext hX74 bO48_0).1⟩) ?_
        refine wd_take 10 (.agg #[.slice (some ⟨B7, 0, none⟩) 24 k8]) hR rfl (by kernel_rfl) rfl (by kernel_rfl) (fun w hS => ex_load rfl (by kernel_rfl) (ld25 (hS.1))) (⟨(BoxAt.ext hX74 bO14_0).1, (BoxAt.ext hX74 bO48_0).1⟩) ?_
        refine wd_take 11 (.slice la22 t21 lc23) hR rfl (by kernel_rfl) rfl (by kernel_rfl) (fun w _ => by kernel_rfl) (⟨(BoxAt.ext hX74 bO14_0).1, (BoxAt.ext hX74 bO48_0).1⟩) ?_
        refine wd_take 12 (.slice pa56 t21 pc57) hR rfl (by kernel_rfl) rfl (by kernel_rfl) (fun w _ => by kernel_rfl) (⟨(BoxAt.ext hX74 bO14_0).1, (BoxAt.ext hX74 bO48_0).1⟩) ?_
        refine wd_take 14 (.agg #[.slice (some ⟨B33, o34, none⟩) 24 k35]) hR rfl (by kernel_rfl) rfl (by kernel_rfl) (fun w hS => ex_load rfl (by kernel_rfl) (ld25 (hS.2))) (⟨(BoxAt.ext hX74 bO14_0).1, (BoxAt.ext hX74 bO48_0).1⟩) ?_
        refine wd_step 13 hR rfl (by kernel_rfl) (by kernel_rfl) (by kernel_rfl) (sn_call (f := 23) (args := #[.agg #[.slice (some ⟨B7, 0, none⟩) 24 k8], .slice la22 t21 lc23, .slice pa56 t21 pc57]) (by kernel_rfl) ((Check_r (r := true) _ _ _ _ (v9.ext hX74).aa (Ext.refl _) sS24 hX29 hP62 hX66 (hT.ext hE) (hself _ (decide_eq_true hz))).mono ?_))
        rintro e w219 ⟨rfl, hb⟩
        replace hE := hE.trans hb
        replace hX29 := hX29.trans hb
        replace hX66 := hX66.trans hb
        replace hX74 := hX74.trans hb
        replace hX78 := hX78.trans hb
        have hs220 := hb.size
        clear hb
        refine ⟨_, rfl, ⟨(BoxAt.ext hX74 bO14_0).1, (BoxAt.ext hX74 bO48_0).1⟩, ?_⟩
        refine wd_step 15 hR rfl (by kernel_rfl) (by kernel_rfl) (by kernel_rfl) (sn_call (f := 29) (args := #[.agg #[.slice (some ⟨B33, o34, none⟩) 24 k35]]) (by kernel_rfl) ((Count_v _ _ (v37.ext hX74) (Ext.refl _) (hT.ext hE)).mono ?_))
        rintro e w221 ⟨rfl, hb⟩
        replace hE := hE.trans hb
        replace hX29 := hX29.trans hb
        replace hX66 := hX66.trans hb
        replace hX74 := hX74.trans hb
        replace hX78 := hX78.trans hb
        have hs222 := hb.size
        clear hb
        refine ⟨_, rfl, ⟨(BoxAt.ext hX74 bO14_0).1, (BoxAt.ext hX74 bO48_0).1⟩, ?_⟩
        refine wd_take 16 (.bool true) hR rfl (by kernel_rfl) rfl (by kernel_rfl) (fun w _ => ev_eq (show _ = Result.ok (Next.value (Value.bool (((((Globe.cellsTo (Globe.leftL (areaL q0 n0) (ss20.map fun s => s.1)) 24).length : Nat) : Int) : Int) == (0 : Int)))) _ from by kernel_rfl) (by omega)) (⟨(BoxAt.ext hX74 bO14_0).1, (BoxAt.ext hX74 bO48_0).1⟩) ?_
        refine wd_take 17 (.bool false) hR rfl (by kernel_rfl) rfl (by kernel_rfl) (fun w _ => by kernel_rfl) (⟨(BoxAt.ext hX74 bO14_0).1, (BoxAt.ext hX74 bO48_0).1⟩) ?_
        refine wd_take 18 (.bool false) hR rfl (by kernel_rfl) rfl (by kernel_rfl) (fun w _ => by kernel_rfl) (⟨(BoxAt.ext hX74 bO14_0).1, (BoxAt.ext hX74 bO48_0).1⟩) ?_
        refine wd_end hL hR hK (by kernel_rfl) ?_
        refine qw_then ?_
        refine cw_clean [3, 9, 11, 12, 16, 106] (ws' := [(3, .int .i64 (i3 : Int)), (9, .pointer (some ⟨O1, 0, none⟩)), (11, .pointer (some ⟨O14, 0, none⟩)), (12, .slice la22 t21 lc23), (16, .slice pa56 t21 pc57), (106, .bool false)]) (by kernel_rfl) (fun L => ?_)
        refine cw_f (by kernel_rfl) ?_
        refine cw_skip ?_
        refine qw_then ?_
        refine cw_seq ?_
        refine cw_seq ?_
        refine cw_plain ?_
        refine pl_take (.slice pa56 t21 pc57) rfl (by kernel_rfl) (by kernel_rfl) (by kernel_rfl) (by kernel_rfl) ?_
        refine pl_take (.int .i64 (((t21 : Nat) : Int) : Int)) rfl (by kernel_rfl) (by kernel_rfl) (by kernel_rfl) (by kernel_rfl) ?_
        by_cases hc223 : (((t21 : Nat) : Int) : Int) = (0 : Int)
        ·
          refine pl_take (.bool true) rfl (by kernel_rfl) (by kernel_rfl) (by kernel_rfl) (ev_eq (show _ = Result.ok (Next.value (Value.bool ((((t21 : Nat) : Int) : Int) == (0 : Int)))) _ from by kernel_rfl) (hc223)) ?_
          refine pl_nil ?_
          refine qw_then ?_
          refine cw_t (by kernel_rfl) ?_
          refine cw_seq ?_
          refine cw_plain ?_
          refine pl_take (.bool true) rfl (by kernel_rfl) (by kernel_rfl) (by kernel_rfl) (by kernel_rfl) ?_
          refine pl_nil ?_
          refine qw_then ?_
          refine cw_ret ?_
          refine qw_then_ret ?_
          refine qw_ret [.bool true] rfl ⟨(by kernel_rfl), trivial⟩ ?_
          exact ⟨rfl, hE⟩
        ·
          refine pl_take (.bool false) rfl (by kernel_rfl) (by kernel_rfl) (by kernel_rfl) (ev_neq (show _ = Result.ok (Next.value (Value.bool ((((t21 : Nat) : Int) : Int) == (0 : Int)))) _ from by kernel_rfl) (hc223)) ?_
          refine pl_nil ?_
          refine qw_then ?_
          refine cw_f (by kernel_rfl) ?_
          refine cw_skip ?_
          refine qw_then ?_
          refine cw_seq ?_
          refine cw_plain ?_
          refine pl_take (.int .i64 (i3 : Int)) rfl (by kernel_rfl) (by kernel_rfl) (by kernel_rfl) (by kernel_rfl) ?_
          refine pl_take (.slice pa56 t21 pc57) rfl (by kernel_rfl) (by kernel_rfl) (by kernel_rfl) (by kernel_rfl) ?_
          refine pl_take (.int .i64 (((t21 : Nat) : Int) : Int)) rfl (by kernel_rfl) (by kernel_rfl) (by kernel_rfl) (by kernel_rfl) ?_
          refine pl_step rfl (by kernel_rfl) (by kernel_rfl) (by kernel_rfl) (sn_call (f := 14) (args := #[.int .i64 (i3 : Int), .int .i64 (((t21 : Nat) : Int) : Int)]) (by kernel_rfl) ((pickN_c _ t21 _ hi3 (by omega) (by omega)).mono ?_))
          rintro e w' ⟨kk, rfl, kkl, kkp, rfl⟩
          refine ⟨_, rfl, ?_⟩
          refine pl_take (.int .i64 (((kk : Nat) : Int) : Int)) rfl (by kernel_rfl) (by kernel_rfl) (by kernel_rfl) (by kernel_rfl) ?_
          refine pl_nil ?_
          refine qw_then ?_
          refine cw_seq ?_
          have hX224 : Ext w221 w221 := Ext.refl _
          obtain ⟨pb, po, P, a1', n1', c1', v1', rfl, hp, dp, gp⟩ := hP62.at (by omega : kk < t21)
          have hPv : Globe.validL P = true := Globe.pieces_valid _ v9.2 P (List.mem_of_getElem? hp)
          obtain rfl : v1' = true := gp.2.2.2.symm.trans hPv
          obtain ⟨PB, pO, rfl, rfl, gp'⟩ := gp.va
          refine cw_plain ?_
          refine pl_step rfl (by kernel_rfl) (by kernel_rfl) (by kernel_rfl) (sn_newS0 (t := 3) (by kernel_rfl) ?_)
          intro O225 X226 hO hOs hb hpO225
          have hzO225 := hO; have hyO225 : O225 < X226.heap.size := (by omega); clear hO hOs
          replace hE := hE.trans hb
          replace hX29 := hX29.trans hb
          replace hX66 := hX66.trans hb
          replace hX74 := hX74.trans hb
          replace hX78 := hX78.trans hb
          replace hX224 := hX224.trans hb
          have hs227 := hb.size
          clear hb
          refine pl_take (.slice (some ⟨pb, po, none⟩) t21 pc57) rfl (by kernel_rfl) (by kernel_rfl) (by kernel_rfl) (by kernel_rfl) ?_
          refine pl_take (.int .i64 (((kk : Nat) : Int) : Int)) rfl (by kernel_rfl) (by kernel_rfl) (by kernel_rfl) (by kernel_rfl) ?_
          refine pl_take (.pointer (some ⟨pb, po + kk, none⟩)) rfl (by kernel_rfl) (by kernel_rfl) (by kernel_rfl) (ex_index (p := .slice (some ⟨pb, po, none⟩) t21 pc57) (i := .int .i64 ((kk : Nat) : Int)) rfl (by kernel_rfl) (by kernel_rfl) (ix34 (k := kk) (by omega))) ?_
          refine pl_take (.pointer (some ⟨pb, po + kk, none⟩)) rfl (by kernel_rfl) (by kernel_rfl) (by kernel_rfl) (by kernel_rfl) ?_
          refine pl_take (.slice (some ⟨PB, pO, none⟩) 24 c1') rfl (by kernel_rfl) (by kernel_rfl) (by kernel_rfl) (ex_load rfl (by kernel_rfl) (ld23 ((hX66.cell dp)))) ?_
          obtain ⟨g228, cap229, w230, hrun231, hrow232, hge233, hgr234⟩ := app_rows (ty := 23) (c := c1') hpO225 (gp'.ext hX66)
          refine pl_step rfl (by kernel_rfl) (by kernel_rfl) (by kernel_rfl) (sn_eff (v := .slice (some ⟨g228, 0, none⟩) 24 cap229) (w' := w230) (ex_append rfl (by kernel_rfl) (by kernel_rfl) hrun231) ?_)
          replace hE := hgr234.ext _ hE (Nat.le_trans (Nat.le_trans hs3 (Nat.le_trans hs6 (Nat.le_trans hs12 (Nat.le_trans hs16 (Nat.le_trans hs19 (Nat.le_trans hs28 (Nat.le_trans hs41 (Nat.le_trans hs46 (Nat.le_trans hs50 (Nat.le_trans hs53 (Nat.le_trans hs55 (Nat.le_trans hs65 (Nat.le_trans hs70 (Nat.le_trans hs73 (Nat.le_trans hs75 (Nat.le_trans hs216 (Nat.le_trans hs218 (Nat.le_trans hs220 hs222)))))))))))))))))) (Nat.le_of_eq hzO225))
          replace hX29 := hgr234.ext _ hX29 (Nat.le_trans (Nat.le_trans hs41 (Nat.le_trans hs46 (Nat.le_trans hs50 (Nat.le_trans hs53 (Nat.le_trans hs55 (Nat.le_trans hs65 (Nat.le_trans hs70 (Nat.le_trans hs73 (Nat.le_trans hs75 (Nat.le_trans hs216 (Nat.le_trans hs218 (Nat.le_trans hs220 hs222)))))))))))) (Nat.le_of_eq hzO225))
          replace hX66 := hgr234.ext _ hX66 (Nat.le_trans (Nat.le_trans hs70 (Nat.le_trans hs73 (Nat.le_trans hs75 (Nat.le_trans hs216 (Nat.le_trans hs218 (Nat.le_trans hs220 hs222)))))) (Nat.le_of_eq hzO225))
          replace hX74 := hgr234.ext _ hX74 (Nat.le_trans (Nat.le_trans hs75 (Nat.le_trans hs216 (Nat.le_trans hs218 (Nat.le_trans hs220 hs222)))) (Nat.le_of_eq hzO225))
          replace hX78 := hgr234.ext _ hX78 (Nat.le_trans (Nat.le_trans hs216 (Nat.le_trans hs218 (Nat.le_trans hs220 hs222))) (Nat.le_of_eq hzO225))
          replace hX224 := hgr234.ext _ hX224 (Nat.le_of_eq hzO225)
          have hs235 := hgr234.size
          have lt236 := hrow232.lt
          have v237 := hrow232.va gp'.2
          refine pl_take (.agg #[.slice (some ⟨g228, 0, none⟩) 24 cap229]) rfl (by kernel_rfl) (by kernel_rfl) (by kernel_rfl) (by kernel_rfl) ?_
          refine pl_step rfl (by kernel_rfl) (by kernel_rfl) (by kernel_rfl) (sn_new (us := #[.slice none 0 0]) (t := 25) (by kernel_rfl) ?_)
          intro O238 X239 hO hOs hb hbx
          have hzO238 := hO; have hyO238 := hOs; clear hO hOs
          have bO238_0 : BoxAt X239 O238 0 (.slice none 0 0) := hbx 0 _ rfl
          clear hbx
          replace hE := hE.trans hb
          replace hX29 := hX29.trans hb
          replace hX66 := hX66.trans hb
          replace hX74 := hX74.trans hb
          replace hX78 := hX78.trans hb
          replace hX224 := hX224.trans hb
          replace hrow232 := hrow232.ext hb
          replace v237 := v237.ext hb
          have hs240 := hb.size
          clear hb
          have lt241 := bO238_0.lt
          refine pl_put rfl (by kernel_rfl) (by kernel_rfl) (sn_set (O := O238) (j := 0) (v := .slice (some ⟨g228, 0, none⟩) 24 cap229) (ex_store (p := .pointer (some ⟨O238, 0, none⟩)) (v := .agg #[.slice (some ⟨g228, 0, none⟩) 24 cap229]) rfl (by kernel_rfl) (by kernel_rfl) (st25 bO238_0.1 bO238_0.2)) bO238_0 ?_)
          intro X242 ho hv0 hk
          replace hE := ho.ext hE (Nat.le_trans (Nat.le_trans hs3 (Nat.le_trans hs6 (Nat.le_trans hs12 (Nat.le_trans hs16 (Nat.le_trans hs19 (Nat.le_trans hs28 (Nat.le_trans hs41 (Nat.le_trans hs46 (Nat.le_trans hs50 (Nat.le_trans hs53 (Nat.le_trans hs55 (Nat.le_trans hs65 (Nat.le_trans hs70 (Nat.le_trans hs73 (Nat.le_trans hs75 (Nat.le_trans hs216 (Nat.le_trans hs218 (Nat.le_trans hs220 (Nat.le_trans hs222 (Nat.le_trans hs227 hs235)))))))))))))))))))) (Nat.le_of_eq hzO238))
          replace hX29 := ho.ext hX29 (Nat.le_trans (Nat.le_trans hs41 (Nat.le_trans hs46 (Nat.le_trans hs50 (Nat.le_trans hs53 (Nat.le_trans hs55 (Nat.le_trans hs65 (Nat.le_trans hs70 (Nat.le_trans hs73 (Nat.le_trans hs75 (Nat.le_trans hs216 (Nat.le_trans hs218 (Nat.le_trans hs220 (Nat.le_trans hs222 (Nat.le_trans hs227 hs235)))))))))))))) (Nat.le_of_eq hzO238))
          replace hX66 := ho.ext hX66 (Nat.le_trans (Nat.le_trans hs70 (Nat.le_trans hs73 (Nat.le_trans hs75 (Nat.le_trans hs216 (Nat.le_trans hs218 (Nat.le_trans hs220 (Nat.le_trans hs222 (Nat.le_trans hs227 hs235)))))))) (Nat.le_of_eq hzO238))
          replace hX74 := ho.ext hX74 (Nat.le_trans (Nat.le_trans hs75 (Nat.le_trans hs216 (Nat.le_trans hs218 (Nat.le_trans hs220 (Nat.le_trans hs222 (Nat.le_trans hs227 hs235)))))) (Nat.le_of_eq hzO238))
          replace hX78 := ho.ext hX78 (Nat.le_trans (Nat.le_trans hs216 (Nat.le_trans hs218 (Nat.le_trans hs220 (Nat.le_trans hs222 (Nat.le_trans hs227 hs235))))) (Nat.le_of_eq hzO238))
          replace hX224 := ho.ext hX224 (Nat.le_trans (Nat.le_trans hs227 hs235) (Nat.le_of_eq hzO238))
          replace hrow232 := ho.rows (Nat.ne_of_gt (Nat.lt_of_lt_of_le lt236 (Nat.le_of_eq hzO238))) hrow232
          replace v237 := ho.va (Nat.ne_of_gt (Nat.lt_of_lt_of_le lt236 (Nat.le_of_eq hzO238))) v237
          have hs243 : X239.heap.size ≤ X242.heap.size := Nat.le_of_eq ho.size.symm
          clear ho hk bO238_0
          have bO238_0 := hv0; clear hv0
          refine pl_nil ?_
          refine qw_then ?_
          refine cw_clean [9, 11, 12, 16, 23, 24] (ws' := [(9, .pointer (some ⟨O1, 0, none⟩)), (11, .pointer (some ⟨O14, 0, none⟩)), (12, .slice la22 t21 lc23), (16, .slice (some ⟨pb, po, none⟩) t21 pc57), (23, .int .i64 (((kk : Nat) : Int) : Int)), (24, .pointer (some ⟨O238, 0, none⟩))]) (by kernel_rfl) (fun L => ?_)
          refine cw_seq ?_
          refine cw_seq ?_
          refine cw_plain ?_
          refine pl_take (.pointer (some ⟨O238, 0, none⟩)) rfl (by kernel_rfl) (by kernel_rfl) (by kernel_rfl) (by kernel_rfl) ?_
          refine pl_take (.slice (some ⟨g228, 0, none⟩) 24 cap229) rfl (by kernel_rfl) (by kernel_rfl) (by kernel_rfl) (ex_load rfl (by kernel_rfl) (ld23 (bO238_0.1))) ?_
          refine pl_take (.int .i64 24) rfl (by kernel_rfl) (by kernel_rfl) (by kernel_rfl) (by kernel_rfl) ?_
          refine pl_take (.bool false) rfl (by kernel_rfl) (by kernel_rfl) (by kernel_rfl) (by kernel_rfl) ?_
          refine pl_nil ?_
          refine qw_then ?_
          refine cw_f (by kernel_rfl) ?_
          refine cw_skip ?_
          refine qw_then ?_
          refine cw_seq ?_
          refine cw_plain ?_
          refine pl_take (.pointer (some ⟨O1, 1, none⟩)) rfl (by kernel_rfl) (by kernel_rfl) (by kernel_rfl) (by kernel_rfl) ?_
          refine pl_take (.int .i64 (y4 : Int)) rfl (by kernel_rfl) (by kernel_rfl) (by kernel_rfl) (ex_load rfl (by kernel_rfl) (ld3 ((BoxAt.ext hX74 bO1_1).1))) ?_
          refine pl_step rfl (by kernel_rfl) (by kernel_rfl) (by kernel_rfl) (sn_call (f := 14) (args := #[.int .i64 (y4 : Int), .int .i64 24]) (by kernel_rfl) ((pickN_c _ 24 _ hy4 (by omega) (by omega)).mono ?_))
          rintro e w' ⟨rr, rfl, rrl, rrp, rfl⟩
          refine ⟨_, rfl, ?_⟩
          refine pl_take (.int .i64 (((rr : Nat) : Int) : Int)) rfl (by kernel_rfl) (by kernel_rfl) (by kernel_rfl) (by kernel_rfl) ?_
          refine pl_nil ?_
          refine qw_then ?_
          refine cw_seq ?_
          refine cw_join (fun ws' Y => ∃ cc : Nat, ws' = [(11, .pointer (some ⟨O14, 0, none⟩)), (12, .slice la22 t21 lc23), (16, .slice (some ⟨pb, po, none⟩) t21 pc57), (23, .int .i64 (((kk : Nat) : Int) : Int)), (24, .pointer (some ⟨O238, 0, none⟩))] ∧ Ext w Y ∧ Ext w27 Y ∧ Ext w64 Y ∧ Ext X72 Y ∧ Ext w76 Y ∧ Ext w221 Y ∧ BoxAt Y O238 0 (.slice (some ⟨g228, 0, none⟩) 24 cap229) ∧ cc < 48 ∧ RowsAt Y g228 ((P.set rr (((Globe.rowN P rr ^^^ 2 ^ cc : Nat) : Int) : Int))) ∧ X242.heap.size ≤ Y.heap.size) (fun hJ => ?_) ?_
          ·
            refine cw_draw [(some 129, [24], []), (some 130, [129], [0]), (some 131, [25], []), (some 132, [24], []), (some 133, [132], [3]), (some 134, [25], []), (some 135, [133, 134], [4, 5]), (some 136, [135], [6]), (some 137, [9], []), (some 138, [137], [8]), (some 139, [138], [9]), (some 140, [139], [10]), (some 141, [136, 140], [7, 11]), (some 142, [130, 131], [1, 2, 0, 1, 2, 3, 4, 5, 6, 7, 8, 9, 10, 11, 12]), (none, [142, 141], [13, 12, 10, 0, 1, 2, 3, 4, 5, 6, 7, 8, 9, 10, 11, 12])] (fun w' => w'.cell? ⟨O238, 0, none⟩ = some (.slice (some ⟨g228, 0, none⟩) 24 cap229) ∧ w'.cell? ⟨O1, 0, none⟩ = some (.int .i64 (x4 : Int))) (by kernel_rfl) (by kernel_rfl) (by kernel_rfl) (by kernel_rfl) ((calm_then calm_body)) (⟨bO238_0.1, (BoxAt.ext hX74 bO1_0).1⟩) (fun ops Q X244 hb hL hR hK => ?_)
            replace hE := hE.trans hb
            replace hX29 := hX29.trans hb
            replace hX66 := hX66.trans hb
            replace hX74 := hX74.trans hb
            replace hX78 := hX78.trans hb
            replace hX224 := hX224.trans hb
            replace hrow232 := hrow232.ext hb
            replace v237 := v237.ext hb
            replace bO238_0 := BoxAt.ext hb bO238_0
            have hs245 := hb.size
            clear hb
            refine wd_take 0 (.pointer (some ⟨O238, 0, none⟩)) hR rfl (by kernel_rfl) rfl (by kernel_rfl) (fun w _ => by kernel_rfl) (⟨bO238_0.1, (BoxAt.ext hX74 bO1_0).1⟩) ?_
            refine wd_take 1 (.slice (some ⟨g228, 0, none⟩) 24 cap229) hR rfl (by kernel_rfl) rfl (by kernel_rfl) (fun w hS => ex_load rfl (by kernel_rfl) (ld23 (hS.1))) (⟨bO238_0.1, (BoxAt.ext hX74 bO1_0).1⟩) ?_
            refine wd_take 2 (.int .i64 (((rr : Nat) : Int) : Int)) hR rfl (by kernel_rfl) rfl (by kernel_rfl) (fun w _ => by kernel_rfl) (⟨bO238_0.1, (BoxAt.ext hX74 bO1_0).1⟩) ?_
            refine wd_take 3 (.pointer (some ⟨O238, 0, none⟩)) hR rfl (by kernel_rfl) rfl (by kernel_rfl) (fun w _ => by kernel_rfl) (⟨bO238_0.1, (BoxAt.ext hX74 bO1_0).1⟩) ?_
            refine wd_take 4 (.slice (some ⟨g228, 0, none⟩) 24 cap229) hR rfl (by kernel_rfl) rfl (by kernel_rfl) (fun w hS => ex_load rfl (by kernel_rfl) (ld23 (hS.1))) (⟨bO238_0.1, (BoxAt.ext hX74 bO1_0).1⟩) ?_
            refine wd_take 5 (.int .i64 (((rr : Nat) : Int) : Int)) hR rfl (by kernel_rfl) rfl (by kernel_rfl) (fun w _ => by kernel_rfl) (⟨bO238_0.1, (BoxAt.ext hX74 bO1_0).1⟩) ?_
            refine wd_take 6 (.pointer (some ⟨g228, rr, none⟩)) hR rfl (by kernel_rfl) rfl (by kernel_rfl) (fun w _ => ex_index (p := .slice (some ⟨g228, 0, none⟩) 24 cap229) (i := .int .i64 ((rr : Nat) : Int)) rfl (by kernel_rfl) (by kernel_rfl) (ix23z (k := rr) (by omega))) (⟨bO238_0.1, (BoxAt.ext hX74 bO1_0).1⟩) ?_
            refine wd_take 8 (.pointer (some ⟨O1, 0, none⟩)) hR rfl (by kernel_rfl) rfl (by kernel_rfl) (fun w _ => by kernel_rfl) (⟨bO238_0.1, (BoxAt.ext hX74 bO1_0).1⟩) ?_
            refine wd_take 9 (.int .i64 (x4 : Int)) hR rfl (by kernel_rfl) rfl (by kernel_rfl) (fun w hS => ex_load rfl (by kernel_rfl) (ld3 (hS.2))) (⟨bO238_0.1, (BoxAt.ext hX74 bO1_0).1⟩) ?_
            refine wd_two 7 10 hR rfl rfl (by kernel_rfl) (by kernel_rfl) (by kernel_rfl) (by kernel_rfl) ?_ ?_
            ·
              refine sn_eff (v := .int .i64 (((Globe.rowN P rr : Nat) : Int) : Int)) (w' := X244) (ex_load rfl (by kernel_rfl) (ld3 (v237.cell0 (y := rr) (by omega)))) ⟨⟨bO238_0.1, (BoxAt.ext hX74 bO1_0).1⟩, ?_⟩
              refine wd_step 10 hR rfl (by kernel_rfl) (by kernel_rfl) (by kernel_rfl) (sn_call (f := 14) (args := #[.int .i64 (x4 : Int), .int .i64 48]) (by kernel_rfl) ((pickN_c _ 48 _ hx4 (by omega) (by omega)).mono ?_))
              rintro e w' ⟨cc, rfl, ccl, ccp, rfl⟩
              refine ⟨_, rfl, ⟨bO238_0.1, (BoxAt.ext hX74 bO1_0).1⟩, ?_⟩
              refine wd_take 11 (.int .i64 (((2 ^ cc : Nat) : Int) : Int)) hR rfl (by kernel_rfl) rfl (by kernel_rfl) (fun w _ => ex_bin rfl (by kernel_rfl) (by kernel_rfl) (bin_shl1 (by omega))) (⟨bO238_0.1, (BoxAt.ext hX74 bO1_0).1⟩) ?_
              refine wd_take 12 (.int .i64 (((Globe.rowN P rr ^^^ 2 ^ cc : Nat) : Int) : Int)) hR rfl (by kernel_rfl) rfl (by kernel_rfl) (fun w _ => ev_int (show _ = Result.ok (Next.value (Value.int .i64 (bits .xor .i64 ((Globe.rowN P rr : Nat) : Int) ((2 ^ cc : Nat) : Int)))) _ from by kernel_rfl) (xor_i64 _ _ (by have := Globe.rowN_lt hPv rr; omega) (by have : 2 ^ cc < 2 ^ 48 := Nat.pow_lt_pow_right (by decide) ccl; omega))) (⟨bO238_0.1, (BoxAt.ext hX74 bO1_0).1⟩) ?_
              refine wd_take 13 (.pointer (some ⟨g228, rr, none⟩)) hR rfl (by kernel_rfl) rfl (by kernel_rfl) (fun w _ => ex_index (p := .slice (some ⟨g228, 0, none⟩) 24 cap229) (i := .int .i64 ((rr : Nat) : Int)) rfl (by kernel_rfl) (by kernel_rfl) (ix23z (k := rr) (by omega))) (⟨bO238_0.1, (BoxAt.ext hX74 bO1_0).1⟩) ?_
              refine wd_step 14 hR rfl (by kernel_rfl) (by kernel_rfl) (by kernel_rfl) (sn_row (g := g228) (y := rr) (v := ((Globe.rowN P rr ^^^ 2 ^ cc : Nat) : Int)) (ex_store (p := .pointer (some ⟨g228, rr, none⟩)) (v := .int .i64 (((Globe.rowN P rr ^^^ 2 ^ cc : Nat) : Int) : Int)) rfl (by kernel_rfl) (by kernel_rfl) (st3 (hrow232.cell (by omega)) (hrow232.free (by omega)))) hrow232 (by omega) ?_)
              intro X246 ho hv0
              replace hE := ho.ext hE (Nat.le_trans (Nat.le_trans hs3 (Nat.le_trans hs6 (Nat.le_trans hs12 (Nat.le_trans hs16 (Nat.le_trans hs19 (Nat.le_trans hs28 (Nat.le_trans hs41 (Nat.le_trans hs46 (Nat.le_trans hs50 (Nat.le_trans hs53 (Nat.le_trans hs55 (Nat.le_trans hs65 (Nat.le_trans hs70 (Nat.le_trans hs73 (Nat.le_trans hs75 (Nat.le_trans hs216 (Nat.le_trans hs218 (Nat.le_trans hs220 hs222)))))))))))))))))) (Nat.le_trans (Nat.le_of_eq hzO225) hge233))
              replace hX29 := ho.ext hX29 (Nat.le_trans (Nat.le_trans hs41 (Nat.le_trans hs46 (Nat.le_trans hs50 (Nat.le_trans hs53 (Nat.le_trans hs55 (Nat.le_trans hs65 (Nat.le_trans hs70 (Nat.le_trans hs73 (Nat.le_trans hs75 (Nat.le_trans hs216 (Nat.le_trans hs218 (Nat.le_trans hs220 hs222)))))))))))) (Nat.le_trans (Nat.le_of_eq hzO225) hge233))
              replace hX66 := ho.ext hX66 (Nat.le_trans (Nat.le_trans hs70 (Nat.le_trans hs73 (Nat.le_trans hs75 (Nat.le_trans hs216 (Nat.le_trans hs218 (Nat.le_trans hs220 hs222)))))) (Nat.le_trans (Nat.le_of_eq hzO225) hge233))
              replace hX74 := ho.ext hX74 (Nat.le_trans (Nat.le_trans hs75 (Nat.le_trans hs216 (Nat.le_trans hs218 (Nat.le_trans hs220 hs222)))) (Nat.le_trans (Nat.le_of_eq hzO225) hge233))
              replace hX78 := ho.ext hX78 (Nat.le_trans (Nat.le_trans hs216 (Nat.le_trans hs218 (Nat.le_trans hs220 hs222))) (Nat.le_trans (Nat.le_of_eq hzO225) hge233))
              replace hX224 := ho.ext hX224 (Nat.le_trans (Nat.le_of_eq hzO225) hge233)
              replace bO238_0 := ho.box (Nat.ne_of_lt (Nat.lt_of_lt_of_le lt236 (Nat.le_of_eq hzO238))) bO238_0
              have hs247 : X244.heap.size ≤ X246.heap.size := Nat.le_of_eq ho.size.symm
              clear ho hrow232; have hrow232 := hv0; clear hv0
              refine ⟨⟨bO238_0.1, (BoxAt.ext hX74 bO1_0).1⟩, ?_⟩
              refine wd_end hL hR hK (by kernel_rfl) ?_
              exact qw_leaf hJ [11, 12, 16, 23, 24] (ws' := [(11, .pointer (some ⟨O14, 0, none⟩)), (12, .slice la22 t21 lc23), (16, .slice (some ⟨pb, po, none⟩) t21 pc57), (23, .int .i64 (((kk : Nat) : Int) : Int)), (24, .pointer (some ⟨O238, 0, none⟩))]) (by kernel_rfl) ⟨cc, rfl, hE, hX29, hX66, hX74, hX78, hX224, bO238_0, ccl, hrow232, (Nat.le_trans hs245 hs247)⟩
            ·
              refine sn_call (f := 14) (args := #[.int .i64 (x4 : Int), .int .i64 48]) (by kernel_rfl) ((pickN_c _ 48 _ hx4 (by omega) (by omega)).mono ?_)
              rintro e w' ⟨cc, rfl, ccl, ccp, rfl⟩
              refine ⟨_, rfl, ⟨bO238_0.1, (BoxAt.ext hX74 bO1_0).1⟩, ?_⟩
              refine wd_take 11 (.int .i64 (((2 ^ cc : Nat) : Int) : Int)) hR rfl (by kernel_rfl) rfl (by kernel_rfl) (fun w _ => ex_bin rfl (by kernel_rfl) (by kernel_rfl) (bin_shl1 (by omega))) (⟨bO238_0.1, (BoxAt.ext hX74 bO1_0).1⟩) ?_
              refine wd_step 7 hR rfl (by kernel_rfl) (by kernel_rfl) (by kernel_rfl) (sn_eff (v := .int .i64 (((Globe.rowN P rr : Nat) : Int) : Int)) (w' := X244) (ex_load rfl (by kernel_rfl) (ld3 (v237.cell0 (y := rr) (by omega)))) ⟨⟨bO238_0.1, (BoxAt.ext hX74 bO1_0).1⟩, ?_⟩)
              refine wd_take 12 (.int .i64 (((Globe.rowN P rr ^^^ 2 ^ cc : Nat) : Int) : Int)) hR rfl (by kernel_rfl) rfl (by kernel_rfl) (fun w _ => ev_int (show _ = Result.ok (Next.value (Value.int .i64 (bits .xor .i64 ((Globe.rowN P rr : Nat) : Int) ((2 ^ cc : Nat) : Int)))) _ from by kernel_rfl) (xor_i64 _ _ (by have := Globe.rowN_lt hPv rr; omega) (by have : 2 ^ cc < 2 ^ 48 := Nat.pow_lt_pow_right (by decide) ccl; omega))) (⟨bO238_0.1, (BoxAt.ext hX74 bO1_0).1⟩) ?_
              refine wd_take 13 (.pointer (some ⟨g228, rr, none⟩)) hR rfl (by kernel_rfl) rfl (by kernel_rfl) (fun w _ => ex_index (p := .slice (some ⟨g228, 0, none⟩) 24 cap229) (i := .int .i64 ((rr : Nat) : Int)) rfl (by kernel_rfl) (by kernel_rfl) (ix23z (k := rr) (by omega))) (⟨bO238_0.1, (BoxAt.ext hX74 bO1_0).1⟩) ?_
              refine wd_step 14 hR rfl (by kernel_rfl) (by kernel_rfl) (by kernel_rfl) (sn_row (g := g228) (y := rr) (v := ((Globe.rowN P rr ^^^ 2 ^ cc : Nat) : Int)) (ex_store (p := .pointer (some ⟨g228, rr, none⟩)) (v := .int .i64 (((Globe.rowN P rr ^^^ 2 ^ cc : Nat) : Int) : Int)) rfl (by kernel_rfl) (by kernel_rfl) (st3 (hrow232.cell (by omega)) (hrow232.free (by omega)))) hrow232 (by omega) ?_)
              intro X248 ho hv0
              replace hE := ho.ext hE (Nat.le_trans (Nat.le_trans hs3 (Nat.le_trans hs6 (Nat.le_trans hs12 (Nat.le_trans hs16 (Nat.le_trans hs19 (Nat.le_trans hs28 (Nat.le_trans hs41 (Nat.le_trans hs46 (Nat.le_trans hs50 (Nat.le_trans hs53 (Nat.le_trans hs55 (Nat.le_trans hs65 (Nat.le_trans hs70 (Nat.le_trans hs73 (Nat.le_trans hs75 (Nat.le_trans hs216 (Nat.le_trans hs218 (Nat.le_trans hs220 hs222)))))))))))))))))) (Nat.le_trans (Nat.le_of_eq hzO225) hge233))
              replace hX29 := ho.ext hX29 (Nat.le_trans (Nat.le_trans hs41 (Nat.le_trans hs46 (Nat.le_trans hs50 (Nat.le_trans hs53 (Nat.le_trans hs55 (Nat.le_trans hs65 (Nat.le_trans hs70 (Nat.le_trans hs73 (Nat.le_trans hs75 (Nat.le_trans hs216 (Nat.le_trans hs218 (Nat.le_trans hs220 hs222)))))))))))) (Nat.le_trans (Nat.le_of_eq hzO225) hge233))
              replace hX66 := ho.ext hX66 (Nat.le_trans (Nat.le_trans hs70 (Nat.le_trans hs73 (Nat.le_trans hs75 (Nat.le_trans hs216 (Nat.le_trans hs218 (Nat.le_trans hs220 hs222)))))) (Nat.le_trans (Nat.le_of_eq hzO225) hge233))
              replace hX74 := ho.ext hX74 (Nat.le_trans (Nat.le_trans hs75 (Nat.le_trans hs216 (Nat.le_trans hs218 (Nat.le_trans hs220 hs222)))) (Nat.le_trans (Nat.le_of_eq hzO225) hge233))
              replace hX78 := ho.ext hX78 (Nat.le_trans (Nat.le_trans hs216 (Nat.le_trans hs218 (Nat.le_trans hs220 hs222))) (Nat.le_trans (Nat.le_of_eq hzO225) hge233))
              replace hX224 := ho.ext hX224 (Nat.le_trans (Nat.le_of_eq hzO225) hge233)
              replace bO238_0 := ho.box (Nat.ne_of_lt (Nat.lt_of_lt_of_le lt236 (Nat.le_of_eq hzO238))) bO238_0
              have hs249 : X244.heap.size ≤ X248.heap.size := Nat.le_of_eq ho.size.symm
              clear ho hrow232; have hrow232 := hv0; clear hv0
              refine ⟨⟨bO238_0.1, (BoxAt.ext hX74 bO1_0).1⟩, ?_⟩
              refine wd_end hL hR hK (by kernel_rfl) ?_
              exact qw_leaf hJ [11, 12, 16, 23, 24] (ws' := [(11, .pointer (some ⟨O14, 0, none⟩)), (12, .slice la22 t21 lc23), (16, .slice (some ⟨pb, po, none⟩) t21 pc57), (23, .int .i64 (((kk : Nat) : Int) : Int)), (24, .pointer (some ⟨O238, 0, none⟩))]) (by kernel_rfl) ⟨cc, rfl, hE, hX29, hX66, hX74, hX78, hX224, bO238_0, ccl, hrow232, (Nat.le_trans hs245 hs249)⟩
          ·
            clear hrow232 v237 bO238_0 hE hX29 hX66 hX74 hX78 hX224
            rintro L ws Y250 ⟨cc, rfl, hE, hX29, hX66, hX74, hX78, hX224, bO238_0, ccl, hrow232, hn251⟩
            refine qw_then ?_
            refine cw_seq ?_
            have vT : VA Y250 g228 0 (Globe.togL P rr cc) := hrow232.va (Globe.tog_valid hPv ccl)
            have hX252 : Ext Y250 Y250 := Ext.refl _
            refine cw_plain ?_
            refine pl_step rfl (by kernel_rfl) (by kernel_rfl) (by kernel_rfl) (sn_newS0 (t := 25) (by kernel_rfl) ?_)
            intro O253 X254 hO hOs hb hpO253
            have hzO253 := hO; have hyO253 : O253 < X254.heap.size := (by omega); clear hO hOs
            replace hE := hE.trans hb
            replace hX29 := hX29.trans hb
            replace hX66 := hX66.trans hb
            replace hX74 := hX74.trans hb
            replace hX78 := hX78.trans hb
            replace hX224 := hX224.trans hb
            replace hX252 := hX252.trans hb
            have hs255 := hb.size
            clear hb
            refine pl_take (.slice (some ⟨pb, po, none⟩) t21 pc57) rfl (by kernel_rfl) (by kernel_rfl) (by kernel_rfl) (by kernel_rfl) ?_
            obtain ⟨g256, cap257, w258, hrun259, own263, hgr262⟩ := app_areas (ty := 34) (c := pc57) (n₀ := Y250.heap.size) hpO253 (Nat.le_of_eq hzO253) (hP62.ext hX66) (by omega) (by omega) (Globe.pieces_valid _ v9.2)
            refine pl_step rfl (by kernel_rfl) (by kernel_rfl) (by kernel_rfl) (sn_eff (v := .slice (some ⟨g256, 0, none⟩) t21 cap257) (w' := w258) (ex_append rfl (by kernel_rfl) (by kernel_rfl) hrun259) ?_)
            replace hE := hgr262.ext _ hE (Nat.le_trans hs3 (Nat.le_trans hs6 (Nat.le_trans hs12 (Nat.le_trans hs16 (Nat.le_trans hs19 (Nat.le_trans hs28 (Nat.le_trans hs41 (Nat.le_trans hs46 (Nat.le_trans hs50 (Nat.le_trans hs53 (Nat.le_trans hs55 (Nat.le_trans hs65 (Nat.le_trans hs70 (Nat.le_trans hs73 (Nat.le_trans hs75 (Nat.le_trans hs216 (Nat.le_trans hs218 (Nat.le_trans hs220 (Nat.le_trans hs222 (Nat.le_trans hs227 (Nat.le_trans hs235 (Nat.le_trans hs240 (Nat.le_trans hs243 hn251)))))))))))))))))))))))
            replace hX29 := hgr262.ext _ hX29 (Nat.le_trans hs41 (Nat.le_trans hs46 (Nat.le_trans hs50 (Nat.le_trans hs53 (Nat.le_trans hs55 (Nat.le_trans hs65 (Nat.le_trans hs70 (Nat.le_trans hs73 (Nat.le_trans hs75 (Nat.le_trans hs216 (Nat.le_trans hs218 (Nat.le_trans hs220 (Nat.le_trans hs222 (Nat.le_trans hs227 (Nat.le_trans hs235 (Nat.le_trans hs240 (Nat.le_trans hs243 hn251)))))))))))))))))
            replace hX66 := hgr262.ext _ hX66 (Nat.le_trans hs70 (Nat.le_trans hs73 (Nat.le_trans hs75 (Nat.le_trans hs216 (Nat.le_trans hs218 (Nat.le_trans hs220 (Nat.le_trans hs222 (Nat.le_trans hs227 (Nat.le_trans hs235 (Nat.le_trans hs240 (Nat.le_trans hs243 hn251)))))))))))
            replace hX74 := hgr262.ext _ hX74 (Nat.le_trans hs75 (Nat.le_trans hs216 (Nat.le_trans hs218 (Nat.le_trans hs220 (Nat.le_trans hs222 (Nat.le_trans hs227 (Nat.le_trans hs235 (Nat.le_trans hs240 (Nat.le_trans hs243 hn251)))))))))
            replace hX78 := hgr262.ext _ hX78 (Nat.le_trans hs216 (Nat.le_trans hs218 (Nat.le_trans hs220 (Nat.le_trans hs222 (Nat.le_trans hs227 (Nat.le_trans hs235 (Nat.le_trans hs240 (Nat.le_trans hs243 hn251))))))))
            replace hX224 := hgr262.ext _ hX224 (Nat.le_trans hs227 (Nat.le_trans hs235 (Nat.le_trans hs240 (Nat.le_trans hs243 hn251))))
            replace hX252 := hgr262.ext _ hX252 (Nat.le_refl _)
            have hs264 := hgr262.size
            have hn265 := own263.base g256 rfl; have lt266 := own263.lt g256 rfl
            refine pl_take (.slice (some ⟨g256, 0, none⟩) t21 cap257) rfl (by kernel_rfl) (by kernel_rfl) (by kernel_rfl) (by kernel_rfl) ?_
            refine pl_nil ?_
            refine qw_then ?_
            refine cw_seq ?_
            refine cw_plain ?_
            refine pl_take (.slice (some ⟨g256, 0, none⟩) t21 cap257) rfl (by kernel_rfl) (by kernel_rfl) (by kernel_rfl) (by kernel_rfl) ?_
            refine pl_take (.int .i64 (((kk : Nat) : Int) : Int)) rfl (by kernel_rfl) (by kernel_rfl) (by kernel_rfl) (by kernel_rfl) ?_
            refine pl_take (.agg #[.slice (some ⟨g228, 0, none⟩) 24 cap229]) rfl (by kernel_rfl) (by kernel_rfl) (by kernel_rfl) (ex_load rfl (by kernel_rfl) (ld25 ((BoxAt.ext hX252 bO238_0).1))) ?_
            refine pl_take (.pointer (some ⟨g256, kk, none⟩)) rfl (by kernel_rfl) (by kernel_rfl) (by kernel_rfl) (ex_index (p := .slice (some ⟨g256, 0, none⟩) t21 cap257) (i := .int .i64 ((kk : Nat) : Int)) rfl (by kernel_rfl) (by kernel_rfl) (ix34z (k := kk) (by omega))) ?_
            obtain ⟨⟨u8, hu8⟩, hf8, pC⟩ := areas_set (c := cap229) own263 hP62.1 (by omega) (k := kk) (by omega) (hL := (vT.ext hX252)) ((Nat.ne_of_lt (Nat.lt_of_lt_of_le lt236 (Nat.le_trans (Nat.le_trans hs240 (Nat.le_trans hs243 hn251)) hn265))))
            refine pl_put rfl (by kernel_rfl) (by kernel_rfl) (sn_skp (w' := w258.setCell ⟨g256, kk, none⟩ (.slice (some ⟨g228, 0, none⟩) 24 cap229)) (ex_store (p := .pointer (some ⟨g256, kk, none⟩)) (v := .agg #[.slice (some ⟨g228, 0, none⟩) 24 cap229]) rfl (by kernel_rfl) (by kernel_rfl) (st25 hu8 hf8)) ?_)
            have ho := turns_set w258 g256 kk (.slice (some ⟨g228, 0, none⟩) 24 cap229)
            obtain ⟨X267, hX8⟩ : ∃ X, X = w258.setCell ⟨g256, kk, none⟩ (.slice (some ⟨g228, 0, none⟩) 24 cap229) := ⟨_, rfl⟩
            rw [← hX8] at ho pC ⊢; clear hX8
            replace hE := ho.ext hE (Nat.le_trans (Nat.le_trans hs3 (Nat.le_trans hs6 (Nat.le_trans hs12 (Nat.le_trans hs16 (Nat.le_trans hs19 (Nat.le_trans hs28 (Nat.le_trans hs41 (Nat.le_trans hs46 (Nat.le_trans hs50 (Nat.le_trans hs53 (Nat.le_trans hs55 (Nat.le_trans hs65 (Nat.le_trans hs70 (Nat.le_trans hs73 (Nat.le_trans hs75 (Nat.le_trans hs216 (Nat.le_trans hs218 (Nat.le_trans hs220 (Nat.le_trans hs222 (Nat.le_trans hs227 (Nat.le_trans hs235 (Nat.le_trans hs240 (Nat.le_trans hs243 hn251))))))))))))))))))))))) hn265)
            replace hX29 := ho.ext hX29 (Nat.le_trans (Nat.le_trans hs41 (Nat.le_trans hs46 (Nat.le_trans hs50 (Nat.le_trans hs53 (Nat.le_trans hs55 (Nat.le_trans hs65 (Nat.le_trans hs70 (Nat.le_trans hs73 (Nat.le_trans hs75 (Nat.le_trans hs216 (Nat.le_trans hs218 (Nat.le_trans hs220 (Nat.le_trans hs222 (Nat.le_trans hs227 (Nat.le_trans hs235 (Nat.le_trans hs240 (Nat.le_trans hs243 hn251))))))))))))))))) hn265)
            replace hX66 := ho.ext hX66 (Nat.le_trans (Nat.le_trans hs70 (Nat.le_trans hs73 (Nat.le_trans hs75 (Nat.le_trans hs216 (Nat.le_trans hs218 (Nat.le_trans hs220 (Nat.le_trans hs222 (Nat.le_trans hs227 (Nat.le_trans hs235 (Nat.le_trans hs240 (Nat.le_trans hs243 hn251))))))))))) hn265)
            replace hX74 := ho.ext hX74 (Nat.le_trans (Nat.le_trans hs75 (Nat.le_trans hs216 (Nat.le_trans hs218 (Nat.le_trans hs220 (Nat.le_trans hs222 (Nat.le_trans hs227 (Nat.le_trans hs235 (Nat.le_trans hs240 (Nat.le_trans hs243 hn251))))))))) hn265)
            replace hX78 := ho.ext hX78 (Nat.le_trans (Nat.le_trans hs216 (Nat.le_trans hs218 (Nat.le_trans hs220 (Nat.le_trans hs222 (Nat.le_trans hs227 (Nat.le_trans hs235 (Nat.le_trans hs240 (Nat.le_trans hs243 hn251)))))))) hn265)
            replace hX224 := ho.ext hX224 (Nat.le_trans (Nat.le_trans hs227 (Nat.le_trans hs235 (Nat.le_trans hs240 (Nat.le_trans hs243 hn251)))) hn265)
            replace hX252 := ho.ext hX252 hn265
            have hs268 : w258.heap.size ≤ X267.heap.size := Nat.le_of_eq ho.size.symm
            have hX269 : Ext X267 X267 := Ext.refl _
            refine pl_nil ?_
            refine qw_then ?_
            refine cw_seq ?_
            refine cw_plain ?_
            refine pl_take (.agg #[.slice (some ⟨B7, 0, none⟩) 24 k8]) rfl (by kernel_rfl) (by kernel_rfl) (by kernel_rfl) (ex_load rfl (by kernel_rfl) (ld25 ((BoxAt.ext hX74 bO14_0).1))) ?_
            refine pl_take (.slice la22 t21 lc23) rfl (by kernel_rfl) (by kernel_rfl) (by kernel_rfl) (by kernel_rfl) ?_
            refine pl_take (.slice (some ⟨g256, 0, none⟩) t21 cap257) rfl (by kernel_rfl) (by kernel_rfl) (by kernel_rfl) (by kernel_rfl) ?_
            refine pl_step rfl (by kernel_rfl) (by kernel_rfl) (by kernel_rfl) (sn_call (f := 23) (args := #[.agg #[.slice (some ⟨B7, 0, none⟩) 24 k8], .slice la22 t21 lc23, .slice (some ⟨g256, 0, none⟩) t21 cap257]) (by kernel_rfl) ((Check_r (r := false) _ _ _ _ (v9.ext hX74).aa (Ext.refl _) sS24 hX29 pC (Ext.refl _) (hT.ext hE) (check_b (Globe.check_turned _ v9.2 (sures_ok hok25) hp rrl ccl) v9.2 hok25 (by rw [List.length_set, Globe.pieces_len, List.length_map]))).mono ?_))
            rintro e w270 ⟨rfl, hb⟩
            replace hE := hE.trans hb
            replace hX29 := hX29.trans hb
            replace hX66 := hX66.trans hb
            replace hX74 := hX74.trans hb
            replace hX78 := hX78.trans hb
            replace hX224 := hX224.trans hb
            replace hX252 := hX252.trans hb
            replace hX269 := hX269.trans hb
            have hs271 := hb.size
            clear hb
            refine ⟨_, rfl, ?_⟩
            refine pl_take (.bool true) rfl (by kernel_rfl) (by kernel_rfl) (by kernel_rfl) (by kernel_rfl) ?_
            refine pl_take (.bool true) rfl (by kernel_rfl) (by kernel_rfl) (by kernel_rfl) (by kernel_rfl) ?_
            refine pl_skip rfl (by kernel_rfl) (by kernel_rfl) (by kernel_rfl) ?_
            refine pl_skip rfl (by kernel_rfl) (by kernel_rfl) (by kernel_rfl) ?_
            refine pl_skip rfl (by kernel_rfl) (by kernel_rfl) (by kernel_rfl) ?_
            refine pl_skip rfl (by kernel_rfl) (by kernel_rfl) (by kernel_rfl) ?_
            refine pl_skip rfl (by kernel_rfl) (by kernel_rfl) (by kernel_rfl) ?_
            refine pl_take (.bool true) rfl (by kernel_rfl) (by kernel_rfl) (by kernel_rfl) (by kernel_rfl) ?_
            refine pl_take (.bool true) rfl (by kernel_rfl) (by kernel_rfl) (by kernel_rfl) (by kernel_rfl) ?_
            refine pl_nil ?_
            refine qw_then ?_
            refine cw_clean [10] (ws' := [(10, .bool true)]) (by kernel_rfl) (fun L => ?_)
            refine cw_ret ?_
            refine qw_ret [.bool true] rfl ⟨(by kernel_rfl), trivial⟩ ?_
            exact ⟨rfl, hE⟩
      ·
        refine cw_draw [(some 88, [11], []), (some 89, [12], []), (some 90, [19], []), (some 91, [88, 89, 90], [0, 1, 2]), (some 92, [91], [3, 3]), (some 93, [14, 92], [4]), (some 94, [93, 92], [5, 4, 4]), (some 95, [94, 92], [6, 4]), (some 96, [92, 95], [4, 7]), (some 97, [96], [8, 6]), (some 98, [11, 97], [9]), (some 99, [12, 97], [9]), (some 100, [16, 97], [9]), (some 101, [98, 99, 100, 97], [10, 11, 12, 9, 9]), (some 102, [14, 97], [9]), (some 103, [102, 97], [14, 13, 9]), (some 104, [103, 97], [15, 9]), (some 105, [101, 104, 97], [13, 16, 9]), (some 106, [97, 105], [9, 17])] (fun w' => w'.cell? ⟨O14, 0, none⟩ = some (.slice (some ⟨B7, 0, none⟩) 24 k8) ∧ w'.cell? ⟨O48, 0, none⟩ = some (.slice (some ⟨B33, o34, none⟩) 24 k35)) (by kernel_rfl) (by kernel_rfl) (by kernel_rfl) (by kernel_rfl) ((calm_then (calm_then calm_body))) (⟨(BoxAt.ext hX74 bO14_0).1, (BoxAt.ext hX74 bO48_0).1⟩) (fun ops Q X272 hb hL hR hK => ?_)
        replace hE := hE.trans hb
        replace hX29 := hX29.trans hb
        replace hX66 := hX66.trans hb
        replace hX74 := hX74.trans hb
        replace hX78 := hX78.trans hb
        have hs273 := hb.size
        clear hb
        refine wd_take 0 (.agg #[.slice (some ⟨B7, 0, none⟩) 24 k8]) hR rfl (by kernel_rfl) rfl (by kernel_rfl) (fun w hS => ex_load rfl (by kernel_rfl) (ld25 (hS.1))) (⟨(BoxAt.ext hX74 bO14_0).1, (BoxAt.ext hX74 bO48_0).1⟩) ?_
        refine wd_take 1 (.slice la22 t21 lc23) hR rfl (by kernel_rfl) rfl (by kernel_rfl) (fun w _ => by kernel_rfl) (⟨(BoxAt.ext hX74 bO14_0).1, (BoxAt.ext hX74 bO48_0).1⟩) ?_
        refine wd_take 2 (.slice a9 t21 c9) hR rfl (by kernel_rfl) rfl (by kernel_rfl) (fun w _ => by kernel_rfl) (⟨(BoxAt.ext hX74 bO14_0).1, (BoxAt.ext hX74 bO48_0).1⟩) ?_
        refine wd_step 3 hR rfl (by kernel_rfl) (by kernel_rfl) (by kernel_rfl) (sn_call (f := 23) (args := #[.agg #[.slice (some ⟨B7, 0, none⟩) 24 k8], .slice la22 t21 lc23, .slice a9 t21 c9]) (by kernel_rfl) ((Check_r (r := false) _ _ _ _ (v9.ext hX74).aa (Ext.refl _) sS24 hX29 pM hX78 (hT.ext hE) (hck)).mono ?_))
        rintro e w274 ⟨rfl, hb⟩
        replace hE := hE.trans hb
        replace hX29 := hX29.trans hb
        replace hX66 := hX66.trans hb
        replace hX74 := hX74.trans hb
        replace hX78 := hX78.trans hb
        have hs275 := hb.size
        clear hb
        refine ⟨_, rfl, ⟨(BoxAt.ext hX74 bO14_0).1, (BoxAt.ext hX74 bO48_0).1⟩, ?_⟩
        refine wd_take 4 (.bool false) hR rfl (by kernel_rfl) rfl (by kernel_rfl) (fun w _ => by kernel_rfl) (⟨(BoxAt.ext hX74 bO14_0).1, (BoxAt.ext hX74 bO48_0).1⟩) ?_
        refine wd_skip 5 hR rfl (by kernel_rfl) rfl (by kernel_rfl) (⟨(BoxAt.ext hX74 bO14_0).1, (BoxAt.ext hX74 bO48_0).1⟩) ?_
        refine wd_skip 6 hR rfl (by kernel_rfl) rfl (by kernel_rfl) (⟨(BoxAt.ext hX74 bO14_0).1, (BoxAt.ext hX74 bO48_0).1⟩) ?_
        refine wd_skip 7 hR rfl (by kernel_rfl) rfl (by kernel_rfl) (⟨(BoxAt.ext hX74 bO14_0).1, (BoxAt.ext hX74 bO48_0).1⟩) ?_
        refine wd_take 8 (.bool false) hR rfl (by kernel_rfl) rfl (by kernel_rfl) (fun w _ => by kernel_rfl) (⟨(BoxAt.ext hX74 bO14_0).1, (BoxAt.ext hX74 bO48_0).1⟩) ?_
        refine wd_take 9 (.bool false) hR rfl (by kernel_rfl) rfl (by kernel_rfl) (fun w _ => by kernel_rfl) (⟨(BoxAt.ext hX74 bO14_0).1, (BoxAt.ext hX74 bO48_0).1⟩) ?_
        refine wd_take 10 (.agg #[.slice (some ⟨B7, 0, none⟩) 24 k8]) hR rfl (by kernel_rfl) rfl (by kernel_rfl) (fun w hS => ex_load rfl (by kernel_rfl) (ld25 (hS.1))) (⟨(BoxAt.ext hX74 bO14_0).1, (BoxAt.ext hX74 bO48_0).1⟩) ?_
        refine wd_take 11 (.slice la22 t21 lc23) hR rfl (by kernel_rfl) rfl (by kernel_rfl) (fun w _ => by kernel_rfl) (⟨(BoxAt.ext hX74 bO14_0).1, (BoxAt.ext hX74 bO48_0).1⟩) ?_
        refine wd_take 12 (.slice pa56 t21 pc57) hR rfl (by kernel_rfl) rfl (by kernel_rfl) (fun w _ => by kernel_rfl) (⟨(BoxAt.ext hX74 bO14_0).1, (BoxAt.ext hX74 bO48_0).1⟩) ?_
        refine wd_take 14 (.agg #[.slice (some ⟨B33, o34, none⟩) 24 k35]) hR rfl (by kernel_rfl) rfl (by kernel_rfl) (fun w hS => ex_load rfl (by kernel_rfl) (ld25 (hS.2))) (⟨(BoxAt.ext hX74 bO14_0).1, (BoxAt.ext hX74 bO48_0).1⟩) ?_
        refine wd_step 13 hR rfl (by kernel_rfl) (by kernel_rfl) (by kernel_rfl) (sn_call (f := 23) (args := #[.agg #[.slice (some ⟨B7, 0, none⟩) 24 k8], .slice la22 t21 lc23, .slice pa56 t21 pc57]) (by kernel_rfl) ((Check_r (r := false) _ _ _ _ (v9.ext hX74).aa (Ext.refl _) sS24 hX29 hP62 hX66 (hT.ext hE) (hself _ (decide_eq_false hz))).mono ?_))
        rintro e w276 ⟨rfl, hb⟩
        replace hE := hE.trans hb
        replace hX29 := hX29.trans hb
        replace hX66 := hX66.trans hb
        replace hX74 := hX74.trans hb
        replace hX78 := hX78.trans hb
        have hs277 := hb.size
        clear hb
        refine ⟨_, rfl, ⟨(BoxAt.ext hX74 bO14_0).1, (BoxAt.ext hX74 bO48_0).1⟩, ?_⟩
        refine wd_step 15 hR rfl (by kernel_rfl) (by kernel_rfl) (by kernel_rfl) (sn_call (f := 29) (args := #[.agg #[.slice (some ⟨B33, o34, none⟩) 24 k35]]) (by kernel_rfl) ((Count_v _ _ (v37.ext hX74) (Ext.refl _) (hT.ext hE)).mono ?_))
        rintro e w278 ⟨rfl, hb⟩
        replace hE := hE.trans hb
        replace hX29 := hX29.trans hb
        replace hX66 := hX66.trans hb
        replace hX74 := hX74.trans hb
        replace hX78 := hX78.trans hb
        have hs279 := hb.size
        clear hb
        refine ⟨_, rfl, ⟨(BoxAt.ext hX74 bO14_0).1, (BoxAt.ext hX74 bO48_0).1⟩, ?_⟩
        refine wd_take 16 (.bool false) hR rfl (by kernel_rfl) rfl (by kernel_rfl) (fun w _ => ev_neq (show _ = Result.ok (Next.value (Value.bool (((((Globe.cellsTo (Globe.leftL (areaL q0 n0) (ss20.map fun s => s.1)) 24).length : Nat) : Int) : Int) == (0 : Int)))) _ from by kernel_rfl) (by omega)) (⟨(BoxAt.ext hX74 bO14_0).1, (BoxAt.ext hX74 bO48_0).1⟩) ?_
        refine wd_take 17 (.bool false) hR rfl (by kernel_rfl) rfl (by kernel_rfl) (fun w _ => by kernel_rfl) (⟨(BoxAt.ext hX74 bO14_0).1, (BoxAt.ext hX74 bO48_0).1⟩) ?_
        refine wd_take 18 (.bool false) hR rfl (by kernel_rfl) rfl (by kernel_rfl) (fun w _ => by kernel_rfl) (⟨(BoxAt.ext hX74 bO14_0).1, (BoxAt.ext hX74 bO48_0).1⟩) ?_
        refine wd_end hL hR hK (by kernel_rfl) ?_
        refine qw_then ?_
        refine cw_clean [3, 9, 11, 12, 16, 106] (ws' := [(3, .int .i64 (i3 : Int)), (9, .pointer (some ⟨O1, 0, none⟩)), (11, .pointer (some ⟨O14, 0, none⟩)), (12, .slice la22 t21 lc23), (16, .slice pa56 t21 pc57), (106, .bool false)]) (by kernel_rfl) (fun L => ?_)
        refine cw_f (by kernel_rfl) ?_
        refine cw_skip ?_
        refine qw_then ?_
        refine cw_seq ?_
        refine cw_seq ?_
        refine cw_plain ?_
        refine pl_take (.slice pa56 t21 pc57) rfl (by kernel_rfl) (by kernel_rfl) (by kernel_rfl) (by kernel_rfl) ?_
        refine pl_take (.int .i64 (((t21 : Nat) : Int) : Int)) rfl (by kernel_rfl) (by kernel_rfl) (by kernel_rfl) (by kernel_rfl) ?_
        by_cases hc280 : (((t21 : Nat) : Int) : Int) = (0 : Int)
        ·
          refine pl_take (.bool true) rfl (by kernel_rfl) (by kernel_rfl) (by kernel_rfl) (ev_eq (show _ = Result.ok (Next.value (Value.bool ((((t21 : Nat) : Int) : Int) == (0 : Int)))) _ from by kernel_rfl) (hc280)) ?_
          refine pl_nil ?_
          refine qw_then ?_
          refine cw_t (by kernel_rfl) ?_
          refine cw_seq ?_
          refine cw_plain ?_
          refine pl_take (.bool true) rfl (by kernel_rfl) (by kernel_rfl) (by kernel_rfl) (by kernel_rfl) ?_
          refine pl_nil ?_
          refine qw_then ?_
          refine cw_ret ?_
          refine qw_then_ret ?_
          refine qw_ret [.bool true] rfl ⟨(by kernel_rfl), trivial⟩ ?_
          exact ⟨rfl, hE⟩
        ·
          refine pl_take (.bool false) rfl (by kernel_rfl) (by kernel_rfl) (by kernel_rfl) (ev_neq (show _ = Result.ok (Next.value (Value.bool ((((t21 : Nat) : Int) : Int) == (0 : Int)))) _ from by kernel_rfl) (hc280)) ?_
          refine pl_nil ?_
          refine qw_then ?_
          refine cw_f (by kernel_rfl) ?_
          refine cw_skip ?_
          refine qw_then ?_
          refine cw_seq ?_
          refine cw_plain ?_
          refine pl_take (.int .i64 (i3 : Int)) rfl (by kernel_rfl) (by kernel_rfl) (by kernel_rfl) (by kernel_rfl) ?_
          refine pl_take (.slice pa56 t21 pc57) rfl (by kernel_rfl) (by kernel_rfl) (by kernel_rfl) (by kernel_rfl) ?_
          refine pl_take (.int .i64 (((t21 : Nat) : Int) : Int)) rfl (by kernel_rfl) (by kernel_rfl) (by kernel_rfl) (by kernel_rfl) ?_
          refine pl_step rfl (by kernel_rfl) (by kernel_rfl) (by kernel_rfl) (sn_call (f := 14) (args := #[.int .i64 (i3 : Int), .int .i64 (((t21 : Nat) : Int) : Int)]) (by kernel_rfl) ((pickN_c _ t21 _ hi3 (by omega) (by omega)).mono ?_))
          rintro e w' ⟨kk, rfl, kkl, kkp, rfl⟩
          refine ⟨_, rfl, ?_⟩
          refine pl_take (.int .i64 (((kk : Nat) : Int) : Int)) rfl (by kernel_rfl) (by kernel_rfl) (by kernel_rfl) (by kernel_rfl) ?_
          refine pl_nil ?_
          refine qw_then ?_
          refine cw_seq ?_
          have hX281 : Ext w278 w278 := Ext.refl _
          obtain ⟨pb, po, P, a1', n1', c1', v1', rfl, hp, dp, gp⟩ := hP62.at (by omega : kk < t21)
          have hPv : Globe.validL P = true := Globe.pieces_valid _ v9.2 P (List.mem_of_getElem? hp)
          obtain rfl : v1' = true := gp.2.2.2.symm.trans hPv
          obtain ⟨PB, pO, rfl, rfl, gp'⟩ := gp.va
          refine cw_plain ?_
          refine pl_step rfl (by kernel_rfl) (by kernel_rfl) (by kernel_rfl) (sn_newS0 (t := 3) (by kernel_rfl) ?_)
          intro O282 X283 hO hOs hb hpO282
          have hzO282 := hO; have hyO282 : O282 < X283.heap.size := (by omega); clear hO hOs
          replace hE := hE.trans hb
          replace hX29 := hX29.trans hb
          replace hX66 := hX66.trans hb
          replace hX74 := hX74.trans hb
          replace hX78 := hX78.trans hb
          replace hX281 := hX281.trans hb
          have hs284 := hb.size
          clear hb
          refine pl_take (.slice (some ⟨pb, po, none⟩) t21 pc57) rfl (by kernel_rfl) (by kernel_rfl) (by kernel_rfl) (by kernel_rfl) ?_
          refine pl_take (.int .i64 (((kk : Nat) : Int) : Int)) rfl (by kernel_rfl) (by kernel_rfl) (by kernel_rfl) (by kernel_rfl) ?_
          refine pl_take (.pointer (some ⟨pb, po + kk, none⟩)) rfl (by kernel_rfl) (by kernel_rfl) (by kernel_rfl) (ex_index (p := .slice (some ⟨pb, po, none⟩) t21 pc57) (i := .int .i64 ((kk : Nat) : Int)) rfl (by kernel_rfl) (by kernel_rfl) (ix34 (k := kk) (by omega))) ?_
          refine pl_take (.pointer (some ⟨pb, po + kk, none⟩)) rfl (by kernel_rfl) (by kernel_rfl) (by kernel_rfl) (by kernel_rfl) ?_
          refine pl_take (.slice (some ⟨PB, pO, none⟩) 24 c1') rfl (by kernel_rfl) (by kernel_rfl) (by kernel_rfl) (ex_load rfl (by kernel_rfl) (ld23 ((hX66.cell dp)))) ?_
          obtain ⟨g285, cap286, w287, hrun288, hrow289, hge290, hgr291⟩ := app_rows (ty := 23) (c := c1') hpO282 (gp'.ext hX66)
          refine pl_step rfl (by kernel_rfl) (by kernel_rfl) (by kernel_rfl) (sn_eff (v := .slice (some ⟨g285, 0, none⟩) 24 cap286) (w' := w287) (ex_append rfl (by kernel_rfl) (by kernel_rfl) hrun288) ?_)
          replace hE := hgr291.ext _ hE (Nat.le_trans (Nat.le_trans hs3 (Nat.le_trans hs6 (Nat.le_trans hs12 (Nat.le_trans hs16 (Nat.le_trans hs19 (Nat.le_trans hs28 (Nat.le_trans hs41 (Nat.le_trans hs46 (Nat.le_trans hs50 (Nat.le_trans hs53 (Nat.le_trans hs55 (Nat.le_trans hs65 (Nat.le_trans hs70 (Nat.le_trans hs73 (Nat.le_trans hs75 (Nat.le_trans hs273 (Nat.le_trans hs275 (Nat.le_trans hs277 hs279)))))))))))))))))) (Nat.le_of_eq hzO282))
          replace hX29 := hgr291.ext _ hX29 (Nat.le_trans (Nat.le_trans hs41 (Nat.le_trans hs46 (Nat.le_trans hs50 (Nat.le_trans hs53 (Nat.le_trans hs55 (Nat.le_trans hs65 (Nat.le_trans hs70 (Nat.le_trans hs73 (Nat.le_trans hs75 (Nat.le_trans hs273 (Nat.le_trans hs275 (Nat.le_trans hs277 hs279)))))))))))) (Nat.le_of_eq hzO282))
          replace hX66 := hgr291.ext _ hX66 (Nat.le_trans (Nat.le_trans hs70 (Nat.le_trans hs73 (Nat.le_trans hs75 (Nat.le_trans hs273 (Nat.le_trans hs275 (Nat.le_trans hs277 hs279)))))) (Nat.le_of_eq hzO282))
          replace hX74 := hgr291.ext _ hX74 (Nat.le_trans (Nat.le_trans hs75 (Nat.le_trans hs273 (Nat.le_trans hs275 (Nat.le_trans hs277 hs279)))) (Nat.le_of_eq hzO282))
          replace hX78 := hgr291.ext _ hX78 (Nat.le_trans (Nat.le_trans hs273 (Nat.le_trans hs275 (Nat.le_trans hs277 hs279))) (Nat.le_of_eq hzO282))
          replace hX281 := hgr291.ext _ hX281 (Nat.le_of_eq hzO282)
          have hs292 := hgr291.size
          have lt293 := hrow289.lt
          have v294 := hrow289.va gp'.2
          refine pl_take (.agg #[.slice (some ⟨g285, 0, none⟩) 24 cap286]) rfl (by kernel_rfl) (by kernel_rfl) (by kernel_rfl) (by kernel_rfl) ?_
          refine pl_step rfl (by kernel_rfl) (by kernel_rfl) (by kernel_rfl) (sn_new (us := #[.slice none 0 0]) (t := 25) (by kernel_rfl) ?_)
          intro O295 X296 hO hOs hb hbx
          have hzO295 := hO; have hyO295 := hOs; clear hO hOs
          have bO295_0 : BoxAt X296 O295 0 (.slice none 0 0) := hbx 0 _ rfl
          clear hbx
          replace hE := hE.trans hb
          replace hX29 := hX29.trans hb
          replace hX66 := hX66.trans hb
          replace hX74 := hX74.trans hb
          replace hX78 := hX78.trans hb
          replace hX281 := hX281.trans hb
          replace hrow289 := hrow289.ext hb
          replace v294 := v294.ext hb
          have hs297 := hb.size
          clear hb
          have lt298 := bO295_0.lt
          refine pl_put rfl (by kernel_rfl) (by kernel_rfl) (sn_set (O := O295) (j := 0) (v := .slice (some ⟨g285, 0, none⟩) 24 cap286) (ex_store (p := .pointer (some ⟨O295, 0, none⟩)) (v := .agg #[.slice (some ⟨g285, 0, none⟩) 24 cap286]) rfl (by kernel_rfl) (by kernel_rfl) (st25 bO295_0.1 bO295_0.2)) bO295_0 ?_)
          intro X299 ho hv0 hk
          replace hE := ho.ext hE (Nat.le_trans (Nat.le_trans hs3 (Nat.le_trans hs6 (Nat.le_trans hs12 (Nat.le_trans hs16 (Nat.le_trans hs19 (Nat.le_trans hs28 (Nat.le_trans hs41 (Nat.le_trans hs46 (Nat.le_trans hs50 (Nat.le_trans hs53 (Nat.le_trans hs55 (Nat.le_trans hs65 (Nat.le_trans hs70 (Nat.le_trans hs73 (Nat.le_trans hs75 (Nat.le_trans hs273 (Nat.le_trans hs275 (Nat.le_trans hs277 (Nat.le_trans hs279 (Nat.le_trans hs284 hs292)))))))))))))))))))) (Nat.le_of_eq hzO295))
          replace hX29 := ho.ext hX29 (Nat.le_trans (Nat.le_trans hs41 (Nat.le_trans hs46 (Nat.le_trans hs50 (Nat.le_trans hs53 (Nat.le_trans hs55 (Nat.le_trans hs65 (Nat.le_trans hs70 (Nat.le_trans hs73 (Nat.le_trans hs75 (Nat.le_trans hs273 (Nat.le_trans hs275 (Nat.le_trans hs277 (Nat.le_trans hs279 (Nat.le_trans hs284 hs292)))))))))))))) (Nat.le_of_eq hzO295))
          replace hX66 := ho.ext hX66 (Nat.le_trans (Nat.le_trans hs70 (Nat.le_trans hs73 (Nat.le_trans hs75 (Nat.le_trans hs273 (Nat.le_trans hs275 (Nat.le_trans hs277 (Nat.le_trans hs279 (Nat.le_trans hs284 hs292)))))))) (Nat.le_of_eq hzO295))
          replace hX74 := ho.ext hX74 (Nat.le_trans (Nat.le_trans hs75 (Nat.le_trans hs273 (Nat.le_trans hs275 (Nat.le_trans hs277 (Nat.le_trans hs279 (Nat.le_trans hs284 hs292)))))) (Nat.le_of_eq hzO295))
          replace hX78 := ho.ext hX78 (Nat.le_trans (Nat.le_trans hs273 (Nat.le_trans hs275 (Nat.le_trans hs277 (Nat.le_trans hs279 (Nat.le_trans hs284 hs292))))) (Nat.le_of_eq hzO295))
          replace hX281 := ho.ext hX281 (Nat.le_trans (Nat.le_trans hs284 hs292) (Nat.le_of_eq hzO295))
          replace hrow289 := ho.rows (Nat.ne_of_gt (Nat.lt_of_lt_of_le lt293 (Nat.le_of_eq hzO295))) hrow289
          replace v294 := ho.va (Nat.ne_of_gt (Nat.lt_of_lt_of_le lt293 (Nat.le_of_eq hzO295))) v294
          have hs300 : X296.heap.size ≤ X299.heap.size := Nat.le_of_eq ho.size.symm
          clear ho hk bO295_0
          have bO295_0 := hv0; clear hv0
          refine pl_nil ?_
          refine qw_then ?_
          refine cw_clean [9, 11, 12, 16, 23, 24] (ws' := [(9, .pointer (some ⟨O1, 0, none⟩)), (11, .pointer (some ⟨O14, 0, none⟩)), (12, .slice la22 t21 lc23), (16, .slice (some ⟨pb, po, none⟩) t21 pc57), (23, .int .i64 (((kk : Nat) : Int) : Int)), (24, .pointer (some ⟨O295, 0, none⟩))]) (by kernel_rfl) (fun L => ?_)
          refine cw_seq ?_
          refine cw_seq ?_
          refine cw_plain ?_
          refine pl_take (.pointer (some ⟨O295, 0, none⟩)) rfl (by kernel_rfl) (by kernel_rfl) (by kernel_rfl) (by kernel_rfl) ?_
          refine pl_take (.slice (some ⟨g285, 0, none⟩) 24 cap286) rfl (by kernel_rfl) (by kernel_rfl) (by kernel_rfl) (ex_load rfl (by kernel_rfl) (ld23 (bO295_0.1))) ?_
          refine pl_take (.int .i64 24) rfl (by kernel_rfl) (by kernel_rfl) (by kernel_rfl) (by kernel_rfl) ?_
          refine pl_take (.bool false) rfl (by kernel_rfl) (by kernel_rfl) (by kernel_rfl) (by kernel_rfl) ?_
          refine pl_nil ?_
          refine qw_then ?_
          refine cw_f (by kernel_rfl) ?_
          refine cw_skip ?_
          refine qw_then ?_
          refine cw_seq ?_
          refine cw_plain ?_
          refine pl_take (.pointer (some ⟨O1, 1, none⟩)) rfl (by kernel_rfl) (by kernel_rfl) (by kernel_rfl) (by kernel_rfl) ?_
          refine pl_take (.int .i64 (y4 : Int)) rfl (by kernel_rfl) (by kernel_rfl) (by kernel_rfl) (ex_load rfl (by kernel_rfl) (ld3 ((BoxAt.ext hX74 bO1_1).1))) ?_
          refine pl_step rfl (by kernel_rfl) (by kernel_rfl) (by kernel_rfl) (sn_call (f := 14) (args := #[.int .i64 (y4 : Int), .int .i64 24]) (by kernel_rfl) ((pickN_c _ 24 _ hy4 (by omega) (by omega)).mono ?_))
          rintro e w' ⟨rr, rfl, rrl, rrp, rfl⟩
          refine ⟨_, rfl, ?_⟩
          refine pl_take (.int .i64 (((rr : Nat) : Int) : Int)) rfl (by kernel_rfl) (by kernel_rfl) (by kernel_rfl) (by kernel_rfl) ?_
          refine pl_nil ?_
          refine qw_then ?_
          refine cw_seq ?_
          refine cw_join (fun ws' Y => ∃ cc : Nat, ws' = [(11, .pointer (some ⟨O14, 0, none⟩)), (12, .slice la22 t21 lc23), (16, .slice (some ⟨pb, po, none⟩) t21 pc57), (23, .int .i64 (((kk : Nat) : Int) : Int)), (24, .pointer (some ⟨O295, 0, none⟩))] ∧ Ext w Y ∧ Ext w27 Y ∧ Ext w64 Y ∧ Ext X72 Y ∧ Ext w76 Y ∧ Ext w278 Y ∧ BoxAt Y O295 0 (.slice (some ⟨g285, 0, none⟩) 24 cap286) ∧ cc < 48 ∧ RowsAt Y g285 ((P.set rr (((Globe.rowN P rr ^^^ 2 ^ cc : Nat) : Int) : Int))) ∧ X299.heap.size ≤ Y.heap.size) (fun hJ => ?_) ?_
          ·
            refine cw_draw [(some 129, [24], []), (some 130, [129], [0]), (some 131, [25], []), (some 132, [24], []), (some 133, [132], [3]), (some 134, [25], []), (some 135, [133, 134], [4, 5]), (some 136, [135], [6]), (some 137, [9], []), (some 138, [137], [8]), (some 139, [138], [9]), (some 140, [139], [10]), (some 141, [136, 140], [7, 11]), (some 142, [130, 131], [1, 2, 0, 1, 2, 3, 4, 5, 6, 7, 8, 9, 10, 11, 12]), (none, [142, 141], [13, 12, 10, 0, 1, 2, 3, 4, 5, 6, 7, 8, 9, 10, 11, 12])] (fun w' => w'.cell? ⟨O295, 0, none⟩ = some (.slice (some ⟨g285, 0, none⟩) 24 cap286) ∧ w'.cell? ⟨O1, 0, none⟩ = some (.int .i64 (x4 : Int))) (by kernel_rfl) (by kernel_rfl) (by kernel_rfl) (by kernel_rfl) ((calm_then calm_body)) (⟨bO295_0.1, (BoxAt.ext hX74 bO1_0).1⟩) (fun ops Q X301 hb hL hR hK => ?_)
            replace hE := hE.trans hb
            replace hX29 := hX29.trans hb
            replace hX66 := hX66.trans hb
            replace hX74 := hX74.trans hb
            replace hX78 := hX78.trans hb
            replace hX281 := hX281.trans hb
            replace hrow289 := hrow289.ext hb
            replace v294 := v294.ext hb
            replace bO295_0 := BoxAt.ext hb bO295_0
            have hs302 := hb.size
            clear hb
            refine wd_take 0 (.pointer (some ⟨O295, 0, none⟩)) hR rfl (by kernel_rfl) rfl (by kernel_rfl) (fun w _ => by kernel_rfl) (⟨bO295_0.1, (BoxAt.ext hX74 bO1_0).1⟩) ?_
            refine wd_take 1 (.slice (some ⟨g285, 0, none⟩) 24 cap286) hR rfl (by kernel_rfl) rfl (by kernel_rfl) (fun w hS => ex_load rfl (by kernel_rfl) (ld23 (hS.1))) (⟨bO295_0.1, (BoxAt.ext hX74 bO1_0).1⟩) ?_
            refine wd_take 2 (.int .i64 (((rr : Nat) : Int) : Int)) hR rfl (by kernel_rfl) rfl (by kernel_rfl) (fun w _ => by kernel_rfl) (⟨bO295_0.1, (BoxAt.ext hX74 bO1_0).1⟩) ?_
            refine wd_take 3 (.pointer (some ⟨O295, 0, none⟩)) hR rfl (by kernel_rfl) rfl (by kernel_rfl) (fun w _ => by kernel_rfl) (⟨bO295_0.1, (BoxAt.ext hX74 bO1_0).1⟩) ?_
            refine wd_take 4 (.slice (some ⟨g285, 0, none⟩) 24 cap286) hR rfl (by kernel_rfl) rfl (by kernel_rfl) (fun w hS => ex_load rfl (by kernel_rfl) (ld23 (hS.1))) (⟨bO295_0.1, (BoxAt.ext hX74 bO1_0).1⟩) ?_
            refine wd_take 5 (.int .i64 (((rr : Nat) : Int) : Int)) hR rfl (by kernel_rfl) rfl (by kernel_rfl) (fun w _ => by kernel_rfl) (⟨bO295_0.1, (BoxAt.ext hX74 bO1_0).1⟩) ?_
            refine wd_take 6 (.pointer (some ⟨g285, rr, none⟩)) hR rfl (by kernel_rfl) rfl (by kernel_rfl) (fun w _ => ex_index (p := .slice (some ⟨g285, 0, none⟩) 24 cap286) (i := .int .i64 ((rr : Nat) : Int)) rfl (by kernel_rfl) (by kernel_rfl) (ix23z (k := rr) (by omega))) (⟨bO295_0.1, (BoxAt.ext hX74 bO1_0).1⟩) ?_
            refine wd_take 8 (.pointer (some ⟨O1, 0, none⟩)) hR rfl (by kernel_rfl) rfl (by kernel_rfl) (fun w _ => by kernel_rfl) (⟨bO295_0.1, (BoxAt.ext hX74 bO1_0).1⟩) ?_
            refine wd_take 9 (.int .i64 (x4 : Int)) hR rfl (by kernel_rfl) rfl (by kernel_rfl) (fun w hS => ex_load rfl (by kernel_rfl) (ld3 (hS.2))) (⟨bO295_0.1, (BoxAt.ext hX74 bO1_0).1⟩) ?_
            refine wd_two 7 10 hR rfl rfl (by kernel_rfl) (by kernel_rfl) (by kernel_rfl) (by kernel_rfl) ?_ ?_
            ·
              refine sn_eff (v := .int .i64 (((Globe.rowN P rr : Nat) : Int) : Int)) (w' := X301) (ex_load rfl (by kernel_rfl) (ld3 (v294.cell0 (y := rr) (by omega)))) ⟨⟨bO295_0.1, (BoxAt.ext hX74 bO1_0).1⟩, ?_⟩
              refine wd_step 10 hR rfl (by kernel_rfl) (by kernel_rfl) (by kernel_rfl) (sn_call (f := 14) (args := #[.int .i64 (x4 : Int), .int .i64 48]) (by kernel_rfl) ((pickN_c _ 48 _ hx4 (by omega) (by omega)).mono ?_))
              rintro e w' ⟨cc, rfl, ccl, ccp, rfl⟩
              refine ⟨_, rfl, ⟨bO295_0.1, (BoxAt.ext hX74 bO1_0).1⟩, ?_⟩
              refine wd_take 11 (.int .i64 (((2 ^ cc : Nat) : Int) : Int)) hR rfl (by kernel_rfl) rfl (by kernel_rfl) (fun w _ => ex_bin rfl (by kernel_rfl) (by kernel_rfl) (bin_shl1 (by omega))) (⟨bO295_0.1, (BoxAt.ext hX74 bO1_0).1⟩) ?_
              refine wd_take 12 (.int .i64 (((Globe.rowN P rr ^^^ 2 ^ cc : Nat) : Int) : Int)) hR rfl (by kernel_rfl) rfl (by kernel_rfl) (fun w _ => ev_int (show _ = Result.ok (Next.value (Value.int .i64 (bits .xor .i64 ((Globe.rowN P rr : Nat) : Int) ((2 ^ cc : Nat) : Int)))) _ from by kernel_rfl) (xor_i64 _ _ (by have := Globe.rowN_lt hPv rr; omega) (by have : 2 ^ cc < 2 ^ 48 := Nat.pow_lt_pow_right (by decide) ccl; omega))) (⟨bO295_0.1, (BoxAt.ext hX74 bO1_0).1⟩) ?_
              refine wd_take 13 (.pointer (some ⟨g285, rr, none⟩)) hR rfl (by kernel_rfl) rfl (by kernel_rfl) (fun w _ => ex_index (p := .slice (some ⟨g285, 0, none⟩) 24 cap286) (i := .int .i64 ((rr : Nat) : Int)) rfl (by kernel_rfl) (by kernel_rfl) (ix23z (k := rr) (by omega))) (⟨bO295_0.1, (BoxAt.ext hX74 bO1_0).1⟩) ?_
              refine wd_step 14 hR rfl (by kernel_rfl) (by kernel_rfl) (by kernel_rfl) (sn_row (g := g285) (y := rr) (v := ((Globe.rowN P rr ^^^ 2 ^ cc : Nat) : Int)) (ex_store (p := .pointer (some ⟨g285, rr, none⟩)) (v := .int .i64 (((Globe.rowN P rr ^^^ 2 ^ cc : Nat) : Int) : Int)) rfl (by kernel_rfl) (by kernel_rfl) (st3 (hrow289.cell (by omega)) (hrow289.free (by omega)))) hrow289 (by omega) ?_)
              intro X303 ho hv0
              replace hE := ho.ext hE (Nat.le_trans (Nat.le_trans hs3 (Nat.le_trans hs6 (Nat.le_trans hs12 (Nat.le_trans hs16 (Nat.le_trans hs19 (Nat.le_trans hs28 (Nat.le_trans hs41 (Nat.le_trans hs46 (Nat.le_trans hs50 (Nat.le_trans hs53 (Nat.le_trans hs55 (Nat.le_trans hs65 (Nat.le_trans hs70 (Nat.le_trans hs73 (Nat.le_trans hs75 (Nat.le_trans hs273 (Nat.le_trans hs275 (Nat.le_trans hs277 hs279)))))))))))))))))) (Nat.le_trans (Nat.le_of_eq hzO282) hge290))
              replace hX29 := ho.ext hX29 (Nat.le_trans (Nat.le_trans hs41 (Nat.le_trans hs46 (Nat.le_trans hs50 (Nat.le_trans hs53 (Nat.le_trans hs55 (Nat.le_trans hs65 (Nat.le_trans hs70 (Nat.le_trans hs73 (Nat.le_trans hs75 (Nat.le_trans hs273 (Nat.le_trans hs275 (Nat.le_trans hs277 hs279)))))))))))) (Nat.le_trans (Nat.le_of_eq hzO282) hge290))
              replace hX66 := ho.ext hX66 (Nat.le_trans (Nat.le_trans hs70 (Nat.le_trans hs73 (Nat.le_trans hs75 (Nat.le_trans hs273 (Nat.le_trans hs275 (Nat.le_trans hs277 hs279)))))) (Nat.le_trans (Nat.le_of_eq hzO282) hge290))
              replace hX74 := ho.ext hX74 (Nat.le_trans (Nat.le_trans hs75 (Nat.le_trans hs273 (Nat.le_trans hs275 (Nat.le_trans hs277 hs279)))) (Nat.le_trans (Nat.le_of_eq hzO282) hge290))
              replace hX78 := ho.ext hX78 (Nat.le_trans (Nat.le_trans hs273 (Nat.le_trans hs275 (Nat.le_trans hs277 hs279))) (Nat.le_trans (Nat.le_of_eq hzO282) hge290))
              replace hX281 := ho.ext hX281 (Nat.le_trans (Nat.le_of_eq hzO282) hge290)
              replace bO295_0 := ho.box (Nat.ne_of_lt (Nat.lt_of_lt_of_le lt293 (Nat.le_of_eq hzO295))) bO295_0
              have hs304 : X301.heap.size ≤ X303.heap.size := Nat.le_of_eq ho.size.symm
              clear ho hrow289; have hrow289 := hv0; clear hv0
              refine ⟨⟨bO295_0.1, (BoxAt.ext hX74 bO1_0).1⟩, ?_⟩
              refine wd_end hL hR hK (by kernel_rfl) ?_
              exact qw_leaf hJ [11, 12, 16, 23, 24] (ws' := [(11, .pointer (some ⟨O14, 0, none⟩)), (12, .slice la22 t21 lc23), (16, .slice (some ⟨pb, po, none⟩) t21 pc57), (23, .int .i64 (((kk : Nat) : Int) : Int)), (24, .pointer (some ⟨O295, 0, none⟩))]) (by kernel_rfl) ⟨cc, rfl, hE, hX29, hX66, hX74, hX78, hX281, bO295_0, ccl, hrow289, (Nat.le_trans hs302 hs304)⟩
            ·
              refine sn_call (f := 14) (args := #[.int .i64 (x4 : Int), .int .i64 48]) (by kernel_rfl) ((pickN_c _ 48 _ hx4 (by omega) (by omega)).mono ?_)
              rintro e w' ⟨cc, rfl, ccl, ccp, rfl⟩
              refine ⟨_, rfl, ⟨bO295_0.1, (BoxAt.ext hX74 bO1_0).1⟩, ?_⟩
              refine wd_take 11 (.int .i64 (((2 ^ cc : Nat) : Int) : Int)) hR rfl (by kernel_rfl) rfl (by kernel_rfl) (fun w _ => ex_bin rfl (by kernel_rfl) (by kernel_rfl) (bin_shl1 (by omega))) (⟨bO295_0.1, (BoxAt.ext hX74 bO1_0).1⟩) ?_
              refine wd_step 7 hR rfl (by kernel_rfl) (by kernel_rfl) (by kernel_rfl) (sn_eff (v := .int .i64 (((Globe.rowN P rr : Nat) : Int) : Int)) (w' := X301) (ex_load rfl (by kernel_rfl) (ld3 (v294.cell0 (y := rr) (by omega)))) ⟨⟨bO295_0.1, (BoxAt.ext hX74 bO1_0).1⟩, ?_⟩)
              refine wd_take 12 (.int .i64 (((Globe.rowN P rr ^^^ 2 ^ cc : Nat) : Int) : Int)) hR rfl (by kernel_rfl) rfl (by kernel_rfl) (fun w _ => ev_int (show _ = Result.ok (Next.value (Value.int .i64 (bits .xor .i64 ((Globe.rowN P rr : Nat) : Int) ((2 ^ cc : Nat) : Int)))) _ from by kernel_rfl) (xor_i64 _ _ (by have := Globe.rowN_lt hPv rr; omega) (by have : 2 ^ cc < 2 ^ 48 := Nat.pow_lt_pow_right (by decide) ccl; omega))) (⟨bO295_0.1, (BoxAt.ext hX74 bO1_0).1⟩) ?_
              refine wd_take 13 (.pointer (some ⟨g285, rr, none⟩)) hR rfl (by kernel_rfl) rfl (by kernel_rfl) (fun w _ => ex_index (p := .slice (some ⟨g285, 0, none⟩) 24 cap286) (i := .int .i64 ((rr : Nat) : Int)) rfl (by kernel_rfl) (by kernel_rfl) (ix23z (k := rr) (by omega))) (⟨bO295_0.1, (BoxAt.ext hX74 bO1_0).1⟩) ?_
              refine wd_step 14 hR rfl (by kernel_rfl) (by kernel_rfl) (by kernel_rfl) (sn_row (g := g285) (y := rr) (v := ((Globe.rowN P rr ^^^ 2 ^ cc : Nat) : Int)) (ex_store (p := .pointer (some ⟨g285, rr, none⟩)) (v := .int .i64 (((Globe.rowN P rr ^^^ 2 ^ cc : Nat) : Int) : Int)) rfl (by kernel_rfl) (by kernel_rfl) (st3 (hrow289.cell (by omega)) (hrow289.free (by omega)))) hrow289 (by omega) ?_)
              intro X305 ho hv0
              replace hE := ho.ext hE (Nat.le_trans (Nat.le_trans hs3 (Nat.le_trans hs6 (Nat.le_trans hs12 (Nat.le_trans hs16 (Nat.le_trans hs19 (Nat.le_trans hs28 (Nat.le_trans hs41 (Nat.le_trans hs46 (Nat.le_trans hs50 (Nat.le_trans hs53 (Nat.le_trans hs55 (Nat.le_trans hs65 (Nat.le_trans hs70 (Nat.le_trans hs73 (Nat.le_trans hs75 (Nat.le_trans hs273 (Nat.le_trans hs275 (Nat.le_trans hs277 hs279)))))))))))))))))) (Nat.le_trans (Nat.le_of_eq hzO282) hge290))
              replace hX29 := ho.ext hX29 (Nat.le_trans (Nat.le_trans hs41 (Nat.le_trans hs46 (Nat.le_trans hs50 (Nat.le_trans hs53 (Nat.le_trans hs55 (Nat.le_trans hs65 (Nat.le_trans hs70 (Nat.le_trans hs73 (Nat.le_trans hs75 (Nat.le_trans hs273 (Nat.le_trans hs275 (Nat.le_trans hs277 hs279)))))))))))) (Nat.le_trans (Nat.le_of_eq hzO282) hge290))
              replace hX66 := ho.ext hX66 (Nat.le_trans (Nat.le_trans hs70 (Nat.le_trans hs73 (Nat.le_trans hs75 (Nat.le_trans hs273 (Nat.le_trans hs275 (Nat.le_trans hs277 hs279)))))) (Nat.le_trans (Nat.le_of_eq hzO282) hge290))
              replace hX74 := ho.ext hX74 (Nat.le_trans (Nat.le_trans hs75 (Nat.le_trans hs273 (Nat.le_trans hs275 (Nat.le_trans hs277 hs279)))) (Nat.le_trans (Nat.le_of_eq hzO282) hge290))
              replace hX78 := ho.ext hX78 (Nat.le_trans (Nat.le_trans hs273 (Nat.le_trans hs275 (Nat.le_trans hs277 hs279))) (Nat.le_trans (Nat.le_of_eq hzO282) hge290))
              replace hX281 := ho.ext hX281 (Nat.le_trans (Nat.le_of_eq hzO282) hge290)
              replace bO295_0 := ho.box (Nat.ne_of_lt (Nat.lt_of_lt_of_le lt293 (Nat.le_of_eq hzO295))) bO295_0
              have hs306 : X301.heap.size ≤ X305.heap.size := Nat.le_of_eq ho.size.symm
              clear ho hrow289; have hrow289 := hv0; clear hv0
              refine ⟨⟨bO295_0.1, (BoxAt.ext hX74 bO1_0).1⟩, ?_⟩
              refine wd_end hL hR hK (by kernel_rfl) ?_
              exact qw_leaf hJ [11, 12, 16, 23, 24] (ws' := [(11, .pointer (some ⟨O14, 0, none⟩)), (12, .slice la22 t21 lc23), (16, .slice (some ⟨pb, po, none⟩) t21 pc57), (23, .int .i64 (((kk : Nat) : Int) : Int)), (24, .pointer (some ⟨O295, 0, none⟩))]) (by kernel_rfl) ⟨cc, rfl, hE, hX29, hX66, hX74, hX78, hX281, bO295_0, ccl, hrow289, (Nat.le_trans hs302 hs306)⟩
          ·
            clear hrow289 v294 bO295_0 hE hX29 hX66 hX74 hX78 hX281
            rintro L ws Y307 ⟨cc, rfl, hE, hX29, hX66, hX74, hX78, hX281, bO295_0, ccl, hrow289, hn308⟩
            refine qw_then ?_
            refine cw_seq ?_
            have vT : VA Y307 g285 0 (Globe.togL P rr cc) := hrow289.va (Globe.tog_valid hPv ccl)
            have hX309 : Ext Y307 Y307 := Ext.refl _
            refine cw_plain ?_
            refine pl_step rfl (by kernel_rfl) (by kernel_rfl) (by kernel_rfl) (sn_newS0 (t := 25) (by kernel_rfl) ?_)
            intro O310 X311 hO hOs hb hpO310
            have hzO310 := hO; have hyO310 : O310 < X311.heap.size := (by omega); clear hO hOs
            replace hE := hE.trans hb
            replace hX29 := hX29.trans hb
            replace hX66 := hX66.trans hb
            replace hX74 := hX74.trans hb
            replace hX78 := hX78.trans hb
            replace hX281 := hX281.trans hb
            replace hX309 := hX309.trans hb
            have hs312 := hb.size
            clear hb
            refine pl_take (.slice (some ⟨pb, po, none⟩) t21 pc57) rfl (by kernel_rfl) (by kernel_rfl) (by kernel_rfl) (by kernel_rfl) ?_
            obtain ⟨g313, cap314, w315, hrun316, own320, hgr319⟩ := app_areas (ty := 34) (c := pc57) (n₀ := Y307.heap.size) hpO310 (Nat.le_of_eq hzO310) (hP62.ext hX66) (by omega) (by omega) (Globe.pieces_valid _ v9.2)
            refine pl_step rfl (by kernel_rfl) (by kernel_rfl) (by kernel_rfl) (sn_eff (v := .slice (some ⟨g313, 0, none⟩) t21 cap314) (w' := w315) (ex_append rfl (by kernel_rfl) (by kernel_rfl) hrun316) ?_)
            replace hE := hgr319.ext _ hE (Nat.le_trans hs3 (Nat.le_trans hs6 (Nat.le_trans hs12 (Nat.le_trans hs16 (Nat.le_trans hs19 (Nat.le_trans hs28 (Nat.le_trans hs41 (Nat.le_trans hs46 (Nat.le_trans hs50 (Nat.le_trans hs53 (Nat.le_trans hs55 (Nat.le_trans hs65 (Nat.le_trans hs70 (Nat.le_trans hs73 (Nat.le_trans hs75 (Nat.le_trans hs273 (Nat.le_trans hs275 (Nat.le_trans hs277 (Nat.le_trans hs279 (Nat.le_trans hs284 (Nat.le_trans hs292 (Nat.le_trans hs297 (Nat.le_trans hs300 hn308)))))))))))))))))))))))
            replace hX29 := hgr319.ext _ hX29 (Nat.le_trans hs41 (Nat.le_trans hs46 (Nat.le_trans hs50 (Nat.le_trans hs53 (Nat.le_trans hs55 (Nat.le_trans hs65 (Nat.le_trans hs70 (Nat.le_trans hs73 (Nat.le_trans hs75 (Nat.le_trans hs273 (Nat.le_trans hs275 (Nat.le_trans hs277 (Nat.le_trans hs279 (Nat.le_trans hs284 (Nat.le_trans hs292 (Nat.le_trans hs297 (Nat.le_trans hs300 hn308)))))))))))))))))
            replace hX66 := hgr319.ext _ hX66 (Nat.le_trans hs70 (Nat.le_trans hs73 (Nat.le_trans hs75 (Nat.le_trans hs273 (Nat.le_trans hs275 (Nat.le_trans hs277 (Nat.le_trans hs279 (Nat.le_trans hs284 (Nat.le_trans hs292 (Nat.le_trans hs297 (Nat.le_trans hs300 hn308)))))))))))
            replace hX74 := hgr319.ext _ hX74 (Nat.le_trans hs75 (Nat.le_trans hs273 (Nat.le_trans hs275 (Nat.le_trans hs277 (Nat.le_trans hs279 (Nat.le_trans hs284 (Nat.le_trans hs292 (Nat.le_trans hs297 (Nat.le_trans hs300 hn308)))))))))
            replace hX78 := hgr319.ext _ hX78 (Nat.le_trans hs273 (Nat.le_trans hs275 (Nat.le_trans hs277 (Nat.le_trans hs279 (Nat.le_trans hs284 (Nat.le_trans hs292 (Nat.le_trans hs297 (Nat.le_trans hs300 hn308))))))))
            replace hX281 := hgr319.ext _ hX281 (Nat.le_trans hs284 (Nat.le_trans hs292 (Nat.le_trans hs297 (Nat.le_trans hs300 hn308))))
            replace hX309 := hgr319.ext _ hX309 (Nat.le_refl _)
            have hs321 := hgr319.size
            have hn322 := own320.base g313 rfl; have lt323 := own320.lt g313 rfl
            refine pl_take (.slice (some ⟨g313, 0, none⟩) t21 cap314) rfl (by kernel_rfl) (by kernel_rfl) (by kernel_rfl) (by kernel_rfl) ?_
            refine pl_nil ?_
            refine qw_then ?_
            refine cw_seq ?_
            refine cw_plain ?_
            refine pl_take (.slice (some ⟨g313, 0, none⟩) t21 cap314) rfl (by kernel_rfl) (by kernel_rfl) (by kernel_rfl) (by kernel_rfl) ?_
            refine pl_take (.int .i64 (((kk : Nat) : Int) : Int)) rfl (by kernel_rfl) (by kernel_rfl) (by kernel_rfl) (by kernel_rfl) ?_
            refine pl_take (.agg #[.slice (some ⟨g285, 0, none⟩) 24 cap286]) rfl (by kernel_rfl) (by kernel_rfl) (by kernel_rfl) (ex_load rfl (by kernel_rfl) (ld25 ((BoxAt.ext hX309 bO295_0).1))) ?_
            refine pl_take (.pointer (some ⟨g313, kk, none⟩)) rfl (by kernel_rfl) (by kernel_rfl) (by kernel_rfl) (ex_index (p := .slice (some ⟨g313, 0, none⟩) t21 cap314) (i := .int .i64 ((kk : Nat) : Int)) rfl (by kernel_rfl) (by kernel_rfl) (ix34z (k := kk) (by omega))) ?_
            obtain ⟨⟨u8, hu8⟩, hf8, pC⟩ := areas_set (c := cap286) own320 hP62.1 (by omega) (k := kk) (by omega) (hL := (vT.ext hX309)) ((Nat.ne_of_lt (Nat.lt_of_lt_of_le lt293 (Nat.le_trans (Nat.le_trans hs297 (Nat.le_trans hs300 hn308)) hn322))))
            refine pl_put rfl (by kernel_rfl) (by kernel_rfl) (sn_skp (w' := w315.setCell ⟨g313, kk, none⟩ (.slice (some ⟨g285, 0, none⟩) 24 cap286)) (ex_store (p := .pointer (some ⟨g313, kk, none⟩)) (v := .agg #[.slice (some ⟨g285, 0, none⟩) 24 cap286]) rfl (by kernel_rfl) (by kernel_rfl) (st25 hu8 hf8)) ?_)
            have ho := turns_set w315 g313 kk (.slice (some ⟨g285, 0, none⟩) 24 cap286)
            obtain ⟨X324, hX8⟩ : ∃ X, X = w315.setCell ⟨g313, kk, none⟩ (.slice (some ⟨g285, 0, none⟩) 24 cap286) := ⟨_, rfl⟩
            rw [← hX8] at ho pC ⊢; clear hX8
            replace hE := ho.ext hE (Nat.le_trans (Nat.le_trans hs3 (Nat.le_trans hs6 (Nat.le_trans hs12 (Nat.le_trans hs16 (Nat.le_trans hs19 (Nat.le_trans hs28 (Nat.le_trans hs41 (Nat.le_trans hs46 (Nat.le_trans hs50 (Nat.le_trans hs53 (Nat.le_trans hs55 (Nat.le_trans hs65 (Nat.le_trans hs70 (Nat.le_trans hs73 (Nat.le_trans hs75 (Nat.le_trans hs273 (Nat.le_trans hs275 (Nat.le_trans hs277 (Nat.le_trans hs279 (Nat.le_trans hs284 (Nat.le_trans hs292 (Nat.le_trans hs297 (Nat.le_trans hs300 hn308))))))))))))))))))))))) hn322)
            replace hX29 := ho.ext hX29 (Nat.le_trans (Nat.le_trans hs41 (Nat.le_trans hs46 (Nat.le_trans hs50 (Nat.le_trans hs53 (Nat.le_trans hs55 (Nat.le_trans hs65 (Nat.le_trans hs70 (Nat.le_trans hs73 (Nat.le_trans hs75 (Nat.le_trans hs273 (Nat.le_trans hs275 (Nat.le_trans hs277 (Nat.le_trans hs279 (Nat.le_trans hs284 (Nat.le_trans hs292 (Nat.le_trans hs297 (Nat.le_trans hs300 hn308))))))))))))))))) hn322)
            replace hX66 := ho.ext hX66 (Nat.le_trans (Nat.le_trans hs70 (Nat.le_trans hs73 (Nat.le_trans hs75 (Nat.le_trans hs273 (Nat.le_trans hs275 (Nat.le_trans hs277 (Nat.le_trans hs279 (Nat.le_trans hs284 (Nat.le_trans hs292 (Nat.le_trans hs297 (Nat.le_trans hs300 hn308))))))))))) hn322)
            replace hX74 := ho.ext hX74 (Nat.le_trans (Nat.le_trans hs75 (Nat.le_trans hs273 (Nat.le_trans hs275 (Nat.le_trans hs277 (Nat.le_trans hs279 (Nat.le_trans hs284 (Nat.le_trans hs292 (Nat.le_trans hs297 (Nat.le_trans hs300 hn308))))))))) hn322)
            replace hX78 := ho.ext hX78 (Nat.le_trans (Nat.le_trans hs273 (Nat.le_trans hs275 (Nat.le_trans hs277 (Nat.le_trans hs279 (Nat.le_trans hs284 (Nat.le_trans hs292 (Nat.le_trans hs297 (Nat.le_trans hs300 hn308)))))))) hn322)
            replace hX281 := ho.ext hX281 (Nat.le_trans (Nat.le_trans hs284 (Nat.le_trans hs292 (Nat.le_trans hs297 (Nat.le_trans hs300 hn308)))) hn322)
            replace hX309 := ho.ext hX309 hn322
            have hs325 : w315.heap.size ≤ X324.heap.size := Nat.le_of_eq ho.size.symm
            have hX326 : Ext X324 X324 := Ext.refl _
            refine pl_nil ?_
            refine qw_then ?_
            refine cw_seq ?_
            refine cw_plain ?_
            refine pl_take (.agg #[.slice (some ⟨B7, 0, none⟩) 24 k8]) rfl (by kernel_rfl) (by kernel_rfl) (by kernel_rfl) (ex_load rfl (by kernel_rfl) (ld25 ((BoxAt.ext hX74 bO14_0).1))) ?_
            refine pl_take (.slice la22 t21 lc23) rfl (by kernel_rfl) (by kernel_rfl) (by kernel_rfl) (by kernel_rfl) ?_
            refine pl_take (.slice (some ⟨g313, 0, none⟩) t21 cap314) rfl (by kernel_rfl) (by kernel_rfl) (by kernel_rfl) (by kernel_rfl) ?_
            refine pl_step rfl (by kernel_rfl) (by kernel_rfl) (by kernel_rfl) (sn_call (f := 23) (args := #[.agg #[.slice (some ⟨B7, 0, none⟩) 24 k8], .slice la22 t21 lc23, .slice (some ⟨g313, 0, none⟩) t21 cap314]) (by kernel_rfl) ((Check_r (r := false) _ _ _ _ (v9.ext hX74).aa (Ext.refl _) sS24 hX29 pC (Ext.refl _) (hT.ext hE) (check_b (Globe.check_turned _ v9.2 (sures_ok hok25) hp rrl ccl) v9.2 hok25 (by rw [List.length_set, Globe.pieces_len, List.length_map]))).mono ?_))
            rintro e w327 ⟨rfl, hb⟩
            replace hE := hE.trans hb
            replace hX29 := hX29.trans hb
            replace hX66 := hX66.trans hb
            replace hX74 := hX74.trans hb
            replace hX78 := hX78.trans hb
            replace hX281 := hX281.trans hb
            replace hX309 := hX309.trans hb
            replace hX326 := hX326.trans hb
            have hs328 := hb.size
            clear hb
            refine ⟨_, rfl, ?_⟩
            refine pl_take (.bool true) rfl (by kernel_rfl) (by kernel_rfl) (by kernel_rfl) (by kernel_rfl) ?_
            refine pl_take (.bool true) rfl (by kernel_rfl) (by kernel_rfl) (by kernel_rfl) (by kernel_rfl) ?_
            refine pl_skip rfl (by kernel_rfl) (by kernel_rfl) (by kernel_rfl) ?_
            refine pl_skip rfl (by kernel_rfl) (by kernel_rfl) (by kernel_rfl) ?_
            refine pl_skip rfl (by kernel_rfl) (by kernel_rfl) (by kernel_rfl) ?_
            refine pl_skip rfl (by kernel_rfl) (by kernel_rfl) (by kernel_rfl) ?_
            refine pl_skip rfl (by kernel_rfl) (by kernel_rfl) (by kernel_rfl) ?_
            refine pl_take (.bool true) rfl (by kernel_rfl) (by kernel_rfl) (by kernel_rfl) (by kernel_rfl) ?_
            refine pl_take (.bool true) rfl (by kernel_rfl) (by kernel_rfl) (by kernel_rfl) (by kernel_rfl) ?_
            refine pl_nil ?_
            refine qw_then ?_
            refine cw_clean [10] (ws' := [(10, .bool true)]) (by kernel_rfl) (fun L => ?_)
            refine cw_ret ?_
            refine qw_ret [.bool true] rfl ⟨(by kernel_rfl), trivial⟩ ?_
            exact ⟨rfl, hE⟩

end Go.Proofs.YtglfoglkdbbmmaaDoor

/- The statement CoverChecked: for every input the law returns true, and every argument reads as it read before; the two tables of package math/bits that the row lists are tied to the program's text. -/
namespace Go.Proofs.YtglfoglkdbbmmaaDoor
open Go.ChangeShapes Go.WideShapes Go.ChangeAt Go.RowKit

set_option maxRecDepth 100000 in
theorem CoverChecked_lifted (os : Os) (started : os.Started) (H : Type) (enc : TypeId × Value → H) :
    ReturnsInHanded {} Tryd.checked os 4 .any (fun w args => (Rows.coverCheckedSpec.pre enc Tryd.prog Tryd.f4 [] false w args ∧ laidMetH Tryd.prog laidTabs w) ∧ sizedMet enc Tryd.prog Tryd.f4 (OpenSpec.ofChange Rows.coverCheckedSpec) false w args)
      (Rows.coverCheckedSpec.post enc Tryd.prog Tryd.f4 false true false false) := by
  refine returnsInHanded_of_change_and (C := Tryd.checked) (X := fun w _ => laidMetH Tryd.prog laidTabs w) (fun _ _ _ hh h => h.of_heap hh) own started (by kernel_rfl) Tryd.func4
    (ChangeSpec.witness_shaped (enc := enc) (C := Tryd.checked) (os := os) (X := fun w _ => laidMetH Tryd.prog laidTabs w) false (World.doorLaid Tryd.prog 19 os) #[.slice none 0 0, .slice none 0 0, .slice none 0 0, .int .i64 0, .agg #[.int .i64 0, .int .i64 0]] 8 rfl (World.shaped_of_RefB (by kernel_rfl) (by kernel_rfl)) (by kernel_rfl) (by kernel_rfl) (by kernel_rfl) (door_met os _)) ?_
  intro W base args ds gs before hval0 hW _ hsz hL _
  have hval : ∀ (j : Nat) t v, Tryd.f4.params[j]? = some t → args[j]? = some v → Value.okWide Tryd.prog W .any base t v := hval0
  have hW' := hW
  obtain ⟨p, q, hA0, hV, rfl, hfz, hnd⟩ := hW
  have hA : DataW.TrodAll enc Tryd.prog W 0 (fun _ => true) true Tryd.f4.params.toList args.toList ds p := hA0
  rw [Tryd.params4] at hA hval
  obtain ⟨v0, vs0, d0, ds0, p0, q0, hargs, rfl, rfl, h0, r0⟩ := trodAll_cons hA
  obtain ⟨v1, vs1, d1, ds1, p1, q1, rfl, rfl, rfl, h1, r1⟩ := trodAll_cons r0
  obtain ⟨v2, vs2, d2, ds2, p2, q2, rfl, rfl, rfl, h2, r2⟩ := trodAll_cons r1
  obtain ⟨v3, vs3, d3, ds3, p3, q3, rfl, rfl, rfl, h3, r3⟩ := trodAll_cons r2
  obtain ⟨v4, vs4, d4, ds4, p4, q4, rfl, rfl, rfl, h4, r4⟩ := trodAll_cons r3
  obtain ⟨rfl, rfl, rfl⟩ := trodAll_nil r4
  obtain rfl : args = #[v0, v1, v2, v3, v4] := by cases args; simp_all
  obtain ⟨rfl, rfl⟩ := trodVars_none hV
  have k0 := h0
  have lt0 : ∀ x ∈ p0, x.block < W.heap.size := by obtain ⟨m, hm⟩ := k0; exact DataW.trod_lt m _ _ _ hm
  have op0 := open_quads (hval 0 _ v0 rfl rfl) h0
  have k1 := h1
  have lt1 : ∀ x ∈ p1, x.block < W.heap.size := by obtain ⟨m, hm⟩ := k1; exact DataW.trod_lt m _ _ _ hm
  have op1 := open_quads (hval 1 _ v1 rfl rfl) h1
  have k2 := h2
  have lt2 : ∀ x ∈ p2, x.block < W.heap.size := by obtain ⟨m, hm⟩ := k2; exact DataW.trod_lt m _ _ _ hm
  have op2 := open_quads (hval 2 _ v2 rfl rfl) h2
  obtain ⟨a3, rfl, rfl, rfl, w3⟩ := open_int Tryd.underlying3 (hval 3 3 v3 rfl rfl) h3
  have k4 := h4
  have lt4 : ∀ x ∈ p4, x.block < W.heap.size := by obtain ⟨m, hm⟩ := k4; exact DataW.trod_lt m _ _ _ hm
  have op4 := open_pair (hval 4 _ v4 rfl rfl) h4
  clear hA0 hval0
  refine (CoverChecked_walk W v0 op0 v1 op1 v2 op2 a3 (isI_of_wf w3) v4 op4 (tab_of_laid hL)).mono fun e W' ⟨he, hE⟩ => ?_
  subst he
  have bel : Below W.heap.size W W' := hE
  exact ⟨_, rfl, _, _, _, [], _, [], hW', trodAll_mk1 (shut_bool Tryd.underlying4 _), (trodAll_cons_mk (Below.trod laidOut (by kernel_rfl) (of_decide_eq_true (by kernel_rfl)) k0 bel lt0) (trodAll_cons_mk (Below.trod laidOut (by kernel_rfl) (of_decide_eq_true (by kernel_rfl)) k1 bel lt1) (trodAll_cons_mk (Below.trod laidOut (by kernel_rfl) (of_decide_eq_true (by kernel_rfl)) k2 bel lt2) (trodAll_cons_mk (shut_int Tryd.underlying3 w3) (trodAll_cons_mk (Below.trod laidOut (by kernel_rfl) (of_decide_eq_true (by kernel_rfl)) k4 bel lt4) trodAll_mk0))))), rfl, bel.frame _, fun h => by cases h⟩

theorem CoverChecked_over : Rows.CoverCheckedSaid :=
  OpenClaim.holds_of_wide 4 Tryd.f4 rfl rfl rfl rfl rfl rfl rfl ⟨rfl, rfl, rfl, rfl, rfl⟩ rfl rfl rfl rfl rfl (by kernel_rfl) Tryd.func4 (by kernel_rfl)
    (of_decide_eq_true (by kernel_rfl)) (by unfold Func.isWrapper; first | (rw [if_pos (by decide +kernel)]; kernel_rfl) | (rw [if_neg (by decide +kernel)]; exact ⟨rfl, rfl⟩))
    (fun os started H enc _ => CoverChecked_lifted os started H enc)

/-- The tied card. -/
theorem CoverChecked_holds : Rows.CoverCheckedCardSaid :=
  Claim7.holds_tied_plain_at .later [] [.data, .data] true (true, "f3c7cfc24bd30fe2366dd98a5567a6f2f4e716248d39bc96b650dc6c6e3eb102") false
    CoverChecked_over (fun _ h => by cases h) (by kernel_rfl) (fun _ h => by cases h) coverChecked_row_tie rfl ⟨rfl, rfl⟩ (by kernel_rfl) rfl
    (fun f fn hf hfn => by
      obtain rfl : f = 4 := Option.some.inj ((show Tryd.prog.funcNamed "nadir/nadirlaw16.CoverChecked" = some 4 by kernel_rfl).symm.trans hf) |>.symm
      obtain rfl : fn = Tryd.f4 := (Option.some.inj (Tryd.func4.symm.trans hfn)).symm
      exact ⟨by kernel_rfl, fun j t ht => by
        rw [Tryd.params4] at ht
        have hm : t ∈ [22, 22, 22, 3, 50] := by simpa using Array.mem_of_getElem? ht
        have hall : ([22, 22, 22, 3, 50].all fun u => !Tryd.prog.wantsStandIn u) = true := by kernel_rfl
        exact (show Tryd.prog.wantsStandIn t = false by simpa using List.all_eq_true.1 hall t hm)⟩)
    (by kernel_rfl)
#print axioms CoverChecked_holds
end Go.Proofs.YtglfoglkdbbmmaaDoor
