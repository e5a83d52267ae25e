/- The statement CoverAround: for every input that the row lists, the law returns true, and every argument reads as it read before. -/
import Derived.Test.YtglfoglkdbbmmaaDoorV3CoverAround
/- The walk of the law CoverAround. -/
namespace Go.Proofs.YtglfoglkdbbmmaaDoor
open Go.RowKit Go.Shelf

namespace Globe
def shS (m : Nat) (s : List Int × List Int) : List Int × List Int := (shiftL s.1 m, shiftL s.2 m)
theorem rot_lt (x m : Nat) : (x + 48 - m) % 48 < 48 := Nat.mod_lt _ (by omega)
theorem shift_less {a b : List Int} (ha : validL a = true) (hb : validL b = true) {m : Nat} (hm : m < 48) : shiftL (lessL a b) m = lessL (shiftL a m) (shiftL b m) :=
  ext_has (shift_valid _ _) (less_valid (shift_valid _ _)) fun x y hx hy => by
    rw [has_shift (less_valid ha) hm hx hy, has_less hy, has_less hy, has_shift ha hm hx hy, has_shift hb hm hx hy]
theorem left_shift {m : Nat} (hm : m < 48) : ∀ (l : List (List Int)) {a : List Int}, validL a = true → (∀ b ∈ l, validL b = true) → leftL (shiftL a m) (l.map fun b => shiftL b m) = shiftL (leftL a l) m
  | [], _, _, _ => rfl
  | b :: r, a, ha, hl => by
    show leftL (lessL (shiftL a m) (shiftL b m)) (r.map fun b => shiftL b m) = _
    rw [← shift_less ha (hl b (by simp)) hm]
    exact left_shift hm r (less_valid ha) (fun c hc => hl c (by simp [hc]))
theorem contains_shift {a b : List Int} (h : containsB a b = true) {m : Nat} (hm : m < 48) : containsB (shiftL a m) (shiftL b m) = true := by
  obtain ⟨va, vb⟩ := contains_v h
  exact contains_of (shift_valid _ _) (shift_valid _ _) fun x y hx hy hh => by
    rw [has_shift vb hm hx hy] at hh; rw [has_shift va hm hx hy]; exact contains_has h (rot_lt _ _) hy hh
theorem strips_shift_ok {ss : List (List Int × List Int)} (h : stripsOk ss = true) {m : Nat} (hm : m < 48) : stripsOk (ss.map (shS m)) = true := by
  obtain ⟨h1, h2⟩ := stripsOk_t.1 h
  refine stripsOk_t.2 ⟨by simpa using h1, fun s hs => ?_⟩
  obtain ⟨u, hu, rfl⟩ := List.mem_map.1 hs
  obtain ⟨_, _, h3⟩ := stripOk_v (h2 u hu)
  unfold stripOk shS
  rw [shift_valid, contains_shift h3 hm]; rfl
theorem has_nil (x y : Nat) : hasL [] x y = false := by simp [hasL, nth]
theorem sure_shift {m : Nat} (hm : m < 48) {ss : List (List Int)} (hv : ∀ s ∈ ss, validL s = true) (i : Nat) {x y : Nat} (hx : x < 48) (hy : y < 24) : hasL (sureAt (ss.map fun b => shiftL b m) i) x y = hasL (sureAt ss i) ((x + 48 - m) % 48) y := by
  unfold sureAt
  rw [List.getElem?_map]
  cases h : ss[i]? with
  | none => simp [has_nil]
  | some s => simp only [Option.map_some, Option.getD_some]; exact has_shift (hv s (List.mem_of_getElem? h)) hm hx hy
theorem enough_shift {m : Nat} (hm : m < 48) {a : List Int} (ha : validL a = true) {ss : List (List Int)} (hv : ∀ s ∈ ss, validL s = true) : enough (shiftL a m) (ss.map fun b => shiftL b m) = enough a ss := by
  funext l
  rw [Bool.eq_iff_iff, enough_iff (shift_valid _ _), enough_iff ha]
  constructor
  · intro h x y hx hy hh
    have e : ((x + m) % 48 + 48 - m) % 48 = x := by omega
    have hx' : (x + m) % 48 < 48 := Nat.mod_lt _ (by omega)
    obtain ⟨i, hi, h2⟩ := h ((x + m) % 48) y hx' hy (by rw [has_shift ha hm hx' hy, e]; exact hh)
    rw [sure_shift hm hv i hx' hy, e] at h2
    exact ⟨i, hi, h2⟩
  · intro h x y hx hy hh
    rw [has_shift ha hm hx hy] at hh
    obtain ⟨i, hi, h2⟩ := h _ y (rot_lt _ _) hy hh
    exact ⟨i, hi, by rw [sure_shift hm hv i hx hy]; exact h2⟩
end Globe

theorem few_len {p : List Nat → Bool} {n : Nat} {r : Option (List Nat)} (h : Globe.fewestL p n = r) : (r.getD []).length ≤ n := by
  cases r with
  | none => simp
  | some l => exact (Globe.fewest_some h).2.2.1
set_option maxRecDepth 1000000 in
set_option maxHeartbeats 4000000 in
theorem CoverAround_walk (w : World) (v0 : Value) (o0 : Quads w v0) (v1 : Value) (o1 : Quads w v1) (i2 : Int) (hi2 : IsI i2) (hT : Tab w) :
    Calls Tryd.prog 9 #[v0, v1, .int .i64 i2] w fun e w' => e = .returned (.bool true) ∧ Ext w w' := by
  obtain ⟨a0, n0, c0, q0, rfl, hnc0, hcm0, hz0, Q0⟩ := o0
  obtain ⟨a1, n1, c1, q1, rfl, hnc1, hcm1, hz1, Q1⟩ := o1
  refine calls_cw 168 [(2, .int .i64 (i2 : Int)), (1, .slice a1 n1 c1), (0, .slice a0 n0 c0)] Tryd.func9 rfl Tryd.ntmps9 (by kernel_rfl) (by kernel_rfl) (fun L => ?_)
  have hE : Ext w w := Ext.refl w
  refine cw_seq ?_
  refine cw_plain ?_
  refine pl_take (.bool false) rfl (by kernel_rfl) (by kernel_rfl) (by kernel_rfl) (by kernel_rfl) ?_
  refine pl_nil ?_
  refine qw_then ?_
  refine cw_seq ?_
  refine cw_seq ?_
  refine cw_plain ?_
  refine pl_step rfl (by kernel_rfl) (by kernel_rfl) (by kernel_rfl) (sn_call (f := 10) (args := #[]) (by kernel_rfl) ((sane_c _ (hT.ext hE)).mono ?_))
  rintro e w1 ⟨rfl, hb⟩
  replace hE := hE.trans hb
  have hs2 := hb.size
  clear hb
  refine ⟨_, rfl, ?_⟩
  refine pl_take (.bool false) rfl (by kernel_rfl) (by kernel_rfl) (by kernel_rfl) (by kernel_rfl) ?_
  refine pl_nil ?_
  refine qw_then ?_
  refine cw_f (by kernel_rfl) ?_
  refine cw_skip ?_
  refine qw_then ?_
  refine cw_seq ?_
  refine cw_plain ?_
  refine pl_take (.slice a0 n0 c0) rfl (by kernel_rfl) (by kernel_rfl) (by kernel_rfl) (by kernel_rfl) ?_
  refine pl_step rfl (by kernel_rfl) (by kernel_rfl) (by kernel_rfl) (sn_call (f := 11) (args := #[.slice a0 n0 c0]) (by kernel_rfl) ((Area_c _ _ Q0 hE (by omega)).mono ?_))
  rintro e w7 ⟨B3, k4, rfl, hn6, v5, hb⟩
  replace hE := hE.trans hb
  have hs8 := hb.size
  clear hb
  have lt9 := v5.lt
  refine ⟨_, rfl, ?_⟩
  refine pl_step rfl (by kernel_rfl) (by kernel_rfl) (by kernel_rfl) (sn_new (us := #[.slice none 0 0]) (t := 25) (by kernel_rfl) ?_)
  intro O10 X11 hO hOs hb hbx
  have hzO10 := hO; have hyO10 := hOs; clear hO hOs
  have bO10_0 : BoxAt X11 O10 0 (.slice none 0 0) := hbx 0 _ rfl
  clear hbx
  replace hE := hE.trans hb
  replace v5 := v5.ext hb
  have hs12 := hb.size
  clear hb
  have lt13 := bO10_0.lt
  refine pl_put rfl (by kernel_rfl) (by kernel_rfl) (sn_set (O := O10) (j := 0) (v := .slice (some ⟨B3, 0, none⟩) 24 k4) (ex_store (p := .pointer (some ⟨O10, 0, none⟩)) (v := .agg #[.slice (some ⟨B3, 0, none⟩) 24 k4]) rfl (by kernel_rfl) (by kernel_rfl) (st25 bO10_0.1 bO10_0.2)) bO10_0 ?_)
  intro X14 ho hv0 hk
  replace hE := ho.ext hE (Nat.le_trans (Nat.le_trans hs2 hs8) (Nat.le_of_eq hzO10))
  replace v5 := ho.va (Nat.ne_of_gt (Nat.lt_of_lt_of_le lt9 (Nat.le_of_eq hzO10))) v5
  have hs15 : X11.heap.size ≤ X14.heap.size := Nat.le_of_eq ho.size.symm
  clear ho hk bO10_0
  have bO10_0 := hv0; clear hv0
  refine pl_nil ?_
  refine qw_then ?_
  refine cw_seq ?_
  refine cw_plain ?_
  refine pl_take (.slice a1 n1 c1) rfl (by kernel_rfl) (by kernel_rfl) (by kernel_rfl) (by kernel_rfl) ?_
  refine pl_step rfl (by kernel_rfl) (by kernel_rfl) (by kernel_rfl) (sn_call (f := 12) (args := #[.slice a1 n1 c1]) (by kernel_rfl) ((Strips_s _ Q1 hE (by omega) (by omega)).mono ?_))
  rintro e w23 ⟨ss16, t17, la18, lc19, rfl, sS20, hok21, ht22, hb⟩
  replace hE := hE.trans hb
  replace v5 := v5.ext hb
  replace bO10_0 := BoxAt.ext hb bO10_0
  have hs24 := hb.size
  clear hb
  have hX25 : Ext w23 w23 := Ext.refl _
  refine ⟨_, rfl, ?_⟩
  refine pl_take (.slice la18 t17 lc19) rfl (by kernel_rfl) (by kernel_rfl) (by kernel_rfl) (by kernel_rfl) ?_
  refine pl_nil ?_
  refine qw_then ?_
  refine cw_seq ?_
  refine cw_plain ?_
  refine pl_take (.int .i64 (i2 : Int)) rfl (by kernel_rfl) (by kernel_rfl) (by kernel_rfl) (by kernel_rfl) ?_
  refine pl_step rfl (by kernel_rfl) (by kernel_rfl) (by kernel_rfl) (sn_call (f := 14) (args := #[.int .i64 (i2 : Int), .int .i64 48]) (by kernel_rfl) ((pickN_c _ 48 _ hi2 (by omega) (by omega)).mono ?_))
  rintro e w' ⟨kk, rfl, kkl, kkp, rfl⟩
  refine ⟨_, rfl, ?_⟩
  refine pl_take (.int .i64 (((kk : Nat) : Int) : Int)) rfl (by kernel_rfl) (by kernel_rfl) (by kernel_rfl) (by kernel_rfl) ?_
  refine pl_nil ?_
  refine qw_then ?_
  refine cw_clean [7, 8, 9] (ws' := [(7, .pointer (some ⟨O10, 0, none⟩)), (8, .slice la18 t17 lc19), (9, .int .i64 (((kk : Nat) : Int) : Int))]) (by kernel_rfl) (fun L => ?_)
  refine cw_seq ?_
  refine cw_plain ?_
  refine pl_take (.agg #[.slice (some ⟨B3, 0, none⟩) 24 k4]) rfl (by kernel_rfl) (by kernel_rfl) (by kernel_rfl) (ex_load rfl (by kernel_rfl) (ld25 (bO10_0.1))) ?_
  refine pl_take (.int .i64 (((kk : Nat) : Int) : Int)) rfl (by kernel_rfl) (by kernel_rfl) (by kernel_rfl) (by kernel_rfl) ?_
  refine pl_step rfl (by kernel_rfl) (by kernel_rfl) (by kernel_rfl) (sn_call (f := 34) (args := #[.agg #[.slice (some ⟨B3, 0, none⟩) 24 k4], .int .i64 (((kk : Nat) : Int) : Int)]) (by kernel_rfl) ((Shifted_v _ _ _ v5 (Ext.refl _)).mono ?_))
  rintro e w30 ⟨B26, k27, rfl, hn29, -, v28, hb⟩
  replace hE := hE.trans hb
  replace hX25 := hX25.trans hb
  replace v5 := v5.ext hb
  replace bO10_0 := BoxAt.ext hb bO10_0
  have hs31 := hb.size
  clear hb
  have lt32 := v28.lt
  refine ⟨_, rfl, ?_⟩
  refine pl_take (.tuple #[.agg #[.slice (some ⟨B26, 0, none⟩) 24 k27], .int .i64 0]) rfl (by kernel_rfl) (by kernel_rfl) (by kernel_rfl) (by kernel_rfl) ?_
  refine pl_take (.agg #[.slice (some ⟨B26, 0, none⟩) 24 k27]) rfl (by kernel_rfl) (by kernel_rfl) (by kernel_rfl) (by kernel_rfl) ?_
  refine pl_take (.int .i64 0) rfl (by kernel_rfl) (by kernel_rfl) (by kernel_rfl) (by kernel_rfl) ?_
  refine pl_step rfl (by kernel_rfl) (by kernel_rfl) (by kernel_rfl) (sn_new (us := #[.slice none 0 0]) (t := 25) (by kernel_rfl) ?_)
  intro O33 X34 hO hOs hb hbx
  have hzO33 := hO; have hyO33 := hOs; clear hO hOs
  have bO33_0 : BoxAt X34 O33 0 (.slice none 0 0) := hbx 0 _ rfl
  clear hbx
  replace hE := hE.trans hb
  replace hX25 := hX25.trans hb
  replace v5 := v5.ext hb
  replace bO10_0 := BoxAt.ext hb bO10_0
  replace v28 := v28.ext hb
  have hs35 := hb.size
  clear hb
  have lt36 := bO33_0.lt
  refine pl_put rfl (by kernel_rfl) (by kernel_rfl) (sn_set (O := O33) (j := 0) (v := .slice (some ⟨B26, 0, none⟩) 24 k27) (ex_store (p := .pointer (some ⟨O33, 0, none⟩)) (v := .agg #[.slice (some ⟨B26, 0, none⟩) 24 k27]) rfl (by kernel_rfl) (by kernel_rfl) (st25 bO33_0.1 bO33_0.2)) bO33_0 ?_)
  intro X37 ho hv0 hk
  replace hE := ho.ext hE (Nat.le_trans (Nat.le_trans hs2 (Nat.le_trans hs8 (Nat.le_trans hs12 (Nat.le_trans hs15 (Nat.le_trans hs24 hs31))))) (Nat.le_of_eq hzO33))
  replace hX25 := ho.ext hX25 (Nat.le_trans hs31 (Nat.le_of_eq hzO33))
  replace v5 := ho.va (Nat.ne_of_gt (Nat.lt_of_lt_of_le lt9 (Nat.le_trans (Nat.le_trans hs12 (Nat.le_trans hs15 (Nat.le_trans hs24 hs31))) (Nat.le_of_eq hzO33)))) v5
  replace bO10_0 := ho.box (Nat.ne_of_gt (Nat.lt_of_lt_of_le lt13 (Nat.le_trans (Nat.le_trans hs15 (Nat.le_trans hs24 hs31)) (Nat.le_of_eq hzO33)))) bO10_0
  replace v28 := ho.va (Nat.ne_of_gt (Nat.lt_of_lt_of_le lt32 (Nat.le_of_eq hzO33))) v28
  have hs38 : X34.heap.size ≤ X37.heap.size := Nat.le_of_eq ho.size.symm
  clear ho hk bO33_0
  have bO33_0 := hv0; clear hv0
  refine pl_take (.int .i64 0) rfl (by kernel_rfl) (by kernel_rfl) (by kernel_rfl) (by kernel_rfl) ?_
  refine pl_nil ?_
  refine qw_then ?_
  refine cw_seq ?_
  refine cw_seq ?_
  refine cw_plain ?_
  refine pl_take (.int .i64 0) rfl (by kernel_rfl) (by kernel_rfl) (by kernel_rfl) (by kernel_rfl) ?_
  refine pl_take (.bool false) rfl (by kernel_rfl) (by kernel_rfl) (by kernel_rfl) (by kernel_rfl) ?_
  refine pl_nil ?_
  refine qw_then ?_
  refine cw_f (by kernel_rfl) ?_
  refine cw_skip ?_
  refine qw_then ?_
  refine cw_seq ?_
  refine cw_plain ?_
  refine pl_take (.slice none 0 0) rfl (by kernel_rfl) (by kernel_rfl) (by kernel_rfl) (by kernel_rfl) ?_
  refine pl_nil ?_
  refine qw_then ?_
  refine cw_seq ?_
  refine cw_seq ?_
  refine cw_plain ?_
  refine pl_take (.int .i64 0) rfl (by kernel_rfl) (by kernel_rfl) (by kernel_rfl) (by kernel_rfl) ?_
  refine pl_nil ?_
  refine qw_then ?_
  refine cw_clean [7, 8, 9, 10, 12, 13] (ws' := [(7, .pointer (some ⟨O10, 0, none⟩)), (8, .slice la18 t17 lc19), (9, .int .i64 (((kk : Nat) : Int) : Int)), (10, .pointer (some ⟨O33, 0, none⟩)), (12, .slice none 0 0), (13, .int .i64 0)]) (by kernel_rfl) (fun L => ?_)
  refine cw_block ?_
  have hX39 : Ext X37 X37 := Ext.refl _
  refine cw_loop [7, 8, 9, 10, 12, 13] (fun ws' wr m => ∃ a9 : Option Addr, ∃ i : Nat, ∃ c9 : Nat, ws' = [(7, .pointer (some ⟨O10, 0, none⟩)), (8, .slice la18 t17 lc19), (9, .int .i64 (((kk : Nat) : Int) : Int)), (10, .pointer (some ⟨O33, 0, none⟩)), (12, .slice a9 i c9), (13, .int .i64 (((i : Nat) : Int) : Int))] ∧ m = t17 - i ∧ X37.heap.size ≤ wr.heap.size ∧ Ext w wr ∧ Ext w23 wr ∧ Ext X37 wr ∧ OwnL stripR X37.heap.size 28 2 (.slice a9 i c9) wr ((ss16.take i).map (Globe.shS (modN ((kk : Nat) : Int)))) ∧ i ≤ t17) (ws0 := [(7, .pointer (some ⟨O10, 0, none⟩)), (8, .slice la18 t17 lc19), (9, .int .i64 (((kk : Nat) : Int) : Int)), (10, .pointer (some ⟨O33, 0, none⟩)), (12, .slice none 0 0), (13, .int .i64 0)]) (by kernel_rfl) _ ⟨none, 0, 0, rfl, rfl, Nat.le_refl _, hE, hX25, hX39, OwnL.nil _ _ _ _ _, by omega⟩ ?_
  clear hE hX25 hX39
  rintro m42 L ws w41 ⟨a9, i, c9, rfl, rfl, hs40, hE, hX25, hX39, own9, hi⟩
  have hX43 : Ext w41 w41 := Ext.refl _
  have hlen : ((ss16.take i).map (Globe.shS (modN ((kk : Nat) : Int)))).length = i := by rw [List.length_map, List.length_take, sS20.1]; omega
  have hbk := own9.lt
  by_cases hlt : i < t17
  ·
    obtain ⟨sb, so, s, rfl, hs, hst⟩ := sS20.at hlt
    obtain ⟨q1', q2', q3'⟩ := okS_at hok21 hs
    obtain ⟨S1, s1, e1, S2, s2, e2, d1, d2, g1, g2⟩ := hst.v q1' q2'
    refine cw_seq ?_
    refine cw_seq ?_
    refine cw_plain ?_
    refine pl_take (.int .i64 (((i : Nat) : Int) : Int)) rfl (by kernel_rfl) (by kernel_rfl) (by kernel_rfl) (by kernel_rfl) ?_
    refine pl_take (.slice (some ⟨sb, so, none⟩) t17 lc19) rfl (by kernel_rfl) (by kernel_rfl) (by kernel_rfl) (by kernel_rfl) ?_
    refine pl_take (.int .i64 (((t17 : Nat) : Int) : Int)) rfl (by kernel_rfl) (by kernel_rfl) (by kernel_rfl) (by kernel_rfl) ?_
    refine pl_take (.bool true) rfl (by kernel_rfl) (by kernel_rfl) (by kernel_rfl) (ev_dec (show _ = Result.ok (Next.value (Value.bool (decide ((((i : Nat) : Int) : Int) < (((t17 : Nat) : Int) : Int))))) _ from by kernel_rfl) (by omega)) ?_
    refine pl_nil ?_
    refine qw_then ?_
    refine cw_t (by kernel_rfl) ?_
    refine cw_skip ?_
    refine qw_then ?_
    refine cw_seq ?_
    refine cw_block ?_
    refine cw_seq ?_
    refine cw_plain ?_
    refine pl_take (.slice (some ⟨sb, so, none⟩) t17 lc19) rfl (by kernel_rfl) (by kernel_rfl) (by kernel_rfl) (by kernel_rfl) ?_
    refine pl_take (.int .i64 (((i : Nat) : Int) : Int)) rfl (by kernel_rfl) (by kernel_rfl) (by kernel_rfl) (by kernel_rfl) ?_
    refine pl_take (.pointer (some ⟨sb, so + i * 2, none⟩)) rfl (by kernel_rfl) (by kernel_rfl) (by kernel_rfl) (ex_index (p := .slice (some ⟨sb, so, none⟩) t17 lc19) (i := .int .i64 ((i : Nat) : Int)) rfl (by kernel_rfl) (by kernel_rfl) (ix26 (by omega))) ?_
    refine pl_take (.pointer (some ⟨sb, so + i * 2, none⟩)) rfl (by kernel_rfl) (by kernel_rfl) (by kernel_rfl) (by kernel_rfl) ?_
    refine pl_take (.agg #[.slice (some ⟨S1, s1, none⟩) 24 e1]) rfl (by kernel_rfl) (by kernel_rfl) (by kernel_rfl) (ex_load rfl (by kernel_rfl) (ld25 ((hX25.cell d1)))) ?_
    refine pl_take (.int .i64 (((kk : Nat) : Int) : Int)) rfl (by kernel_rfl) (by kernel_rfl) (by kernel_rfl) (by kernel_rfl) ?_
    refine pl_step rfl (by kernel_rfl) (by kernel_rfl) (by kernel_rfl) (sn_call (f := 34) (args := #[.agg #[.slice (some ⟨S1, s1, none⟩) 24 e1], .int .i64 (((kk : Nat) : Int) : Int)]) (by kernel_rfl) ((Shifted_v _ _ _ (g1.ext hX25) (Ext.refl _)).mono ?_))
    rintro e w48 ⟨B44, k45, rfl, hn47, -, v46, hb⟩
    replace hE := hE.trans hb
    replace hX25 := hX25.trans hb
    replace hX39 := hX39.trans hb
    replace hX43 := hX43.trans hb
    have hs49 := hb.size
    clear hb
    have lt50 := v46.lt
    refine ⟨_, rfl, ?_⟩
    refine pl_take (.tuple #[.agg #[.slice (some ⟨B44, 0, none⟩) 24 k45], .int .i64 0]) rfl (by kernel_rfl) (by kernel_rfl) (by kernel_rfl) (by kernel_rfl) ?_
    refine pl_take (.agg #[.slice (some ⟨B44, 0, none⟩) 24 k45]) rfl (by kernel_rfl) (by kernel_rfl) (by kernel_rfl) (by kernel_rfl) ?_
    refine pl_take (.int .i64 0) rfl (by kernel_rfl) (by kernel_rfl) (by kernel_rfl) (by kernel_rfl) ?_
    refine pl_step rfl (by kernel_rfl) (by kernel_rfl) (by kernel_rfl) (sn_new (us := #[.slice none 0 0]) (t := 25) (by kernel_rfl) ?_)
    intro O51 X52 hO hOs hb hbx
    have hzO51 := hO; have hyO51 := hOs; clear hO hOs
    have bO51_0 : BoxAt X52 O51 0 (.slice none 0 0) := hbx 0 _ rfl
    clear hbx
    replace hE := hE.trans hb
    replace hX25 := hX25.trans hb
    replace hX39 := hX39.trans hb
    replace hX43 := hX43.trans hb
    replace v46 := v46.ext hb
    have hs53 := hb.size
    clear hb
    have lt54 := bO51_0.lt
    refine pl_put rfl (by kernel_rfl) (by kernel_rfl) (sn_set (O := O51) (j := 0) (v := .slice (some ⟨B44, 0, none⟩) 24 k45) (ex_store (p := .pointer (some ⟨O51, 0, none⟩)) (v := .agg #[.slice (some ⟨B44, 0, none⟩) 24 k45]) rfl (by kernel_rfl) (by kernel_rfl) (st25 bO51_0.1 bO51_0.2)) bO51_0 ?_)
    intro X55 ho hv0 hk
    replace hE := ho.ext hE (Nat.le_trans (Nat.le_trans hs2 (Nat.le_trans hs8 (Nat.le_trans hs12 (Nat.le_trans hs15 (Nat.le_trans hs24 (Nat.le_trans hs31 (Nat.le_trans hs35 (Nat.le_trans hs38 (Nat.le_trans hs40 hs49))))))))) (Nat.le_of_eq hzO51))
    replace hX25 := ho.ext hX25 (Nat.le_trans (Nat.le_trans hs31 (Nat.le_trans hs35 (Nat.le_trans hs38 (Nat.le_trans hs40 hs49)))) (Nat.le_of_eq hzO51))
    replace hX39 := ho.ext hX39 (Nat.le_trans (Nat.le_trans hs40 hs49) (Nat.le_of_eq hzO51))
    replace hX43 := ho.ext hX43 (Nat.le_trans hs49 (Nat.le_of_eq hzO51))
    replace v46 := ho.va (Nat.ne_of_gt (Nat.lt_of_lt_of_le lt50 (Nat.le_of_eq hzO51))) v46
    have hs56 : X52.heap.size ≤ X55.heap.size := Nat.le_of_eq ho.size.symm
    clear ho hk bO51_0
    have bO51_0 := hv0; clear hv0
    refine pl_take (.int .i64 0) rfl (by kernel_rfl) (by kernel_rfl) (by kernel_rfl) (by kernel_rfl) ?_
    refine pl_nil ?_
    refine qw_then ?_
    refine cw_clean [7, 8, 9, 10, 12, 13, 14, 15] (ws' := [(7, .pointer (some ⟨O10, 0, none⟩)), (8, .slice (some ⟨sb, so, none⟩) t17 lc19), (9, .int .i64 (((kk : Nat) : Int) : Int)), (10, .pointer (some ⟨O33, 0, none⟩)), (12, .slice a9 i c9), (13, .int .i64 (((i : Nat) : Int) : Int)), (14, .pointer (some ⟨O51, 0, none⟩)), (15, .int .i64 0)]) (by kernel_rfl) (fun L => ?_)
    refine cw_seq ?_
    refine cw_plain ?_
    refine pl_take (.slice (some ⟨sb, so, none⟩) t17 lc19) rfl (by kernel_rfl) (by kernel_rfl) (by kernel_rfl) (by kernel_rfl) ?_
    refine pl_take (.int .i64 (((i : Nat) : Int) : Int)) rfl (by kernel_rfl) (by kernel_rfl) (by kernel_rfl) (by kernel_rfl) ?_
    refine pl_take (.pointer (some ⟨sb, so + i * 2, none⟩)) rfl (by kernel_rfl) (by kernel_rfl) (by kernel_rfl) (ex_index (p := .slice (some ⟨sb, so, none⟩) t17 lc19) (i := .int .i64 ((i : Nat) : Int)) rfl (by kernel_rfl) (by kernel_rfl) (ix26 (by omega))) ?_
    refine pl_take (.pointer (some ⟨sb, so + i * 2 + 1, none⟩)) rfl (by kernel_rfl) (by kernel_rfl) (by kernel_rfl) (by kernel_rfl) ?_
    refine pl_take (.agg #[.slice (some ⟨S2, s2, none⟩) 24 e2]) rfl (by kernel_rfl) (by kernel_rfl) (by kernel_rfl) (ex_load rfl (by kernel_rfl) (ld25 ((hX25.cell d2)))) ?_
    refine pl_take (.int .i64 (((kk : Nat) : Int) : Int)) rfl (by kernel_rfl) (by kernel_rfl) (by kernel_rfl) (by kernel_rfl) ?_
    refine pl_step rfl (by kernel_rfl) (by kernel_rfl) (by kernel_rfl) (sn_call (f := 34) (args := #[.agg #[.slice (some ⟨S2, s2, none⟩) 24 e2], .int .i64 (((kk : Nat) : Int) : Int)]) (by kernel_rfl) ((Shifted_v _ _ _ (g2.ext hX25) (Ext.refl _)).mono ?_))
    rintro e w61 ⟨B57, k58, rfl, hn60, -, v59, hb⟩
    replace hE := hE.trans hb
    replace hX25 := hX25.trans hb
    replace hX39 := hX39.trans hb
    replace hX43 := hX43.trans hb
    replace v46 := v46.ext hb
    replace bO51_0 := BoxAt.ext hb bO51_0
    have hs62 := hb.size
    clear hb
    have lt63 := v59.lt
    refine ⟨_, rfl, ?_⟩
    refine pl_take (.tuple #[.agg #[.slice (some ⟨B57, 0, none⟩) 24 k58], .int .i64 0]) rfl (by kernel_rfl) (by kernel_rfl) (by kernel_rfl) (by kernel_rfl) ?_
    refine pl_take (.agg #[.slice (some ⟨B57, 0, none⟩) 24 k58]) rfl (by kernel_rfl) (by kernel_rfl) (by kernel_rfl) (by kernel_rfl) ?_
    refine pl_take (.int .i64 0) rfl (by kernel_rfl) (by kernel_rfl) (by kernel_rfl) (by kernel_rfl) ?_
    refine pl_step rfl (by kernel_rfl) (by kernel_rfl) (by kernel_rfl) (sn_new (us := #[.slice none 0 0]) (t := 25) (by kernel_rfl) ?_)
    intro O64 X65 hO hOs hb hbx
    have hzO64 := hO; have hyO64 := hOs; clear hO hOs
    have bO64_0 : BoxAt X65 O64 0 (.slice none 0 0) := hbx 0 _ rfl
    clear hbx
    replace hE := hE.trans hb
    replace hX25 := hX25.trans hb
    replace hX39 := hX39.trans hb
    replace hX43 := hX43.trans hb
    replace v46 := v46.ext hb
    replace bO51_0 := BoxAt.ext hb bO51_0
    replace v59 := v59.ext hb
    have hs66 := hb.size
    clear hb
    have lt67 := bO64_0.lt
    refine pl_put rfl (by kernel_rfl) (by kernel_rfl) (sn_set (O := O64) (j := 0) (v := .slice (some ⟨B57, 0, none⟩) 24 k58) (ex_store (p := .pointer (some ⟨O64, 0, none⟩)) (v := .agg #[.slice (some ⟨B57, 0, none⟩) 24 k58]) rfl (by kernel_rfl) (by kernel_rfl) (st25 bO64_0.1 bO64_0.2)) bO64_0 ?_)
    intro X68 ho hv0 hk
    replace hE := ho.ext hE (Nat.le_trans (Nat.le_trans hs2 (Nat.le_trans hs8 (Nat.le_trans hs12 (Nat.le_trans hs15 (Nat.le_trans hs24 (Nat.le_trans hs31 (Nat.le_trans hs35 (Nat.le_trans hs38 (Nat.le_trans hs40 (Nat.le_trans hs49 (Nat.le_trans hs53 (Nat.le_trans hs56 hs62)))))))))))) (Nat.le_of_eq hzO64))
    replace hX25 := ho.ext hX25 (Nat.le_trans (Nat.le_trans hs31 (Nat.le_trans hs35 (Nat.le_trans hs38 (Nat.le_trans hs40 (Nat.le_trans hs49 (Nat.le_trans hs53 (Nat.le_trans hs56 hs62))))))) (Nat.le_of_eq hzO64))
    replace hX39 := ho.ext hX39 (Nat.le_trans (Nat.le_trans hs40 (Nat.le_trans hs49 (Nat.le_trans hs53 (Nat.le_trans hs56 hs62)))) (Nat.le_of_eq hzO64))
    replace hX43 := ho.ext hX43 (Nat.le_trans (Nat.le_trans hs49 (Nat.le_trans hs53 (Nat.le_trans hs56 hs62))) (Nat.le_of_eq hzO64))
    replace v46 := ho.va (Nat.ne_of_gt (Nat.lt_of_lt_of_le lt50 (Nat.le_trans (Nat.le_trans hs53 (Nat.le_trans hs56 hs62)) (Nat.le_of_eq hzO64)))) v46
    replace bO51_0 := ho.box (Nat.ne_of_gt (Nat.lt_of_lt_of_le lt54 (Nat.le_trans (Nat.le_trans hs56 hs62) (Nat.le_of_eq hzO64)))) bO51_0
    replace v59 := ho.va (Nat.ne_of_gt (Nat.lt_of_lt_of_le lt63 (Nat.le_of_eq hzO64))) v59
    have hs69 : X65.heap.size ≤ X68.heap.size := Nat.le_of_eq ho.size.symm
    clear ho hk bO64_0
    have bO64_0 := hv0; clear hv0
    refine pl_take (.int .i64 0) rfl (by kernel_rfl) (by kernel_rfl) (by kernel_rfl) (by kernel_rfl) ?_
    refine pl_nil ?_
    refine qw_then ?_
    refine cw_clean [7, 8, 9, 10, 12, 13, 14, 15, 16, 17] (ws' := [(7, .pointer (some ⟨O10, 0, none⟩)), (8, .slice (some ⟨sb, so, none⟩) t17 lc19), (9, .int .i64 (((kk : Nat) : Int) : Int)), (10, .pointer (some ⟨O33, 0, none⟩)), (12, .slice a9 i c9), (13, .int .i64 (((i : Nat) : Int) : Int)), (14, .pointer (some ⟨O51, 0, none⟩)), (15, .int .i64 0), (16, .pointer (some ⟨O64, 0, none⟩)), (17, .int .i64 0)]) (by kernel_rfl) (fun L => ?_)
    refine cw_seq ?_
    refine cw_seq ?_
    refine cw_plain ?_
    refine pl_take (.int .i64 0) rfl (by kernel_rfl) (by kernel_rfl) (by kernel_rfl) (by kernel_rfl) ?_
    refine pl_take (.bool false) rfl (by kernel_rfl) (by kernel_rfl) (by kernel_rfl) (by kernel_rfl) ?_
    refine pl_take (.bool false) rfl (by kernel_rfl) (by kernel_rfl) (by kernel_rfl) (by kernel_rfl) ?_
    refine pl_take (.int .i64 0) rfl (by kernel_rfl) (by kernel_rfl) (by kernel_rfl) (by kernel_rfl) ?_
    refine pl_take (.bool false) rfl (by kernel_rfl) (by kernel_rfl) (by kernel_rfl) (by kernel_rfl) ?_
    refine pl_take (.bool false) rfl (by kernel_rfl) (by kernel_rfl) (by kernel_rfl) (by kernel_rfl) ?_
    refine pl_nil ?_
    refine qw_then ?_
    refine cw_clean [7, 8, 9, 10, 12, 13, 14, 16, 81] (ws' := [(7, .pointer (some ⟨O10, 0, none⟩)), (8, .slice (some ⟨sb, so, none⟩) t17 lc19), (9, .int .i64 (((kk : Nat) : Int) : Int)), (10, .pointer (some ⟨O33, 0, none⟩)), (12, .slice a9 i c9), (13, .int .i64 (((i : Nat) : Int) : Int)), (14, .pointer (some ⟨O51, 0, none⟩)), (16, .pointer (some ⟨O64, 0, none⟩)), (81, .bool false)]) (by kernel_rfl) (fun L => ?_)
    refine cw_f (by kernel_rfl) ?_
    refine cw_skip ?_
    refine qw_then ?_
    refine cw_plain ?_
    refine pl_take (.slice a9 i c9) rfl (by kernel_rfl) (by kernel_rfl) (by kernel_rfl) (by kernel_rfl) ?_
    refine pl_take (.agg #[.slice (some ⟨B44, 0, none⟩) 24 k45]) rfl (by kernel_rfl) (by kernel_rfl) (by kernel_rfl) (ex_load rfl (by kernel_rfl) (ld25 (bO51_0.1))) ?_
    refine pl_take (.agg #[.slice (some ⟨B57, 0, none⟩) 24 k58]) rfl (by kernel_rfl) (by kernel_rfl) (by kernel_rfl) (ex_load rfl (by kernel_rfl) (ld25 (bO64_0.1))) ?_
    refine pl_take (.agg #[.slice (some ⟨B44, 0, none⟩) 24 k45, .slice (some ⟨B57, 0, none⟩) 24 k58]) rfl (by kernel_rfl) (by kernel_rfl) (by kernel_rfl) (by kernel_rfl) ?_
    refine pl_step rfl (by kernel_rfl) (by kernel_rfl) (by kernel_rfl) (sn_newS (us := #[.slice (some ⟨B44, 0, none⟩) 24 k45, .slice (some ⟨B57, 0, none⟩) 24 k58]) (t := 28) (k := 1) (c := 1) (by kernel_rfl) ?_)
    intro O70 X71 hO hOs hb hbx
    have hzO70 := hO; have hyO70 := hOs; clear hO hOs
    have bO70_0 : BoxAt X71 O70 0 (.slice (some ⟨B44, 0, none⟩) 24 k45) := hbx 0 _ rfl
    have bO70_1 : BoxAt X71 O70 1 (.slice (some ⟨B57, 0, none⟩) 24 k58) := hbx 1 _ rfl
    clear hbx
    replace hE := hE.trans hb
    replace hX25 := hX25.trans hb
    replace hX39 := hX39.trans hb
    replace hX43 := hX43.trans hb
    replace v46 := v46.ext hb
    replace bO51_0 := BoxAt.ext hb bO51_0
    replace v59 := v59.ext hb
    replace bO64_0 := BoxAt.ext hb bO64_0
    have hs72 := hb.size
    clear hb
    have lt73 := bO70_0.lt
    obtain ⟨g74, cap75, w76, hrun77, own78, hgr79⟩ := own_app1 (P := Tryd.prog) (ty := 26) stripT (own9.ext hX43) (Nat.le_trans hs40 (Nat.le_trans hs49 (Nat.le_trans hs53 (Nat.le_trans hs56 (Nat.le_trans hs62 (Nat.le_trans hs66 (Nat.le_trans hs69 hs72))))))) (k := i) hlen (O := O70) (c := 1) (x := (Globe.shiftL s.1 (modN (((kk : Nat) : Int) : Int)), Globe.shiftL s.2 (modN (((kk : Nat) : Int) : Int)))) (d := [.slice (some ⟨B44, 0, none⟩) 24 k45, .slice (some ⟨B57, 0, none⟩) 24 k58]) rfl (cells2 bO70_0.1 bO70_1.1) (by simp [Value.oneCell']) (⟨_, _, _, _, _, _, rfl, v46, v59, rfl⟩) (away2 hbk hn47 (Nat.le_trans (Nat.le_trans hs49 (Nat.le_trans hs53 hs56)) hn60)) (by omega) (by omega)
    refine pl_step rfl (by kernel_rfl) (by kernel_rfl) (by kernel_rfl) (sn_eff (v := .slice (some ⟨g74, 0, none⟩) (i + 1) cap75) (w' := w76) (ex_append rfl (by kernel_rfl) (by kernel_rfl) hrun77) ?_)
    replace hE := hgr79.ext _ hE (Nat.le_trans hs2 (Nat.le_trans hs8 (Nat.le_trans hs12 (Nat.le_trans hs15 (Nat.le_trans hs24 (Nat.le_trans hs31 (Nat.le_trans hs35 hs38)))))))
    replace hX25 := hgr79.ext _ hX25 (Nat.le_trans hs31 (Nat.le_trans hs35 hs38))
    replace hX39 := hgr79.ext _ hX39 (Nat.le_refl _)
    have hs80 := hgr79.size
    rw [show ((ss16.take i).map (Globe.shS (modN ((kk : Nat) : Int)))) ++ [(Globe.shiftL s.1 (modN (((kk : Nat) : Int) : Int)), Globe.shiftL s.2 (modN (((kk : Nat) : Int) : Int)))] = ((ss16.take (i + 1)).map (Globe.shS (modN ((kk : Nat) : Int)))) from by rw [take_snoc' hs, List.map_append]; rfl] at own78
    refine pl_take (.slice (some ⟨g74, 0, none⟩) (i + 1) cap75) rfl (by kernel_rfl) (by kernel_rfl) (by kernel_rfl) (by kernel_rfl) ?_
    refine pl_nil ?_
    refine qw_block ?_
    refine qw_then ?_
    refine cw_clean [7, 8, 9, 10, 12, 13] (ws' := [(7, .pointer (some ⟨O10, 0, none⟩)), (8, .slice (some ⟨sb, so, none⟩) t17 lc19), (9, .int .i64 (((kk : Nat) : Int) : Int)), (10, .pointer (some ⟨O33, 0, none⟩)), (12, .slice (some ⟨g74, 0, none⟩) (i + 1) cap75), (13, .int .i64 (((i : Nat) : Int) : Int))]) (by kernel_rfl) (fun L => ?_)
    refine cw_plain ?_
    refine pl_take (.int .i64 (((i : Nat) : Int) : Int)) rfl (by kernel_rfl) (by kernel_rfl) (by kernel_rfl) (by kernel_rfl) ?_
    refine pl_take (.int .i64 (((i + 1 : Nat) : Int) : Int)) rfl (by kernel_rfl) (by kernel_rfl) (by kernel_rfl) (ev_wrap (by kernel_rfl) (by omega) (by omega)) ?_
    refine pl_take (.int .i64 (((i + 1 : Nat) : Int) : Int)) rfl (by kernel_rfl) (by kernel_rfl) (by kernel_rfl) (by kernel_rfl) ?_
    refine pl_nil ?_
    refine qw_round [7, 8, 9, 10, 12, 13] (ws' := [(7, .pointer (some ⟨O10, 0, none⟩)), (8, .slice (some ⟨sb, so, none⟩) t17 lc19), (9, .int .i64 (((kk : Nat) : Int) : Int)), (10, .pointer (some ⟨O33, 0, none⟩)), (12, .slice (some ⟨g74, 0, none⟩) (i + 1) cap75), (13, .int .i64 (((i + 1 : Nat) : Int) : Int))]) (by kernel_rfl) _ ?_ ⟨(some ⟨g74, 0, none⟩), (i + 1), cap75, rfl, rfl, (Nat.le_trans hs40 (Nat.le_trans hs49 (Nat.le_trans hs53 (Nat.le_trans hs56 (Nat.le_trans hs62 (Nat.le_trans hs66 (Nat.le_trans hs69 (Nat.le_trans hs72 hs80)))))))), hE, hX25, hX39, own78, by omega⟩
    omega
  ·
    have hit : t17 = i := by omega
    subst hit
    have sM := own9.strips hlen (by omega)
    have okM : Globe.stripsOk ((ss16.take t17).map (Globe.shS (modN ((kk : Nat) : Int)))) = true := by rw [List.take_of_length_le (Nat.le_of_eq sS20.1)]; exact Globe.strips_shift_ok hok21 (modN_lt _)
    rw [List.take_of_length_le (Nat.le_of_eq sS20.1)] at sM okM
    have eS : (ss16.map (Globe.shS (modN ((kk : Nat) : Int)))).map (fun s => s.1) = (ss16.map fun s => s.1).map (fun b => Globe.shiftL b (modN ((kk : Nat) : Int))) := by simp [Globe.shS, Function.comp_def]
    have eC : (ss16.map (Globe.shS (modN ((kk : Nat) : Int)))).map (fun s => s.2) = (ss16.map fun s => s.2).map (fun b => Globe.shiftL b (modN ((kk : Nat) : Int))) := by simp [Globe.shS, Function.comp_def]
    refine cw_seq ?_
    refine cw_seq ?_
    refine cw_plain ?_
    refine pl_take (.int .i64 (((t17 : Nat) : Int) : Int)) rfl (by kernel_rfl) (by kernel_rfl) (by kernel_rfl) (by kernel_rfl) ?_
    refine pl_take (.slice la18 t17 lc19) rfl (by kernel_rfl) (by kernel_rfl) (by kernel_rfl) (by kernel_rfl) ?_
    refine pl_take (.int .i64 (((t17 : Nat) : Int) : Int)) rfl (by kernel_rfl) (by kernel_rfl) (by kernel_rfl) (by kernel_rfl) ?_
    refine pl_take (.bool false) rfl (by kernel_rfl) (by kernel_rfl) (by kernel_rfl) (ev_ndec (show _ = Result.ok (Next.value (Value.bool (decide ((((t17 : Nat) : Int) : Int) < (((t17 : Nat) : Int) : Int))))) _ from by kernel_rfl) (by omega)) ?_
    refine pl_nil ?_
    refine qw_then ?_
    refine cw_f (by kernel_rfl) ?_
    refine cw_exit ?_
    refine qw_then_exit ?_
    refine qw_then_exit ?_
    refine qw_block_out ?_
    refine qw_then ?_
    refine cw_seq ?_
    refine cw_plain ?_
    refine pl_take (.agg #[.slice (some ⟨B3, 0, none⟩) 24 k4]) rfl (by kernel_rfl) (by kernel_rfl) (by kernel_rfl) (ex_load rfl (by kernel_rfl) (ld25 ((BoxAt.ext hX39 bO10_0).1))) ?_
    refine pl_take (.slice la18 t17 lc19) rfl (by kernel_rfl) (by kernel_rfl) (by kernel_rfl) (by kernel_rfl) ?_
    refine pl_step rfl (by kernel_rfl) (by kernel_rfl) (by kernel_rfl) (sn_call (f := 15) (args := #[.agg #[.slice (some ⟨B3, 0, none⟩) 24 k4], .slice la18 t17 lc19]) (by kernel_rfl) ((Uncovered_v _ _ _ (v5.ext hX39) (Ext.refl _) sS20 hX25 hok21).mono ?_))
    rintro e w91 ⟨B81, o82, k83, B84, o85, k86, rfl, v87, v88, hn89, hn90, hb⟩
    replace hE := hE.trans hb
    replace hX25 := hX25.trans hb
    replace hX39 := hX39.trans hb
    replace hX43 := hX43.trans hb
    have hs92 := hb.size
    clear hb
    have lt93 := v87.lt
    have lt94 := v88.lt
    refine ⟨_, rfl, ?_⟩
    refine pl_take (.tuple #[.agg #[.slice (some ⟨B81, o82, none⟩) 24 k83], .agg #[.slice (some ⟨B84, o85, none⟩) 24 k86], .int .i64 0]) rfl (by kernel_rfl) (by kernel_rfl) (by kernel_rfl) (by kernel_rfl) ?_
    refine pl_take (.agg #[.slice (some ⟨B81, o82, none⟩) 24 k83]) rfl (by kernel_rfl) (by kernel_rfl) (by kernel_rfl) (by kernel_rfl) ?_
    refine pl_take (.agg #[.slice (some ⟨B84, o85, none⟩) 24 k86]) rfl (by kernel_rfl) (by kernel_rfl) (by kernel_rfl) (by kernel_rfl) ?_
    refine pl_take (.int .i64 0) rfl (by kernel_rfl) (by kernel_rfl) (by kernel_rfl) (by kernel_rfl) ?_
    refine pl_step rfl (by kernel_rfl) (by kernel_rfl) (by kernel_rfl) (sn_new (us := #[.slice none 0 0]) (t := 25) (by kernel_rfl) ?_)
    intro O95 X96 hO hOs hb hbx
    have hzO95 := hO; have hyO95 := hOs; clear hO hOs
    have bO95_0 : BoxAt X96 O95 0 (.slice none 0 0) := hbx 0 _ rfl
    clear hbx
    replace hE := hE.trans hb
    replace hX25 := hX25.trans hb
    replace hX39 := hX39.trans hb
    replace hX43 := hX43.trans hb
    replace v87 := v87.ext hb
    replace v88 := v88.ext hb
    have hs97 := hb.size
    clear hb
    have lt98 := bO95_0.lt
    refine pl_step rfl (by kernel_rfl) (by kernel_rfl) (by kernel_rfl) (sn_new (us := #[.slice none 0 0]) (t := 25) (by kernel_rfl) ?_)
    intro O99 X100 hO hOs hb hbx
    have hzO99 := hO; have hyO99 := hOs; clear hO hOs
    have bO99_0 : BoxAt X100 O99 0 (.slice none 0 0) := hbx 0 _ rfl
    clear hbx
    replace hE := hE.trans hb
    replace hX25 := hX25.trans hb
    replace hX39 := hX39.trans hb
    replace hX43 := hX43.trans hb
    replace v87 := v87.ext hb
    replace v88 := v88.ext hb
    replace bO95_0 := BoxAt.ext hb bO95_0
    have hs101 := hb.size
    clear hb
    have lt102 := bO99_0.lt
    refine pl_put rfl (by kernel_rfl) (by kernel_rfl) (sn_set (O := O95) (j := 0) (v := .slice (some ⟨B81, o82, none⟩) 24 k83) (ex_store (p := .pointer (some ⟨O95, 0, none⟩)) (v := .agg #[.slice (some ⟨B81, o82, none⟩) 24 k83]) rfl (by kernel_rfl) (by kernel_rfl) (st25 bO95_0.1 bO95_0.2)) bO95_0 ?_)
    intro X103 ho hv0 hk
    replace hE := ho.ext hE (Nat.le_trans (Nat.le_trans hs2 (Nat.le_trans hs8 (Nat.le_trans hs12 (Nat.le_trans hs15 (Nat.le_trans hs24 (Nat.le_trans hs31 (Nat.le_trans hs35 (Nat.le_trans hs38 (Nat.le_trans hs40 hs92))))))))) (Nat.le_of_eq hzO95))
    replace hX25 := ho.ext hX25 (Nat.le_trans (Nat.le_trans hs31 (Nat.le_trans hs35 (Nat.le_trans hs38 (Nat.le_trans hs40 hs92)))) (Nat.le_of_eq hzO95))
    replace hX39 := ho.ext hX39 (Nat.le_trans (Nat.le_trans hs40 hs92) (Nat.le_of_eq hzO95))
    replace hX43 := ho.ext hX43 (Nat.le_trans hs92 (Nat.le_of_eq hzO95))
    replace v87 := ho.va (Nat.ne_of_gt (Nat.lt_of_lt_of_le lt93 (Nat.le_of_eq hzO95))) v87
    replace v88 := ho.va (Nat.ne_of_gt (Nat.lt_of_lt_of_le lt94 (Nat.le_of_eq hzO95))) v88
    replace bO99_0 := ho.box (Nat.ne_of_lt (Nat.lt_of_lt_of_le lt98 (Nat.le_of_eq hzO99))) bO99_0
    have hs104 : X100.heap.size ≤ X103.heap.size := Nat.le_of_eq ho.size.symm
    clear ho hk bO95_0
    have bO95_0 := hv0; clear hv0
    refine pl_put rfl (by kernel_rfl) (by kernel_rfl) (sn_set (O := O99) (j := 0) (v := .slice (some ⟨B84, o85, none⟩) 24 k86) (ex_store (p := .pointer (some ⟨O99, 0, none⟩)) (v := .agg #[.slice (some ⟨B84, o85, none⟩) 24 k86]) rfl (by kernel_rfl) (by kernel_rfl) (st25 bO99_0.1 bO99_0.2)) bO99_0 ?_)
    intro X105 ho hv0 hk
    replace hE := ho.ext hE (Nat.le_trans (Nat.le_trans hs2 (Nat.le_trans hs8 (Nat.le_trans hs12 (Nat.le_trans hs15 (Nat.le_trans hs24 (Nat.le_trans hs31 (Nat.le_trans hs35 (Nat.le_trans hs38 (Nat.le_trans hs40 (Nat.le_trans hs92 hs97)))))))))) (Nat.le_of_eq hzO99))
    replace hX25 := ho.ext hX25 (Nat.le_trans (Nat.le_trans hs31 (Nat.le_trans hs35 (Nat.le_trans hs38 (Nat.le_trans hs40 (Nat.le_trans hs92 hs97))))) (Nat.le_of_eq hzO99))
    replace hX39 := ho.ext hX39 (Nat.le_trans (Nat.le_trans hs40 (Nat.le_trans hs92 hs97)) (Nat.le_of_eq hzO99))
    replace hX43 := ho.ext hX43 (Nat.le_trans (Nat.le_trans hs92 hs97) (Nat.le_of_eq hzO99))
    replace v87 := ho.va (Nat.ne_of_gt (Nat.lt_of_lt_of_le lt93 (Nat.le_trans hs97 (Nat.le_of_eq hzO99)))) v87
    replace v88 := ho.va (Nat.ne_of_gt (Nat.lt_of_lt_of_le lt94 (Nat.le_trans hs97 (Nat.le_of_eq hzO99)))) v88
    replace bO95_0 := ho.box (Nat.ne_of_gt (Nat.lt_of_lt_of_le lt98 (Nat.le_of_eq hzO99))) bO95_0
    have hs106 : X103.heap.size ≤ X105.heap.size := Nat.le_of_eq ho.size.symm
    clear ho hk bO99_0
    have bO99_0 := hv0; clear hv0
    refine pl_take (.int .i64 0) rfl (by kernel_rfl) (by kernel_rfl) (by kernel_rfl) (by kernel_rfl) ?_
    refine pl_nil ?_
    refine qw_then ?_
    refine cw_clean [7, 8, 9, 10, 12, 18, 19, 20] (ws' := [(7, .pointer (some ⟨O10, 0, none⟩)), (8, .slice la18 t17 lc19), (9, .int .i64 (((kk : Nat) : Int) : Int)), (10, .pointer (some ⟨O33, 0, none⟩)), (12, .slice a9 t17 c9), (18, .pointer (some ⟨O95, 0, none⟩)), (19, .pointer (some ⟨O99, 0, none⟩)), (20, .int .i64 0)]) (by kernel_rfl) (fun L => ?_)
    refine cw_seq ?_
    refine cw_plain ?_
    refine pl_take (.agg #[.slice (some ⟨B26, 0, none⟩) 24 k27]) rfl (by kernel_rfl) (by kernel_rfl) (by kernel_rfl) (ex_load rfl (by kernel_rfl) (ld25 ((BoxAt.ext hX39 bO33_0).1))) ?_
    refine pl_take (.slice a9 t17 c9) rfl (by kernel_rfl) (by kernel_rfl) (by kernel_rfl) (by kernel_rfl) ?_
    refine pl_step rfl (by kernel_rfl) (by kernel_rfl) (by kernel_rfl) (sn_call (f := 15) (args := #[.agg #[.slice (some ⟨B26, 0, none⟩) 24 k27], .slice a9 t17 c9]) (by kernel_rfl) ((Uncovered_v _ _ _ (v28.ext hX39) (Ext.refl _) sM hX43 okM).mono ?_))
    rintro e w117 ⟨B107, o108, k109, B110, o111, k112, rfl, v113, v114, hn115, hn116, hb⟩
    replace hE := hE.trans hb
    replace hX25 := hX25.trans hb
    replace hX39 := hX39.trans hb
    replace hX43 := hX43.trans hb
    replace v87 := v87.ext hb
    replace v88 := v88.ext hb
    replace bO95_0 := BoxAt.ext hb bO95_0
    replace bO99_0 := BoxAt.ext hb bO99_0
    have hs118 := hb.size
    clear hb
    have lt119 := v113.lt
    have lt120 := v114.lt
    refine ⟨_, rfl, ?_⟩
    refine pl_take (.tuple #[.agg #[.slice (some ⟨B107, o108, none⟩) 24 k109], .agg #[.slice (some ⟨B110, o111, none⟩) 24 k112], .int .i64 0]) rfl (by kernel_rfl) (by kernel_rfl) (by kernel_rfl) (by kernel_rfl) ?_
    refine pl_take (.agg #[.slice (some ⟨B107, o108, none⟩) 24 k109]) rfl (by kernel_rfl) (by kernel_rfl) (by kernel_rfl) (by kernel_rfl) ?_
    refine pl_take (.agg #[.slice (some ⟨B110, o111, none⟩) 24 k112]) rfl (by kernel_rfl) (by kernel_rfl) (by kernel_rfl) (by kernel_rfl) ?_
    refine pl_take (.int .i64 0) rfl (by kernel_rfl) (by kernel_rfl) (by kernel_rfl) (by kernel_rfl) ?_
    refine pl_step rfl (by kernel_rfl) (by kernel_rfl) (by kernel_rfl) (sn_new (us := #[.slice none 0 0]) (t := 25) (by kernel_rfl) ?_)
    intro O121 X122 hO hOs hb hbx
    have hzO121 := hO; have hyO121 := hOs; clear hO hOs
    have bO121_0 : BoxAt X122 O121 0 (.slice none 0 0) := hbx 0 _ rfl
    clear hbx
    replace hE := hE.trans hb
    replace hX25 := hX25.trans hb
    replace hX39 := hX39.trans hb
    replace hX43 := hX43.trans hb
    replace v87 := v87.ext hb
    replace v88 := v88.ext hb
    replace bO95_0 := BoxAt.ext hb bO95_0
    replace bO99_0 := BoxAt.ext hb bO99_0
    replace v113 := v113.ext hb
    replace v114 := v114.ext hb
    have hs123 := hb.size
    clear hb
    have lt124 := bO121_0.lt
    refine pl_step rfl (by kernel_rfl) (by kernel_rfl) (by kernel_rfl) (sn_new (us := #[.slice none 0 0]) (t := 25) (by kernel_rfl) ?_)
    intro O125 X126 hO hOs hb hbx
    have hzO125 := hO; have hyO125 := hOs; clear hO hOs
    have bO125_0 : BoxAt X126 O125 0 (.slice none 0 0) := hbx 0 _ rfl
    clear hbx
    replace hE := hE.trans hb
    replace hX25 := hX25.trans hb
    replace hX39 := hX39.trans hb
    replace hX43 := hX43.trans hb
    replace v87 := v87.ext hb
    replace v88 := v88.ext hb
    replace bO95_0 := BoxAt.ext hb bO95_0
    replace bO99_0 := BoxAt.ext hb bO99_0
    replace v113 := v113.ext hb
    replace v114 := v114.ext hb
    replace bO121_0 := BoxAt.ext hb bO121_0
    have hs127 := hb.size
    clear hb
    have lt128 := bO125_0.lt
    refine pl_put rfl (by kernel_rfl) (by kernel_rfl) (sn_set (O := O121) (j := 0) (v := .slice (some ⟨B107, o108, none⟩) 24 k109) (ex_store (p := .pointer (some ⟨O121, 0, none⟩)) (v := .agg #[.slice (some ⟨B107, o108, none⟩) 24 k109]) rfl (by kernel_rfl) (by kernel_rfl) (st25 bO121_0.1 bO121_0.2)) bO121_0 ?_)
    intro X129 ho hv0 hk
    replace hE := ho.ext hE (Nat.le_trans (Nat.le_trans hs2 (Nat.le_trans hs8 (Nat.le_trans hs12 (Nat.le_trans hs15 (Nat.le_trans hs24 (Nat.le_trans hs31 (Nat.le_trans hs35 (Nat.le_trans hs38 (Nat.le_trans hs40 (Nat.le_trans hs92 (Nat.le_trans hs97 (Nat.le_trans hs101 (Nat.le_trans hs104 (Nat.le_trans hs106 hs118)))))))))))))) (Nat.le_of_eq hzO121))
    replace hX25 := ho.ext hX25 (Nat.le_trans (Nat.le_trans hs31 (Nat.le_trans hs35 (Nat.le_trans hs38 (Nat.le_trans hs40 (Nat.le_trans hs92 (Nat.le_trans hs97 (Nat.le_trans hs101 (Nat.le_trans hs104 (Nat.le_trans hs106 hs118))))))))) (Nat.le_of_eq hzO121))
    replace hX39 := ho.ext hX39 (Nat.le_trans (Nat.le_trans hs40 (Nat.le_trans hs92 (Nat.le_trans hs97 (Nat.le_trans hs101 (Nat.le_trans hs104 (Nat.le_trans hs106 hs118)))))) (Nat.le_of_eq hzO121))
    replace hX43 := ho.ext hX43 (Nat.le_trans (Nat.le_trans hs92 (Nat.le_trans hs97 (Nat.le_trans hs101 (Nat.le_trans hs104 (Nat.le_trans hs106 hs118))))) (Nat.le_of_eq hzO121))
    replace v87 := ho.va (Nat.ne_of_gt (Nat.lt_of_lt_of_le lt93 (Nat.le_trans (Nat.le_trans hs97 (Nat.le_trans hs101 (Nat.le_trans hs104 (Nat.le_trans hs106 hs118)))) (Nat.le_of_eq hzO121)))) v87
    replace v88 := ho.va (Nat.ne_of_gt (Nat.lt_of_lt_of_le lt94 (Nat.le_trans (Nat.le_trans hs97 (Nat.le_trans hs101 (Nat.le_trans hs104 (Nat.le_trans hs106 hs118)))) (Nat.le_of_eq hzO121)))) v88
    replace bO95_0 := ho.box (Nat.ne_of_gt (Nat.lt_of_lt_of_le lt98 (Nat.le_trans (Nat.le_trans hs101 (Nat.le_trans hs104 (Nat.le_trans hs106 hs118))) (Nat.le_of_eq hzO121)))) bO95_0
    replace bO99_0 := ho.box (Nat.ne_of_gt (Nat.lt_of_lt_of_le lt102 (Nat.le_trans (Nat.le_trans hs104 (Nat.le_trans hs106 hs118)) (Nat.le_of_eq hzO121)))) bO99_0
    replace v113 := ho.va (Nat.ne_of_gt (Nat.lt_of_lt_of_le lt119 (Nat.le_of_eq hzO121))) v113
    replace v114 := ho.va (Nat.ne_of_gt (Nat.lt_of_lt_of_le lt120 (Nat.le_of_eq hzO121))) v114
    replace bO125_0 := ho.box (Nat.ne_of_lt (Nat.lt_of_lt_of_le lt124 (Nat.le_of_eq hzO125))) bO125_0
    have hs130 : X126.heap.size ≤ X129.heap.size := Nat.le_of_eq ho.size.symm
    clear ho hk bO121_0
    have bO121_0 := hv0; clear hv0
    refine pl_put rfl (by kernel_rfl) (by kernel_rfl) (sn_set (O := O125) (j := 0) (v := .slice (some ⟨B110, o111, none⟩) 24 k112) (ex_store (p := .pointer (some ⟨O125, 0, none⟩)) (v := .agg #[.slice (some ⟨B110, o111, none⟩) 24 k112]) rfl (by kernel_rfl) (by kernel_rfl) (st25 bO125_0.1 bO125_0.2)) bO125_0 ?_)
    intro X131 ho hv0 hk
    replace hE := ho.ext hE (Nat.le_trans (Nat.le_trans hs2 (Nat.le_trans hs8 (Nat.le_trans hs12 (Nat.le_trans hs15 (Nat.le_trans hs24 (Nat.le_trans hs31 (Nat.le_trans hs35 (Nat.le_trans hs38 (Nat.le_trans hs40 (Nat.le_trans hs92 (Nat.le_trans hs97 (Nat.le_trans hs101 (Nat.le_trans hs104 (Nat.le_trans hs106 (Nat.le_trans hs118 hs123))))))))))))))) (Nat.le_of_eq hzO125))
    replace hX25 := ho.ext hX25 (Nat.le_trans (Nat.le_trans hs31 (Nat.le_trans hs35 (Nat.le_trans hs38 (Nat.le_trans hs40 (Nat.le_trans hs92 (Nat.le_trans hs97 (Nat.le_trans hs101 (Nat.le_trans hs104 (Nat.le_trans hs106 (Nat.le_trans hs118 hs123)))))))))) (Nat.le_of_eq hzO125))
    replace hX39 := ho.ext hX39 (Nat.le_trans (Nat.le_trans hs40 (Nat.le_trans hs92 (Nat.le_trans hs97 (Nat.le_trans hs101 (Nat.le_trans hs104 (Nat.le_trans hs106 (Nat.le_trans hs118 hs123))))))) (Nat.le_of_eq hzO125))
    replace hX43 := ho.ext hX43 (Nat.le_trans (Nat.le_trans hs92 (Nat.le_trans hs97 (Nat.le_trans hs101 (Nat.le_trans hs104 (Nat.le_trans hs106 (Nat.le_trans hs118 hs123)))))) (Nat.le_of_eq hzO125))
    replace v87 := ho.va (Nat.ne_of_gt (Nat.lt_of_lt_of_le lt93 (Nat.le_trans (Nat.le_trans hs97 (Nat.le_trans hs101 (Nat.le_trans hs104 (Nat.le_trans hs106 (Nat.le_trans hs118 hs123))))) (Nat.le_of_eq hzO125)))) v87
    replace v88 := ho.va (Nat.ne_of_gt (Nat.lt_of_lt_of_le lt94 (Nat.le_trans (Nat.le_trans hs97 (Nat.le_trans hs101 (Nat.le_trans hs104 (Nat.le_trans hs106 (Nat.le_trans hs118 hs123))))) (Nat.le_of_eq hzO125)))) v88
    replace bO95_0 := ho.box (Nat.ne_of_gt (Nat.lt_of_lt_of_le lt98 (Nat.le_trans (Nat.le_trans hs101 (Nat.le_trans hs104 (Nat.le_trans hs106 (Nat.le_trans hs118 hs123)))) (Nat.le_of_eq hzO125)))) bO95_0
    replace bO99_0 := ho.box (Nat.ne_of_gt (Nat.lt_of_lt_of_le lt102 (Nat.le_trans (Nat.le_trans hs104 (Nat.le_trans hs106 (Nat.le_trans hs118 hs123))) (Nat.le_of_eq hzO125)))) bO99_0
    replace v113 := ho.va (Nat.ne_of_gt (Nat.lt_of_lt_of_le lt119 (Nat.le_trans hs123 (Nat.le_of_eq hzO125)))) v113
    replace v114 := ho.va (Nat.ne_of_gt (Nat.lt_of_lt_of_le lt120 (Nat.le_trans hs123 (Nat.le_of_eq hzO125)))) v114
    replace bO121_0 := ho.box (Nat.ne_of_gt (Nat.lt_of_lt_of_le lt124 (Nat.le_of_eq hzO125))) bO121_0
    have hs132 : X129.heap.size ≤ X131.heap.size := Nat.le_of_eq ho.size.symm
    clear ho hk bO125_0
    have bO125_0 := hv0; clear hv0
    refine pl_take (.int .i64 0) rfl (by kernel_rfl) (by kernel_rfl) (by kernel_rfl) (by kernel_rfl) ?_
    refine pl_nil ?_
    refine qw_then ?_
    refine cw_clean [7, 8, 9, 10, 12, 18, 19, 20, 21, 22, 23] (ws' := [(7, .pointer (some ⟨O10, 0, none⟩)), (8, .slice la18 t17 lc19), (9, .int .i64 (((kk : Nat) : Int) : Int)), (10, .pointer (some ⟨O33, 0, none⟩)), (12, .slice a9 t17 c9), (18, .pointer (some ⟨O95, 0, none⟩)), (19, .pointer (some ⟨O99, 0, none⟩)), (20, .int .i64 0), (21, .pointer (some ⟨O121, 0, none⟩)), (22, .pointer (some ⟨O125, 0, none⟩)), (23, .int .i64 0)]) (by kernel_rfl) (fun L => ?_)
    refine cw_seq ?_
    refine cw_plain ?_
    refine pl_take (.agg #[.slice (some ⟨B81, o82, none⟩) 24 k83]) rfl (by kernel_rfl) (by kernel_rfl) (by kernel_rfl) (ex_load rfl (by kernel_rfl) (ld25 (bO95_0.1))) ?_
    refine pl_take (.int .i64 (((kk : Nat) : Int) : Int)) rfl (by kernel_rfl) (by kernel_rfl) (by kernel_rfl) (by kernel_rfl) ?_
    refine pl_step rfl (by kernel_rfl) (by kernel_rfl) (by kernel_rfl) (sn_call (f := 34) (args := #[.agg #[.slice (some ⟨B81, o82, none⟩) 24 k83], .int .i64 (((kk : Nat) : Int) : Int)]) (by kernel_rfl) ((Shifted_v _ _ _ v87 (Ext.refl _)).mono ?_))
    rintro e w137 ⟨B133, k134, rfl, hn136, -, v135, hb⟩
    replace hE := hE.trans hb
    replace hX25 := hX25.trans hb
    replace hX39 := hX39.trans hb
    replace hX43 := hX43.trans hb
    replace v87 := v87.ext hb
    replace v88 := v88.ext hb
    replace bO95_0 := BoxAt.ext hb bO95_0
    replace bO99_0 := BoxAt.ext hb bO99_0
    replace v113 := v113.ext hb
    replace v114 := v114.ext hb
    replace bO121_0 := BoxAt.ext hb bO121_0
    replace bO125_0 := BoxAt.ext hb bO125_0
    have hs138 := hb.size
    clear hb
    have lt139 := v135.lt
    refine ⟨_, rfl, ?_⟩
    refine pl_take (.tuple #[.agg #[.slice (some ⟨B133, 0, none⟩) 24 k134], .int .i64 0]) rfl (by kernel_rfl) (by kernel_rfl) (by kernel_rfl) (by kernel_rfl) ?_
    refine pl_take (.agg #[.slice (some ⟨B133, 0, none⟩) 24 k134]) rfl (by kernel_rfl) (by kernel_rfl) (by kernel_rfl) (by kernel_rfl) ?_
    refine pl_take (.int .i64 0) rfl (by kernel_rfl) (by kernel_rfl) (by kernel_rfl) (by kernel_rfl) ?_
    refine pl_step rfl (by kernel_rfl) (by kernel_rfl) (by kernel_rfl) (sn_new (us := #[.slice none 0 0]) (t := 25) (by kernel_rfl) ?_)
    intro O140 X141 hO hOs hb hbx
    have hzO140 := hO; have hyO140 := hOs; clear hO hOs
    have bO140_0 : BoxAt X141 O140 0 (.slice none 0 0) := hbx 0 _ rfl
    clear hbx
    replace hE := hE.trans hb
    replace hX25 := hX25.trans hb
    replace hX39 := hX39.trans hb
    replace hX43 := hX43.trans hb
    replace v87 := v87.ext hb
    replace v88 := v88.ext hb
    replace bO95_0 := BoxAt.ext hb bO95_0
    replace bO99_0 := BoxAt.ext hb bO99_0
    replace v113 := v113.ext hb
    replace v114 := v114.ext hb
    replace bO121_0 := BoxAt.ext hb bO121_0
    replace bO125_0 := BoxAt.ext hb bO125_0
    replace v135 := v135.ext hb
    have hs142 := hb.size
    clear hb
    have lt143 := bO140_0.lt
    refine pl_put rfl (by kernel_rfl) (by kernel_rfl) (sn_set (O := O140) (j := 0) (v := .slice (some ⟨B133, 0, none⟩) 24 k134) (ex_store (p := .pointer (some ⟨O140, 0, none⟩)) (v := .agg #[.slice (some ⟨B133, 0, none⟩) 24 k134]) rfl (by kernel_rfl) (by kernel_rfl) (st25 bO140_0.1 bO140_0.2)) bO140_0 ?_)
    intro X144 ho hv0 hk
    replace hE := ho.ext hE (Nat.le_trans (Nat.le_trans hs2 (Nat.le_trans hs8 (Nat.le_trans hs12 (Nat.le_trans hs15 (Nat.le_trans hs24 (Nat.le_trans hs31 (Nat.le_trans hs35 (Nat.le_trans hs38 (Nat.le_trans hs40 (Nat.le_trans hs92 (Nat.le_trans hs97 (Nat.le_trans hs101 (Nat.le_trans hs104 (Nat.le_trans hs106 (Nat.le_trans hs118 (Nat.le_trans hs123 (Nat.le_trans hs127 (Nat.le_trans hs130 (Nat.le_trans hs132 hs138))))))))))))))))))) (Nat.le_of_eq hzO140))
    replace hX25 := ho.ext hX25 (Nat.le_trans (Nat.le_trans hs31 (Nat.le_trans hs35 (Nat.le_trans hs38 (Nat.le_trans hs40 (Nat.le_trans hs92 (Nat.le_trans hs97 (Nat.le_trans hs101 (Nat.le_trans hs104 (Nat.le_trans hs106 (Nat.le_trans hs118 (Nat.le_trans hs123 (Nat.le_trans hs127 (Nat.le_trans hs130 (Nat.le_trans hs132 hs138)))))))))))))) (Nat.le_of_eq hzO140))
    replace hX39 := ho.ext hX39 (Nat.le_trans (Nat.le_trans hs40 (Nat.le_trans hs92 (Nat.le_trans hs97 (Nat.le_trans hs101 (Nat.le_trans hs104 (Nat.le_trans hs106 (Nat.le_trans hs118 (Nat.le_trans hs123 (Nat.le_trans hs127 (Nat.le_trans hs130 (Nat.le_trans hs132 hs138))))))))))) (Nat.le_of_eq hzO140))
    replace hX43 := ho.ext hX43 (Nat.le_trans (Nat.le_trans hs92 (Nat.le_trans hs97 (Nat.le_trans hs101 (Nat.le_trans hs104 (Nat.le_trans hs106 (Nat.le_trans hs118 (Nat.le_trans hs123 (Nat.le_trans hs127 (Nat.le_trans hs130 (Nat.le_trans hs132 hs138)))))))))) (Nat.le_of_eq hzO140))
    replace v87 := ho.va (Nat.ne_of_gt (Nat.lt_of_lt_of_le lt93 (Nat.le_trans (Nat.le_trans hs97 (Nat.le_trans hs101 (Nat.le_trans hs104 (Nat.le_trans hs106 (Nat.le_trans hs118 (Nat.le_trans hs123 (Nat.le_trans hs127 (Nat.le_trans hs130 (Nat.le_trans hs132 hs138))))))))) (Nat.le_of_eq hzO140)))) v87
    replace v88 := ho.va (Nat.ne_of_gt (Nat.lt_of_lt_of_le lt94 (Nat.le_trans (Nat.le_trans hs97 (Nat.le_trans hs101 (Nat.le_trans hs104 (Nat.le_trans hs106 (Nat.le_trans hs118 (Nat.le_trans hs123 (Nat.le_trans hs127 (Nat.le_trans hs130 (Nat.le_trans hs132 hs138))))))))) (Nat.le_of_eq hzO140)))) v88
    replace bO95_0 := ho.box (Nat.ne_of_gt (Nat.lt_of_lt_of_le lt98 (Nat.le_trans (Nat.le_trans hs101 (Nat.le_trans hs104 (Nat.le_trans hs106 (Nat.le_trans hs118 (Nat.le_trans hs123 (Nat.le_trans hs127 (Nat.le_trans hs130 (Nat.le_trans hs132 hs138)))))))) (Nat.le_of_eq hzO140)))) bO95_0
    replace bO99_0 := ho.box (Nat.ne_of_gt (Nat.lt_of_lt_of_le lt102 (Nat.le_trans (Nat.le_trans hs104 (Nat.le_trans hs106 (Nat.le_trans hs118 (Nat.le_trans hs123 (Nat.le_trans hs127 (Nat.le_trans hs130 (Nat.le_trans hs132 hs138))))))) (Nat.le_of_eq hzO140)))) bO99_0
    replace v113 := ho.va (Nat.ne_of_gt (Nat.lt_of_lt_of_le lt119 (Nat.le_trans (Nat.le_trans hs123 (Nat.le_trans hs127 (Nat.le_trans hs130 (Nat.le_trans hs132 hs138)))) (Nat.le_of_eq hzO140)))) v113
    replace v114 := ho.va (Nat.ne_of_gt (Nat.lt_of_lt_of_le lt120 (Nat.le_trans (Nat.le_trans hs123 (Nat.le_trans hs127 (Nat.le_trans hs130 (Nat.le_trans hs132 hs138)))) (Nat.le_of_eq hzO140)))) v114
    replace bO121_0 := ho.box (Nat.ne_of_gt (Nat.lt_of_lt_of_le lt124 (Nat.le_trans (Nat.le_trans hs127 (Nat.le_trans hs130 (Nat.le_trans hs132 hs138))) (Nat.le_of_eq hzO140)))) bO121_0
    replace bO125_0 := ho.box (Nat.ne_of_gt (Nat.lt_of_lt_of_le lt128 (Nat.le_trans (Nat.le_trans hs130 (Nat.le_trans hs132 hs138)) (Nat.le_of_eq hzO140)))) bO125_0
    replace v135 := ho.va (Nat.ne_of_gt (Nat.lt_of_lt_of_le lt139 (Nat.le_of_eq hzO140))) v135
    have hs145 : X141.heap.size ≤ X144.heap.size := Nat.le_of_eq ho.size.symm
    clear ho hk bO140_0
    have bO140_0 := hv0; clear hv0
    refine pl_take (.int .i64 0) rfl (by kernel_rfl) (by kernel_rfl) (by kernel_rfl) (by kernel_rfl) ?_
    refine pl_nil ?_
    refine qw_then ?_
    refine cw_clean [7, 8, 9, 10, 12, 19, 20, 21, 22, 23, 24, 25] (ws' := [(7, .pointer (some ⟨O10, 0, none⟩)), (8, .slice la18 t17 lc19), (9, .int .i64 (((kk : Nat) : Int) : Int)), (10, .pointer (some ⟨O33, 0, none⟩)), (12, .slice a9 t17 c9), (19, .pointer (some ⟨O99, 0, none⟩)), (20, .int .i64 0), (21, .pointer (some ⟨O121, 0, none⟩)), (22, .pointer (some ⟨O125, 0, none⟩)), (23, .int .i64 0), (24, .pointer (some ⟨O140, 0, none⟩)), (25, .int .i64 0)]) (by kernel_rfl) (fun L => ?_)
    refine cw_seq ?_
    refine cw_plain ?_
    refine pl_take (.agg #[.slice (some ⟨B84, o85, none⟩) 24 k86]) rfl (by kernel_rfl) (by kernel_rfl) (by kernel_rfl) (ex_load rfl (by kernel_rfl) (ld25 (bO99_0.1))) ?_
    refine pl_take (.int .i64 (((kk : Nat) : Int) : Int)) rfl (by kernel_rfl) (by kernel_rfl) (by kernel_rfl) (by kernel_rfl) ?_
    refine pl_step rfl (by kernel_rfl) (by kernel_rfl) (by kernel_rfl) (sn_call (f := 34) (args := #[.agg #[.slice (some ⟨B84, o85, none⟩) 24 k86], .int .i64 (((kk : Nat) : Int) : Int)]) (by kernel_rfl) ((Shifted_v _ _ _ v88 (Ext.refl _)).mono ?_))
    rintro e w150 ⟨B146, k147, rfl, hn149, -, v148, hb⟩
    replace hE := hE.trans hb
    replace hX25 := hX25.trans hb
    replace hX39 := hX39.trans hb
    replace hX43 := hX43.trans hb
    replace v87 := v87.ext hb
    replace v88 := v88.ext hb
    replace bO95_0 := BoxAt.ext hb bO95_0
    replace bO99_0 := BoxAt.ext hb bO99_0
    replace v113 := v113.ext hb
    replace v114 := v114.ext hb
    replace bO121_0 := BoxAt.ext hb bO121_0
    replace bO125_0 := BoxAt.ext hb bO125_0
    replace v135 := v135.ext hb
    replace bO140_0 := BoxAt.ext hb bO140_0
    have hs151 := hb.size
    clear hb
    have lt152 := v148.lt
    refine ⟨_, rfl, ?_⟩
    refine pl_take (.tuple #[.agg #[.slice (some ⟨B146, 0, none⟩) 24 k147], .int .i64 0]) rfl (by kernel_rfl) (by kernel_rfl) (by kernel_rfl) (by kernel_rfl) ?_
    refine pl_take (.agg #[.slice (some ⟨B146, 0, none⟩) 24 k147]) rfl (by kernel_rfl) (by kernel_rfl) (by kernel_rfl) (by kernel_rfl) ?_
    refine pl_take (.int .i64 0) rfl (by kernel_rfl) (by kernel_rfl) (by kernel_rfl) (by kernel_rfl) ?_
    refine pl_step rfl (by kernel_rfl) (by kernel_rfl) (by kernel_rfl) (sn_new (us := #[.slice none 0 0]) (t := 25) (by kernel_rfl) ?_)
    intro O153 X154 hO hOs hb hbx
    have hzO153 := hO; have hyO153 := hOs; clear hO hOs
    have bO153_0 : BoxAt X154 O153 0 (.slice none 0 0) := hbx 0 _ rfl
    clear hbx
    replace hE := hE.trans hb
    replace hX25 := hX25.trans hb
    replace hX39 := hX39.trans hb
    replace hX43 := hX43.trans hb
    replace v87 := v87.ext hb
    replace v88 := v88.ext hb
    replace bO95_0 := BoxAt.ext hb bO95_0
    replace bO99_0 := BoxAt.ext hb bO99_0
    replace v113 := v113.ext hb
    replace v114 := v114.ext hb
    replace bO121_0 := BoxAt.ext hb bO121_0
    replace bO125_0 := BoxAt.ext hb bO125_0
    replace v135 := v135.ext hb
    replace bO140_0 := BoxAt.ext hb bO140_0
    replace v148 := v148.ext hb
    have hs155 := hb.size
    clear hb
    have lt156 := bO153_0.lt
    refine pl_put rfl (by kernel_rfl) (by kernel_rfl) (sn_set (O := O153) (j := 0) (v := .slice (some ⟨B146, 0, none⟩) 24 k147) (ex_store (p := .pointer (some ⟨O153, 0, none⟩)) (v := .agg #[.slice (some ⟨B146, 0, none⟩) 24 k147]) rfl (by kernel_rfl) (by kernel_rfl) (st25 bO153_0.1 bO153_0.2)) bO153_0 ?_)
    intro X157 ho hv0 hk
    replace hE := ho.ext hE (Nat.le_trans (Nat.le_trans hs2 (Nat.le_trans hs8 (Nat.le_trans hs12 (Nat.le_trans hs15 (Nat.le_trans hs24 (Nat.le_trans hs31 (Nat.le_trans hs35 (Nat.le_trans hs38 (Nat.le_trans hs40 (Nat.le_trans hs92 (Nat.le_trans hs97 (Nat.le_trans hs101 (Nat.le_trans hs104 (Nat.le_trans hs106 (Nat.le_trans hs118 (Nat.le_trans hs123 (Nat.le_trans hs127 (Nat.le_trans hs130 (Nat.le_trans hs132 (Nat.le_trans hs138 (Nat.le_trans hs142 (Nat.le_trans hs145 hs151)))))))))))))))))))))) (Nat.le_of_eq hzO153))
    replace hX25 := ho.ext hX25 (Nat.le_trans (Nat.le_trans hs31 (Nat.le_trans hs35 (Nat.le_trans hs38 (Nat.le_trans hs40 (Nat.le_trans hs92 (Nat.le_trans hs97 (Nat.le_trans hs101 (Nat.le_trans hs104 (Nat.le_trans hs106 (Nat.le_trans hs118 (Nat.le_trans hs123 (Nat.le_trans hs127 (Nat.le_trans hs130 (Nat.le_trans hs132 (Nat.le_trans hs138 (Nat.le_trans hs142 (Nat.le_trans hs145 hs151))))))))))))))))) (Nat.le_of_eq hzO153))
    replace hX39 := ho.ext hX39 (Nat.le_trans (Nat.le_trans hs40 (Nat.le_trans hs92 (Nat.le_trans hs97 (Nat.le_trans hs101 (Nat.le_trans hs104 (Nat.le_trans hs106 (Nat.le_trans hs118 (Nat.le_trans hs123 (Nat.le_trans hs127 (Nat.le_trans hs130 (Nat.le_trans hs132 (Nat.le_trans hs138 (Nat.le_trans hs142 (Nat.le_trans hs145 hs151)))))))))))))) (Nat.le_of_eq hzO153))
    replace hX43 := ho.ext hX43 (Nat.le_trans (Nat.le_trans hs92 (Nat.le_trans hs97 (Nat.le_trans hs101 (Nat.le_trans hs104 (Nat.le_trans hs106 (Nat.le_trans hs118 (Nat.le_trans hs123 (Nat.le_trans hs127 (Nat.le_trans hs130 (Nat.le_trans hs132 (Nat.le_trans hs138 (Nat.le_trans hs142 (Nat.le_trans hs145 hs151))))))))))))) (Nat.le_of_eq hzO153))
    replace v87 := ho.va (Nat.ne_of_gt (Nat.lt_of_lt_of_le lt93 (Nat.le_trans (Nat.le_trans hs97 (Nat.le_trans hs101 (Nat.le_trans hs104 (Nat.le_trans hs106 (Nat.le_trans hs118 (Nat.le_trans hs123 (Nat.le_trans hs127 (Nat.le_trans hs130 (Nat.le_trans hs132 (Nat.le_trans hs138 (Nat.le_trans hs142 (Nat.le_trans hs145 hs151)))))))))))) (Nat.le_of_eq hzO153)))) v87
    replace v88 := ho.va (Nat.ne_of_gt (Nat.lt_of_lt_of_le lt94 (Nat.le_trans (Nat.le_trans hs97 (Nat.le_trans hs101 (Nat.le_trans hs104 (Nat.le_trans hs106 (Nat.le_trans hs118 (Nat.le_trans hs123 (Nat.le_trans hs127 (Nat.le_trans hs130 (Nat.le_trans hs132 (Nat.le_trans hs138 (Nat.le_trans hs142 (Nat.le_trans hs145 hs151)))))))))))) (Nat.le_of_eq hzO153)))) v88
    replace bO95_0 := ho.box (Nat.ne_of_gt (Nat.lt_of_lt_of_le lt98 (Nat.le_trans (Nat.le_trans hs101 (Nat.le_trans hs104 (Nat.le_trans hs106 (Nat.le_trans hs118 (Nat.le_trans hs123 (Nat.le_trans hs127 (Nat.le_trans hs130 (Nat.le_trans hs132 (Nat.le_trans hs138 (Nat.le_trans hs142 (Nat.le_trans hs145 hs151))))))))))) (Nat.le_of_eq hzO153)))) bO95_0
    replace bO99_0 := ho.box (Nat.ne_of_gt (Nat.lt_of_lt_of_le lt102 (Nat.le_trans (Nat.le_trans hs104 (Nat.le_trans hs106 (Nat.le_trans hs118 (Nat.le_trans hs123 (Nat.le_trans hs127 (Nat.le_trans hs130 (Nat.le_trans hs132 (Nat.le_trans hs138 (Nat.le_trans hs142 (Nat.le_trans hs145 hs151)))))))))) (Nat.le_of_eq hzO153)))) bO99_0
    replace v113 := ho.va (Nat.ne_of_gt (Nat.lt_of_lt_of_le lt119 (Nat.le_trans (Nat.le_trans hs123 (Nat.le_trans hs127 (Nat.le_trans hs130 (Nat.le_trans hs132 (Nat.le_trans hs138 (Nat.le_trans hs142 (Nat.le_trans hs145 hs151))))))) (Nat.le_of_eq hzO153)))) v113
    replace v114 := ho.va (Nat.ne_of_gt (Nat.lt_of_lt_of_le lt120 (Nat.le_trans (Nat.le_trans hs123 (Nat.le_trans hs127 (Nat.le_trans hs130 (Nat.le_trans hs132 (Nat.le_trans hs138 (Nat.le_trans hs142 (Nat.le_trans hs145 hs151))))))) (Nat.le_of_eq hzO153)))) v114
    replace bO121_0 := ho.box (Nat.ne_of_gt (Nat.lt_of_lt_of_le lt124 (Nat.le_trans (Nat.le_trans hs127 (Nat.le_trans hs130 (Nat.le_trans hs132 (Nat.le_trans hs138 (Nat.le_trans hs142 (Nat.le_trans hs145 hs151)))))) (Nat.le_of_eq hzO153)))) bO121_0
    replace bO125_0 := ho.box (Nat.ne_of_gt (Nat.lt_of_lt_of_le lt128 (Nat.le_trans (Nat.le_trans hs130 (Nat.le_trans hs132 (Nat.le_trans hs138 (Nat.le_trans hs142 (Nat.le_trans hs145 hs151))))) (Nat.le_of_eq hzO153)))) bO125_0
    replace v135 := ho.va (Nat.ne_of_gt (Nat.lt_of_lt_of_le lt139 (Nat.le_trans (Nat.le_trans hs142 (Nat.le_trans hs145 hs151)) (Nat.le_of_eq hzO153)))) v135
    replace bO140_0 := ho.box (Nat.ne_of_gt (Nat.lt_of_lt_of_le lt143 (Nat.le_trans (Nat.le_trans hs145 hs151) (Nat.le_of_eq hzO153)))) bO140_0
    replace v148 := ho.va (Nat.ne_of_gt (Nat.lt_of_lt_of_le lt152 (Nat.le_of_eq hzO153))) v148
    have hs158 : X154.heap.size ≤ X157.heap.size := Nat.le_of_eq ho.size.symm
    clear ho hk bO153_0
    have bO153_0 := hv0; clear hv0
    refine pl_take (.int .i64 0) rfl (by kernel_rfl) (by kernel_rfl) (by kernel_rfl) (by kernel_rfl) ?_
    refine pl_nil ?_
    refine qw_then ?_
    refine cw_clean [7, 8, 10, 12, 20, 21, 22, 23, 24, 25, 26, 27] (ws' := [(7, .pointer (some ⟨O10, 0, none⟩)), (8, .slice la18 t17 lc19), (10, .pointer (some ⟨O33, 0, none⟩)), (12, .slice a9 t17 c9), (20, .int .i64 0), (21, .pointer (some ⟨O121, 0, none⟩)), (22, .pointer (some ⟨O125, 0, none⟩)), (23, .int .i64 0), (24, .pointer (some ⟨O140, 0, none⟩)), (25, .int .i64 0), (26, .pointer (some ⟨O153, 0, none⟩)), (27, .int .i64 0)]) (by kernel_rfl) (fun L => ?_)
    refine cw_seq ?_
    obtain ⟨r, hr⟩ : ∃ r, Globe.fewestL (Globe.enough (areaL q0 n0) (ss16.map fun s => s.1)) t17 = r := ⟨_, rfl⟩
    refine cw_plain ?_
    refine pl_take (.agg #[.slice (some ⟨B3, 0, none⟩) 24 k4]) rfl (by kernel_rfl) (by kernel_rfl) (by kernel_rfl) (ex_load rfl (by kernel_rfl) (ld25 ((BoxAt.ext hX39 bO10_0).1))) ?_
    refine pl_take (.slice la18 t17 lc19) rfl (by kernel_rfl) (by kernel_rfl) (by kernel_rfl) (by kernel_rfl) ?_
    refine pl_step rfl (by kernel_rfl) (by kernel_rfl) (by kernel_rfl) (sn_call (f := 25) (args := #[.agg #[.slice (some ⟨B3, 0, none⟩) 24 k4], .slice la18 t17 lc19]) (by kernel_rfl) ((Fewest_r (r := r) _ _ _ (v5.ext hX39) (Ext.refl _) sS20 hX25 hok21 (by omega) (hT.ext hE) (hr)).mono ?_))
    rintro e w162 ⟨fa159, fc160, rfl, hi161, hb⟩
    replace hE := hE.trans hb
    replace hX25 := hX25.trans hb
    replace hX39 := hX39.trans hb
    replace hX43 := hX43.trans hb
    replace v87 := v87.ext hb
    replace v88 := v88.ext hb
    replace bO95_0 := BoxAt.ext hb bO95_0
    replace bO99_0 := BoxAt.ext hb bO99_0
    replace v113 := v113.ext hb
    replace v114 := v114.ext hb
    replace bO121_0 := BoxAt.ext hb bO121_0
    replace bO125_0 := BoxAt.ext hb bO125_0
    replace v135 := v135.ext hb
    replace bO140_0 := BoxAt.ext hb bO140_0
    replace v148 := v148.ext hb
    replace bO153_0 := BoxAt.ext hb bO153_0
    have hs163 := hb.size
    clear hb
    have hX164 : Ext w162 w162 := Ext.refl _
    refine ⟨_, rfl, ?_⟩
    refine pl_take (.tuple #[.slice fa159 ((r.getD []).length) fc160, .bool r.isSome, .int .i64 0]) rfl (by kernel_rfl) (by kernel_rfl) (by kernel_rfl) (by kernel_rfl) ?_
    refine pl_take (.slice fa159 ((r.getD []).length) fc160) rfl (by kernel_rfl) (by kernel_rfl) (by kernel_rfl) (by kernel_rfl) ?_
    refine pl_take (.bool r.isSome) rfl (by kernel_rfl) (by kernel_rfl) (by kernel_rfl) (by kernel_rfl) ?_
    refine pl_take (.int .i64 0) rfl (by kernel_rfl) (by kernel_rfl) (by kernel_rfl) (by kernel_rfl) ?_
    refine pl_take (.slice fa159 ((r.getD []).length) fc160) rfl (by kernel_rfl) (by kernel_rfl) (by kernel_rfl) (by kernel_rfl) ?_
    refine pl_take (.bool r.isSome) rfl (by kernel_rfl) (by kernel_rfl) (by kernel_rfl) (by kernel_rfl) ?_
    refine pl_take (.int .i64 0) rfl (by kernel_rfl) (by kernel_rfl) (by kernel_rfl) (by kernel_rfl) ?_
    refine pl_nil ?_
    refine qw_then ?_
    refine cw_clean [10, 12, 20, 21, 22, 23, 24, 25, 26, 27, 28, 29, 30] (ws' := [(10, .pointer (some ⟨O33, 0, none⟩)), (12, .slice a9 t17 c9), (20, .int .i64 0), (21, .pointer (some ⟨O121, 0, none⟩)), (22, .pointer (some ⟨O125, 0, none⟩)), (23, .int .i64 0), (24, .pointer (some ⟨O140, 0, none⟩)), (25, .int .i64 0), (26, .pointer (some ⟨O153, 0, none⟩)), (27, .int .i64 0), (28, .slice fa159 ((r.getD []).length) fc160), (29, .bool r.isSome), (30, .int .i64 0)]) (by kernel_rfl) (fun L => ?_)
    refine cw_seq ?_
    refine cw_plain ?_
    refine pl_take (.agg #[.slice (some ⟨B26, 0, none⟩) 24 k27]) rfl (by kernel_rfl) (by kernel_rfl) (by kernel_rfl) (ex_load rfl (by kernel_rfl) (ld25 ((BoxAt.ext hX39 bO33_0).1))) ?_
    refine pl_take (.slice a9 t17 c9) rfl (by kernel_rfl) (by kernel_rfl) (by kernel_rfl) (by kernel_rfl) ?_
    refine pl_step rfl (by kernel_rfl) (by kernel_rfl) (by kernel_rfl) (sn_call (f := 25) (args := #[.agg #[.slice (some ⟨B26, 0, none⟩) 24 k27], .slice a9 t17 c9]) (by kernel_rfl) ((Fewest_r (r := r) _ _ _ (v28.ext hX39) (Ext.refl _) sM hX43 okM (by omega) (hT.ext hE) (by rw [eS, Globe.enough_shift (modN_lt _) v5.2 (sures_ok hok21)]; exact hr)).mono ?_))
    rintro e w168 ⟨fa165, fc166, rfl, hi167, hb⟩
    replace hE := hE.trans hb
    replace hX25 := hX25.trans hb
    replace hX39 := hX39.trans hb
    replace hX43 := hX43.trans hb
    replace hX164 := hX164.trans hb
    replace v87 := v87.ext hb
    replace v88 := v88.ext hb
    replace bO95_0 := BoxAt.ext hb bO95_0
    replace bO99_0 := BoxAt.ext hb bO99_0
    replace v113 := v113.ext hb
    replace v114 := v114.ext hb
    replace bO121_0 := BoxAt.ext hb bO121_0
    replace bO125_0 := BoxAt.ext hb bO125_0
    replace v135 := v135.ext hb
    replace bO140_0 := BoxAt.ext hb bO140_0
    replace v148 := v148.ext hb
    replace bO153_0 := BoxAt.ext hb bO153_0
    have hs169 := hb.size
    clear hb
    have hX170 : Ext w168 w168 := Ext.refl _
    refine ⟨_, rfl, ?_⟩
    refine pl_take (.tuple #[.slice fa165 ((r.getD []).length) fc166, .bool r.isSome, .int .i64 0]) rfl (by kernel_rfl) (by kernel_rfl) (by kernel_rfl) (by kernel_rfl) ?_
    refine pl_take (.slice fa165 ((r.getD []).length) fc166) rfl (by kernel_rfl) (by kernel_rfl) (by kernel_rfl) (by kernel_rfl) ?_
    refine pl_take (.bool r.isSome) rfl (by kernel_rfl) (by kernel_rfl) (by kernel_rfl) (by kernel_rfl) ?_
    refine pl_take (.int .i64 0) rfl (by kernel_rfl) (by kernel_rfl) (by kernel_rfl) (by kernel_rfl) ?_
    refine pl_take (.slice fa165 ((r.getD []).length) fc166) rfl (by kernel_rfl) (by kernel_rfl) (by kernel_rfl) (by kernel_rfl) ?_
    refine pl_take (.bool r.isSome) rfl (by kernel_rfl) (by kernel_rfl) (by kernel_rfl) (by kernel_rfl) ?_
    refine pl_take (.int .i64 0) rfl (by kernel_rfl) (by kernel_rfl) (by kernel_rfl) (by kernel_rfl) ?_
    refine pl_nil ?_
    refine qw_then ?_
    refine cw_clean [20, 21, 22, 23, 24, 25, 26, 27, 28, 29, 30, 31, 32, 33] (ws' := [(20, .int .i64 0), (21, .pointer (some ⟨O121, 0, none⟩)), (22, .pointer (some ⟨O125, 0, none⟩)), (23, .int .i64 0), (24, .pointer (some ⟨O140, 0, none⟩)), (25, .int .i64 0), (26, .pointer (some ⟨O153, 0, none⟩)), (27, .int .i64 0), (28, .slice fa159 ((r.getD []).length) fc160), (29, .bool r.isSome), (30, .int .i64 0), (31, .slice fa165 ((r.getD []).length) fc166), (32, .bool r.isSome), (33, .int .i64 0)]) (by kernel_rfl) (fun L => ?_)
    refine cw_seq ?_
    refine cw_seq ?_
    refine cw_plain ?_
    refine pl_take (.int .i64 0) rfl (by kernel_rfl) (by kernel_rfl) (by kernel_rfl) (by kernel_rfl) ?_
    refine pl_take (.bool false) rfl (by kernel_rfl) (by kernel_rfl) (by kernel_rfl) (by kernel_rfl) ?_
    refine pl_take (.bool false) rfl (by kernel_rfl) (by kernel_rfl) (by kernel_rfl) (by kernel_rfl) ?_
    refine pl_take (.int .i64 0) rfl (by kernel_rfl) (by kernel_rfl) (by kernel_rfl) (by kernel_rfl) ?_
    refine pl_take (.bool false) rfl (by kernel_rfl) (by kernel_rfl) (by kernel_rfl) (by kernel_rfl) ?_
    refine pl_take (.bool false) rfl (by kernel_rfl) (by kernel_rfl) (by kernel_rfl) (by kernel_rfl) ?_
    refine pl_take (.bool false) rfl (by kernel_rfl) (by kernel_rfl) (by kernel_rfl) (by kernel_rfl) ?_
    refine pl_take (.int .i64 0) rfl (by kernel_rfl) (by kernel_rfl) (by kernel_rfl) (by kernel_rfl) ?_
    refine pl_take (.bool false) rfl (by kernel_rfl) (by kernel_rfl) (by kernel_rfl) (by kernel_rfl) ?_
    refine pl_take (.bool false) rfl (by kernel_rfl) (by kernel_rfl) (by kernel_rfl) (by kernel_rfl) ?_
    refine pl_take (.bool false) rfl (by kernel_rfl) (by kernel_rfl) (by kernel_rfl) (by kernel_rfl) ?_
    refine pl_take (.int .i64 0) rfl (by kernel_rfl) (by kernel_rfl) (by kernel_rfl) (by kernel_rfl) ?_
    refine pl_take (.bool false) rfl (by kernel_rfl) (by kernel_rfl) (by kernel_rfl) (by kernel_rfl) ?_
    refine pl_take (.bool false) rfl (by kernel_rfl) (by kernel_rfl) (by kernel_rfl) (by kernel_rfl) ?_
    refine pl_take (.bool false) rfl (by kernel_rfl) (by kernel_rfl) (by kernel_rfl) (by kernel_rfl) ?_
    refine pl_take (.int .i64 0) rfl (by kernel_rfl) (by kernel_rfl) (by kernel_rfl) (by kernel_rfl) ?_
    refine pl_take (.bool false) rfl (by kernel_rfl) (by kernel_rfl) (by kernel_rfl) (by kernel_rfl) ?_
    refine pl_take (.bool false) rfl (by kernel_rfl) (by kernel_rfl) (by kernel_rfl) (by kernel_rfl) ?_
    refine pl_take (.bool false) rfl (by kernel_rfl) (by kernel_rfl) (by kernel_rfl) (by kernel_rfl) ?_
    refine pl_take (.int .i64 0) rfl (by kernel_rfl) (by kernel_rfl) (by kernel_rfl) (by kernel_rfl) ?_
    refine pl_take (.bool false) rfl (by kernel_rfl) (by kernel_rfl) (by kernel_rfl) (by kernel_rfl) ?_
    refine pl_take (.bool false) rfl (by kernel_rfl) (by kernel_rfl) (by kernel_rfl) (by kernel_rfl) ?_
    refine pl_nil ?_
    refine qw_then ?_
    refine cw_clean [21, 22, 24, 26, 28, 29, 31, 32, 149] (ws' := [(21, .pointer (some ⟨O121, 0, none⟩)), (22, .pointer (some ⟨O125, 0, none⟩)), (24, .pointer (some ⟨O140, 0, none⟩)), (26, .pointer (some ⟨O153, 0, none⟩)), (28, .slice fa159 ((r.getD []).length) fc160), (29, .bool r.isSome), (31, .slice fa165 ((r.getD []).length) fc166), (32, .bool r.isSome), (149, .bool false)]) (by kernel_rfl) (fun L => ?_)
    refine cw_f (by kernel_rfl) ?_
    refine cw_skip ?_
    refine qw_then ?_
    refine cw_seq ?_
    refine cw_plain ?_
    refine pl_take (.agg #[.slice (some ⟨B107, o108, none⟩) 24 k109]) rfl (by kernel_rfl) (by kernel_rfl) (by kernel_rfl) (ex_load rfl (by kernel_rfl) (ld25 (bO121_0.1))) ?_
    refine pl_take (.agg #[.slice (some ⟨B133, 0, none⟩) 24 k134]) rfl (by kernel_rfl) (by kernel_rfl) (by kernel_rfl) (ex_load rfl (by kernel_rfl) (ld25 (bO140_0.1))) ?_
    refine pl_step rfl (by kernel_rfl) (by kernel_rfl) (by kernel_rfl) (sn_call (f := 21) (args := #[.agg #[.slice (some ⟨B107, o108, none⟩) 24 k109], .agg #[.slice (some ⟨B133, 0, none⟩) 24 k134]]) (by kernel_rfl) ((rSame_r _ _ _ v113 (Ext.refl _) v135 (Ext.refl _) (decide_eq_true (by rw [eC]; exact Globe.left_shift (modN_lt _) _ v5.2 (cans_ok hok21)))).mono ?_))
    rintro e w171 ⟨rfl, hb⟩
    replace hE := hE.trans hb
    replace hX25 := hX25.trans hb
    replace hX39 := hX39.trans hb
    replace hX43 := hX43.trans hb
    replace hX164 := hX164.trans hb
    replace hX170 := hX170.trans hb
    replace v87 := v87.ext hb
    replace v88 := v88.ext hb
    replace bO95_0 := BoxAt.ext hb bO95_0
    replace bO99_0 := BoxAt.ext hb bO99_0
    replace v113 := v113.ext hb
    replace v114 := v114.ext hb
    replace bO121_0 := BoxAt.ext hb bO121_0
    replace bO125_0 := BoxAt.ext hb bO125_0
    replace v135 := v135.ext hb
    replace bO140_0 := BoxAt.ext hb bO140_0
    replace v148 := v148.ext hb
    replace bO153_0 := BoxAt.ext hb bO153_0
    have hs172 := hb.size
    clear hb
    refine ⟨_, rfl, ?_⟩
    refine pl_take (.bool true) rfl (by kernel_rfl) (by kernel_rfl) (by kernel_rfl) (by kernel_rfl) ?_
    refine pl_take (.agg #[.slice (some ⟨B110, o111, none⟩) 24 k112]) rfl (by kernel_rfl) (by kernel_rfl) (by kernel_rfl) (ex_load rfl (by kernel_rfl) (ld25 (bO125_0.1))) ?_
    refine pl_take (.agg #[.slice (some ⟨B146, 0, none⟩) 24 k147]) rfl (by kernel_rfl) (by kernel_rfl) (by kernel_rfl) (ex_load rfl (by kernel_rfl) (ld25 (bO153_0.1))) ?_
    refine pl_step rfl (by kernel_rfl) (by kernel_rfl) (by kernel_rfl) (sn_call (f := 21) (args := #[.agg #[.slice (some ⟨B110, o111, none⟩) 24 k112], .agg #[.slice (some ⟨B146, 0, none⟩) 24 k147]]) (by kernel_rfl) ((rSame_r _ _ _ v114 (Ext.refl _) v148 (Ext.refl _) (decide_eq_true (by rw [eS]; exact Globe.left_shift (modN_lt _) _ v5.2 (sures_ok hok21)))).mono ?_))
    rintro e w173 ⟨rfl, hb⟩
    replace hE := hE.trans hb
    replace hX25 := hX25.trans hb
    replace hX39 := hX39.trans hb
    replace hX43 := hX43.trans hb
    replace hX164 := hX164.trans hb
    replace hX170 := hX170.trans hb
    replace v87 := v87.ext hb
    replace v88 := v88.ext hb
    replace bO95_0 := BoxAt.ext hb bO95_0
    replace bO99_0 := BoxAt.ext hb bO99_0
    replace v113 := v113.ext hb
    replace v114 := v114.ext hb
    replace bO121_0 := BoxAt.ext hb bO121_0
    replace bO125_0 := BoxAt.ext hb bO125_0
    replace v135 := v135.ext hb
    replace bO140_0 := BoxAt.ext hb bO140_0
    replace v148 := v148.ext hb
    replace bO153_0 := BoxAt.ext hb bO153_0
    have hs174 := hb.size
    clear hb
    refine ⟨_, rfl, ?_⟩
    refine pl_take (.bool true) rfl (by kernel_rfl) (by kernel_rfl) (by kernel_rfl) (by kernel_rfl) ?_
    refine pl_take (.bool true) rfl (by kernel_rfl) (by kernel_rfl) (by kernel_rfl) (by kernel_rfl) ?_
    refine pl_take (.bool r.isSome) rfl (by kernel_rfl) (by kernel_rfl) (by kernel_rfl) (by kernel_rfl) ?_
    refine pl_take (.bool r.isSome) rfl (by kernel_rfl) (by kernel_rfl) (by kernel_rfl) (by kernel_rfl) ?_
    refine pl_take (.bool true) rfl (by kernel_rfl) (by kernel_rfl) (by kernel_rfl) (ev_bool (show _ = Result.ok (Next.value (Value.bool (r.isSome == r.isSome))) _ from by kernel_rfl) (by simp)) ?_
    refine pl_take (.bool true) rfl (by kernel_rfl) (by kernel_rfl) (by kernel_rfl) (by kernel_rfl) ?_
    refine pl_take (.bool true) rfl (by kernel_rfl) (by kernel_rfl) (by kernel_rfl) (by kernel_rfl) ?_
    refine pl_take (.slice fa159 ((r.getD []).length) fc160) rfl (by kernel_rfl) (by kernel_rfl) (by kernel_rfl) (by kernel_rfl) ?_
    refine pl_take (.slice fa165 ((r.getD []).length) fc166) rfl (by kernel_rfl) (by kernel_rfl) (by kernel_rfl) (by kernel_rfl) ?_
    refine pl_step rfl (by kernel_rfl) (by kernel_rfl) (by kernel_rfl) (sn_call (f := 27) (args := #[.slice fa159 ((r.getD []).length) fc160, .slice fa165 ((r.getD []).length) fc166]) (by kernel_rfl) ((rInts_t _ _ _ hi161 hX164 hi167 hX170 (by simp [intsN]) (by have := few_len hr; omega)).mono ?_))
    rintro e w175 ⟨rfl, hb⟩
    replace hE := hE.trans hb
    replace hX25 := hX25.trans hb
    replace hX39 := hX39.trans hb
    replace hX43 := hX43.trans hb
    replace hX164 := hX164.trans hb
    replace hX170 := hX170.trans hb
    replace v87 := v87.ext hb
    replace v88 := v88.ext hb
    replace bO95_0 := BoxAt.ext hb bO95_0
    replace bO99_0 := BoxAt.ext hb bO99_0
    replace v113 := v113.ext hb
    replace v114 := v114.ext hb
    replace bO121_0 := BoxAt.ext hb bO121_0
    replace bO125_0 := BoxAt.ext hb bO125_0
    replace v135 := v135.ext hb
    replace bO140_0 := BoxAt.ext hb bO140_0
    replace v148 := v148.ext hb
    replace bO153_0 := BoxAt.ext hb bO153_0
    have hs176 := hb.size
    clear hb
    refine ⟨_, rfl, ?_⟩
    refine pl_take (.bool true) rfl (by kernel_rfl) (by kernel_rfl) (by kernel_rfl) (by kernel_rfl) ?_
    refine pl_take (.bool true) rfl (by kernel_rfl) (by kernel_rfl) (by kernel_rfl) (by kernel_rfl) ?_
    refine pl_nil ?_
    refine qw_then ?_
    refine cw_clean [6] (ws' := [(6, .bool true)]) (by kernel_rfl) (fun L => ?_)
    refine cw_ret ?_
    refine qw_ret [.bool true] rfl ⟨(by kernel_rfl), trivial⟩ ?_
    exact ⟨rfl, hE⟩

end Go.Proofs.YtglfoglkdbbmmaaDoor

/- The statement CoverAround: for every input the law returns true, and every argument reads as it read before; the two tables of package math/bits that the row lists are tied to the program's text. -/
namespace Go.Proofs.YtglfoglkdbbmmaaDoor
open Go.ChangeShapes Go.WideShapes Go.ChangeAt Go.RowKit

set_option maxRecDepth 100000 in
theorem CoverAround_lifted (os : Os) (started : os.Started) (H : Type) (enc : TypeId × Value → H) :
    ReturnsInHanded {} Tryd.checked os 9 .any (fun w args => (Rows.coverAroundSpec.pre enc Tryd.prog Tryd.f9 [] false w args ∧ laidMetH Tryd.prog laidTabs w) ∧ sizedMet enc Tryd.prog Tryd.f9 (OpenSpec.ofChange Rows.coverAroundSpec) false w args)
      (Rows.coverAroundSpec.post enc Tryd.prog Tryd.f9 false true false false) := by
  refine returnsInHanded_of_change_and (C := Tryd.checked) (X := fun w _ => laidMetH Tryd.prog laidTabs w) (fun _ _ _ hh h => h.of_heap hh) own started (by kernel_rfl) Tryd.func9
    (ChangeSpec.witness_shaped (enc := enc) (C := Tryd.checked) (os := os) (X := fun w _ => laidMetH Tryd.prog laidTabs w) false (World.doorLaid Tryd.prog 19 os) #[.slice none 0 0, .slice none 0 0, .int .i64 0] 8 rfl (World.shaped_of_RefB (by kernel_rfl) (by kernel_rfl)) (by kernel_rfl) (by kernel_rfl) (by kernel_rfl) (door_met os _)) ?_
  intro W base args ds gs before hval0 hW _ hsz hL _
  have hval : ∀ (j : Nat) t v, Tryd.f9.params[j]? = some t → args[j]? = some v → Value.okWide Tryd.prog W .any base t v := hval0
  have hW' := hW
  obtain ⟨p, q, hA0, hV, rfl, hfz, hnd⟩ := hW
  have hA : DataW.TrodAll enc Tryd.prog W 0 (fun _ => true) true Tryd.f9.params.toList args.toList ds p := hA0
  rw [Tryd.params9] at hA hval
  obtain ⟨v0, vs0, d0, ds0, p0, q0, hargs, rfl, rfl, h0, r0⟩ := trodAll_cons hA
  obtain ⟨v1, vs1, d1, ds1, p1, q1, rfl, rfl, rfl, h1, r1⟩ := trodAll_cons r0
  obtain ⟨v2, vs2, d2, ds2, p2, q2, rfl, rfl, rfl, h2, r2⟩ := trodAll_cons r1
  obtain ⟨rfl, rfl, rfl⟩ := trodAll_nil r2
  obtain rfl : args = #[v0, v1, v2] := by cases args; simp_all
  obtain ⟨rfl, rfl⟩ := trodVars_none hV
  have k0 := h0
  have lt0 : ∀ x ∈ p0, x.block < W.heap.size := by obtain ⟨m, hm⟩ := k0; exact DataW.trod_lt m _ _ _ hm
  have op0 := open_quads (hval 0 _ v0 rfl rfl) h0
  have k1 := h1
  have lt1 : ∀ x ∈ p1, x.block < W.heap.size := by obtain ⟨m, hm⟩ := k1; exact DataW.trod_lt m _ _ _ hm
  have op1 := open_quads (hval 1 _ v1 rfl rfl) h1
  obtain ⟨a2, rfl, rfl, rfl, w2⟩ := open_int Tryd.underlying3 (hval 2 3 v2 rfl rfl) h2
  clear hA0 hval0
  refine (CoverAround_walk W v0 op0 v1 op1 a2 (isI_of_wf w2) (tab_of_laid hL)).mono fun e W' ⟨he, hE⟩ => ?_
  subst he
  have bel : Below W.heap.size W W' := hE
  exact ⟨_, rfl, _, _, _, [], _, [], hW', trodAll_mk1 (shut_bool Tryd.underlying4 _), (trodAll_cons_mk (Below.trod laidOut (by kernel_rfl) (of_decide_eq_true (by kernel_rfl)) k0 bel lt0) (trodAll_cons_mk (Below.trod laidOut (by kernel_rfl) (of_decide_eq_true (by kernel_rfl)) k1 bel lt1) (trodAll_cons_mk (shut_int Tryd.underlying3 w2) trodAll_mk0))), rfl, bel.frame _, fun h => by cases h⟩

theorem CoverAround_over : Rows.CoverAroundSaid :=
  OpenClaim.holds_of_wide 9 Tryd.f9 rfl rfl rfl rfl rfl rfl rfl ⟨rfl, rfl, rfl, rfl, rfl⟩ rfl rfl rfl rfl rfl (by kernel_rfl) Tryd.func9 (by kernel_rfl)
    (of_decide_eq_true (by kernel_rfl)) (by unfold Func.isWrapper; first | (rw [if_pos (by decide +kernel)]; kernel_rfl) | (rw [if_neg (by decide +kernel)]; exact ⟨rfl, rfl⟩))
    (fun os started H enc _ => CoverAround_lifted os started H enc)

/-- The tied card. -/
theorem CoverAround_holds : Rows.CoverAroundCardSaid :=
  Claim7.holds_tied_plain_at .later [] [.data, .data] true (true, "f3c7cfc24bd30fe2366dd98a5567a6f2f4e716248d39bc96b650dc6c6e3eb102") false
    CoverAround_over (fun _ h => by cases h) (by kernel_rfl) (fun _ h => by cases h) coverAround_row_tie rfl ⟨rfl, rfl⟩ (by kernel_rfl) rfl
    (fun f fn hf hfn => by
      obtain rfl : f = 9 := Option.some.inj ((show Tryd.prog.funcNamed "nadir/nadirlaw16.CoverAround" = some 9 by kernel_rfl).symm.trans hf) |>.symm
      obtain rfl : fn = Tryd.f9 := (Option.some.inj (Tryd.func9.symm.trans hfn)).symm
      exact ⟨by kernel_rfl, fun j t ht => by
        rw [Tryd.params9] at ht
        have hm : t ∈ [22, 22, 3] := by simpa using Array.mem_of_getElem? ht
        have hall : ([22, 22, 3].all fun u => !Tryd.prog.wantsStandIn u) = true := by kernel_rfl
        exact (show Tryd.prog.wantsStandIn t = false by simpa using List.all_eq_true.1 hall t hm)⟩)
    (by kernel_rfl)
#print axioms CoverAround_holds
end Go.Proofs.YtglfoglkdbbmmaaDoor
