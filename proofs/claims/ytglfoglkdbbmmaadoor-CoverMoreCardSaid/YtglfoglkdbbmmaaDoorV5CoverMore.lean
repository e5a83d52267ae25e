/- The statement CoverMore: for every input that the row lists, the law returns true, and every argument reads as it read before. -/
import Derived.Test.YtglfoglkdbbmmaaDoorV4CoverMore
/- The walk of the law CoverMore. -/
namespace Go.Proofs.YtglfoglkdbbmmaaDoor
open Go.RowKit Go.Shelf

namespace Globe
theorem left_sub {a a' : List Int} {l l' : List (List Int)} (ha : validL a = true) (ha' : validL a' = true) (h1 : ∀ x y, x < 48 → y < 24 → hasL a' x y = true → hasL a x y = true)
    (h2 : ∀ b ∈ l, ∃ b' ∈ l', ∀ x y, x < 48 → y < 24 → hasL b x y = true → hasL b' x y = true) : containsB (leftL a l) (leftL a' l') = true :=
  contains_of (left_valid l ha) (left_valid l' ha') fun x y hx hy h => by
    rw [has_left hy] at h ⊢
    obtain ⟨p, q⟩ := Bool.and_eq_true_iff.1 h
    rw [h1 x y hx hy p, Bool.true_and, List.all_eq_true]
    intro b hb
    obtain ⟨b', hb', e⟩ := h2 b hb
    have := List.all_eq_true.1 q b' hb'
    cases hq : hasL b x y
    · rfl
    · rw [e x y hx hy hq] at this; cases this
/-- Strips of which each one stands in the other list, or a greater one. -/
def wider (l l' : List (List Int × List Int)) : Prop := ∀ s ∈ l, ∃ s' ∈ l', (∀ x y, x < 48 → y < 24 → hasL s.1 x y = true → hasL s'.1 x y = true) ∧ ∀ x y, x < 48 → y < 24 → hasL s.2 x y = true → hasL s'.2 x y = true
theorem wider_1 {l l' : List (List Int × List Int)} (h : wider l l') : ∀ b ∈ l.map (fun s => s.1), ∃ b' ∈ l'.map (fun s => s.1), ∀ x y, x < 48 → y < 24 → hasL b x y = true → hasL b' x y = true := fun b hb => by
  obtain ⟨s, hs, rfl⟩ := List.mem_map.1 hb
  obtain ⟨s', hs', e, _⟩ := h s hs
  exact ⟨_, List.mem_map.2 ⟨s', hs', rfl⟩, e⟩
theorem wider_2 {l l' : List (List Int × List Int)} (h : wider l l') : ∀ b ∈ l.map (fun s => s.2), ∃ b' ∈ l'.map (fun s => s.2), ∀ x y, x < 48 → y < 24 → hasL b x y = true → hasL b' x y = true := fun b hb => by
  obtain ⟨s, hs, rfl⟩ := List.mem_map.1 hb
  obtain ⟨s', hs', _, e⟩ := h s hs
  exact ⟨_, List.mem_map.2 ⟨s', hs', rfl⟩, e⟩
theorem wider_app (l : List (List Int × List Int)) (x : List Int × List Int) : wider l (l ++ [x]) := fun s hs => ⟨s, by simp [hs], fun _ _ _ _ h => h, fun _ _ _ _ h => h⟩
theorem wider_set {l : List (List Int × List Int)} {x s0 : List Int × List Int} {k : Nat} (hk : l[k]? = some s0) {b : List Int} : wider l ((l ++ [x]).set k (unionL s0.1 b, unionL s0.2 b)) := fun s hs => by
  obtain ⟨i, hi⟩ := List.mem_iff_getElem?.1 hs
  obtain ⟨hil, -⟩ := List.getElem?_eq_some_iff.1 hi
  by_cases e : k = i
  · subst e
    rw [hk] at hi; cases hi
    refine ⟨_, List.mem_iff_getElem?.2 ⟨k, List.getElem?_set_self (by simp; omega)⟩, fun x y hx hy h => ?_, fun x y hx hy h => ?_⟩
    · rw [has_union hy, h]; rfl
    · rw [has_union hy, h]; rfl
  · exact ⟨s, List.mem_iff_getElem?.2 ⟨i, by rw [List.getElem?_set_ne e, List.getElem?_append_left hil]; exact hi⟩, fun _ _ _ _ h => h, fun _ _ _ _ h => h⟩
theorem ok_app {l : List (List Int × List Int)} (h : stripsOk l = true) (hl : l.length ≤ 9) {x : List Int × List Int} (hx : stripOk x = true) : stripsOk (l ++ [x]) = true := by
  obtain ⟨h1, h2⟩ := stripsOk_t.1 h
  refine stripsOk_t.2 ⟨by rw [List.length_append]; simp; omega, fun s hs => ?_⟩
  rcases List.mem_append.1 hs with hs | hs
  · exact h2 s hs
  · rw [List.mem_singleton.1 hs]; exact hx
theorem ok_set {l : List (List Int × List Int)} (h : stripsOk l = true) {x : List Int × List Int} (hx : stripOk x = true) (k : Nat) : stripsOk (l.set k x) = true := by
  obtain ⟨h1, h2⟩ := stripsOk_t.1 h
  refine stripsOk_t.2 ⟨by rw [List.length_set]; exact h1, fun s hs => ?_⟩
  rcases List.mem_or_eq_of_mem_set hs with hs | rfl
  · exact h2 s hs
  · exact hx
theorem ok_union {a b c : List Int} (h : containsB b a = true) (hc : validL c = true) : stripOk (unionL a c, unionL b c) = true := by
  obtain ⟨vb, va⟩ := contains_v h
  unfold stripOk
  rw [union_valid va hc, Bool.true_and]
  exact contains_of (union_valid vb hc) (union_valid va hc) fun x y hx hy hh => by
    rw [has_union hy] at hh ⊢
    rcases Bool.or_eq_true_iff.1 hh with q | q
    · rw [contains_has h hx hy q]; rfl
    · rw [q, Bool.or_true]
theorem ok_self {l : List (List Int × List Int)} (h : stripsOk l = true) : ∀ b ∈ l.map (fun s => s.1), ∃ b' ∈ l.map (fun s => s.2), ∀ x y, x < 48 → y < 24 → hasL b x y = true → hasL b' x y = true := fun b hb => by
  obtain ⟨s, hs, rfl⟩ := List.mem_map.1 hb
  obtain ⟨_, _, h3⟩ := stripOk_v ((stripsOk_t.1 h).2 s hs)
  exact ⟨s.2, List.mem_map.2 ⟨s, hs, rfl⟩, fun x y hx hy hh => contains_has h3 hx hy hh⟩
theorem same_each (l : List (List Int)) : ∀ b ∈ l, ∃ b' ∈ l, ∀ x y, x < 48 → y < 24 → hasL b x y = true → hasL b' x y = true := fun b hb => ⟨b, hb, fun _ _ _ _ h => h⟩
theorem meet_in {a z : List Int} : ∀ x y, x < 48 → y < 24 → hasL (meetL a z) x y = true → hasL a x y = true := fun x y _ hy h => by rw [has_meet hy] at h; exact (Bool.and_eq_true_iff.1 h).1
end Globe
theorem zeros2 {w : World} {O : Nat} (h : ∀ i, i < 8 → w.cell? ⟨O, i, none⟩ = some (.int .i64 0)) : ∀ j u, ([[Value.int .i64 0, .int .i64 0, .int .i64 0, .int .i64 0], [Value.int .i64 0, .int .i64 0, .int .i64 0, .int .i64 0]] : List (List Value)).flatten[j]? = some u → w.cell? ((⟨O, 0, none⟩ : Addr).add j) = some u := fun j u hu => by
  have hj : j < 8 := by have := (List.getElem?_eq_some_iff.1 hu).1; simpa using this
  rw [Addr.add_mid, Nat.zero_add, h j hj]
  match j, hj with
  | 0, _ | 1, _ | 2, _ | 3, _ | 4, _ | 5, _ | 6, _ | 7, _ => simpa using hu
  | _ + 8, hj => omega
theorem isI_zero : IsI 0 := by unfold IsI; omega
theorem own_strip0 {m n₀ : Nat} {e : TypeId} {w : World} {a : Option Addr} {n c : Nat} {l : List (List Int × List Int)} (h : OwnL (freshR m stripR) n₀ e 2 (.slice a n c) w l) (hl : l.length = n) (hn : 0 < n) :
    ∃ g s T1 t1 f1 T2 t2 f2, a = some ⟨g, 0, none⟩ ∧ l[0]? = some s ∧ w.cell? ⟨g, 0, none⟩ = some (.slice (some ⟨T1, t1, none⟩) 24 f1) ∧ w.cell? ⟨g, 1, none⟩ = some (.slice (some ⟨T2, t2, none⟩) 24 f2) ∧ VA w T1 t1 s.1 ∧ VA w T2 t2 s.2 ∧ m ≤ T1 ∧ m ≤ T2 := by
  subst hl
  obtain ⟨cs, h1, h2, h3, h4⟩ := h
  rcases h3.2 with ⟨_, q⟩ | ⟨g, cap, cur, hv, _⟩
  · omega
  · cases hv
    obtain ⟨d, hd⟩ : ∃ d, cs[0]? = some d := ⟨_, List.getElem?_eq_getElem (by rw [h1]; exact hn)⟩
    have hli := List.getElem?_eq_getElem hn
    obtain ⟨F, ⟨⟨b1, o1, k1, b2, o2, k2, rfl, v1, v2, rfl⟩, hF⟩, _⟩ := h4 0 _ d hli hd
    have f0 := own_cell h3 (j := 0) (by omega) (by simpa using flatten_get h2 0 hd 0 (by omega))
    have f1 := own_cell h3 (j := 1) (by omega) (by simpa using flatten_get h2 0 hd 1 (by omega))
    exact ⟨g, _, b1, o1, k1, b2, o2, k2, rfl, hli, f0, f1, v1, v2, hF _ (by simp), hF _ (by simp)⟩
theorem own_cap {α : Type} {R : Rep α} {n₀ : Nat} {e : TypeId} {size g n cap : Nat} {w : World} {l : List α} (h : OwnL R n₀ e size (.slice (some ⟨g, 0, none⟩) n cap) w l) (hl : l.length = n) : n ≤ cap ∧ cap ≤ 9223372036854775807 := by
  subst hl
  obtain ⟨cs, h1, h2, h3, h4⟩ := h
  rcases h3.2 with ⟨q, _⟩ | ⟨g', cap', cur, q, _, _, h5, h6, _⟩
  · cases q
  · cases q; exact ⟨h5, h6⟩
set_option maxRecDepth 1000000 in
set_option maxHeartbeats 4000000 in
theorem CoverMore_walk (w : World) (v0 : Value) (o0 : Quads w v0) (v1 : Value) (o1 : Quads w v1) (v2 : Value) (o2 : QuadsR w v2) (i3 : Int) (hi3 : IsI i3) (hT : Tab w) :
    Calls Tryd.prog 8 #[v0, v1, v2, .int .i64 i3] w fun e w' => e = .returned (.bool true) ∧ Ext w w' := by
  obtain ⟨a0, n0, c0, q0, rfl, hnc0, hcm0, hz0, Q0⟩ := o0
  obtain ⟨a1, n1, c1, q1, rfl, hnc1, hcm1, hz1, Q1⟩ := o1
  obtain ⟨a2, n2, c2, q2, rfl, hnc2, hcm2, hz2, Q2⟩ := o2
  refine calls_cw 156 [(3, .int .i64 (i3 : Int)), (2, .slice a2 n2 c2), (1, .slice a1 n1 c1), (0, .slice a0 n0 c0)] Tryd.func8 rfl Tryd.ntmps8 (by kernel_rfl) (by kernel_rfl) (fun L => ?_)
  have hE : Ext w w := Ext.refl w
  refine cw_seq ?_
  refine cw_plain ?_
  refine pl_take (.bool false) rfl (by kernel_rfl) (by kernel_rfl) (by kernel_rfl) (by kernel_rfl) ?_
  refine pl_nil ?_
  refine qw_then ?_
  refine cw_seq ?_
  refine cw_seq ?_
  refine cw_plain ?_
  refine pl_step rfl (by kernel_rfl) (by kernel_rfl) (by kernel_rfl) (sn_call (f := 10) (args := #[]) (by kernel_rfl) ((sane_c _ (hT.ext hE)).mono ?_))
  rintro e w1 ⟨rfl, hb⟩
  replace hE := hE.trans hb
  have hs2 := hb.size
  clear hb
  refine ⟨_, rfl, ?_⟩
  refine pl_take (.bool false) rfl (by kernel_rfl) (by kernel_rfl) (by kernel_rfl) (by kernel_rfl) ?_
  refine pl_nil ?_
  refine qw_then ?_
  refine cw_f (by kernel_rfl) ?_
  refine cw_skip ?_
  refine qw_then ?_
  refine cw_seq ?_
  refine cw_plain ?_
  refine pl_take (.slice a0 n0 c0) rfl (by kernel_rfl) (by kernel_rfl) (by kernel_rfl) (by kernel_rfl) ?_
  refine pl_step rfl (by kernel_rfl) (by kernel_rfl) (by kernel_rfl) (sn_call (f := 11) (args := #[.slice a0 n0 c0]) (by kernel_rfl) ((Area_c _ _ Q0 hE (by omega)).mono ?_))
  rintro e w7 ⟨B3, k4, rfl, hn6, v5, hb⟩
  replace hE := hE.trans hb
  have hs8 := hb.size
  clear hb
  have lt9 := v5.lt
  refine ⟨_, rfl, ?_⟩
  refine pl_step rfl (by kernel_rfl) (by kernel_rfl) (by kernel_rfl) (sn_new (us := #[.slice none 0 0]) (t := 25) (by kernel_rfl) ?_)
  intro O10 X11 hO hOs hb hbx
  have hzO10 := hO; have hyO10 := hOs; clear hO hOs
  have bO10_0 : BoxAt X11 O10 0 (.slice none 0 0) := hbx 0 _ rfl
  clear hbx
  replace hE := hE.trans hb
  replace v5 := v5.ext hb
  have hs12 := hb.size
  clear hb
  have lt13 := bO10_0.lt
  refine pl_put rfl (by kernel_rfl) (by kernel_rfl) (sn_set (O := O10) (j := 0) (v := .slice (some ⟨B3, 0, none⟩) 24 k4) (ex_store (p := .pointer (some ⟨O10, 0, none⟩)) (v := .agg #[.slice (some ⟨B3, 0, none⟩) 24 k4]) rfl (by kernel_rfl) (by kernel_rfl) (st25 bO10_0.1 bO10_0.2)) bO10_0 ?_)
  intro X14 ho hv0 hk
  replace hE := ho.ext hE (Nat.le_trans (Nat.le_trans hs2 hs8) (Nat.le_of_eq hzO10))
  replace v5 := ho.va (Nat.ne_of_gt (Nat.lt_of_lt_of_le lt9 (Nat.le_of_eq hzO10))) v5
  have hs15 : X11.heap.size ≤ X14.heap.size := Nat.le_of_eq ho.size.symm
  clear ho hk bO10_0
  have bO10_0 := hv0; clear hv0
  refine pl_nil ?_
  refine qw_then ?_
  refine cw_seq ?_
  refine cw_plain ?_
  refine pl_take (.slice a1 n1 c1) rfl (by kernel_rfl) (by kernel_rfl) (by kernel_rfl) (by kernel_rfl) ?_
  refine pl_step rfl (by kernel_rfl) (by kernel_rfl) (by kernel_rfl) (sn_call (f := 12) (args := #[.slice a1 n1 c1]) (by kernel_rfl) ((Strips_s _ Q1 hE (by omega) (by omega)).mono ?_))
  rintro e w23 ⟨ss16, t17, la18, lc19, rfl, sS20, hok21, ht22, hb⟩
  replace hE := hE.trans hb
  replace v5 := v5.ext hb
  replace bO10_0 := BoxAt.ext hb bO10_0
  have hs24 := hb.size
  clear hb
  have hX25 : Ext w23 w23 := Ext.refl _
  refine ⟨_, rfl, ?_⟩
  refine pl_take (.slice la18 t17 lc19) rfl (by kernel_rfl) (by kernel_rfl) (by kernel_rfl) (by kernel_rfl) ?_
  refine pl_nil ?_
  refine qw_then ?_
  refine cw_seq ?_
  refine cw_plain ?_
  refine pl_take (.agg #[.slice (some ⟨B3, 0, none⟩) 24 k4]) rfl (by kernel_rfl) (by kernel_rfl) (by kernel_rfl) (ex_load rfl (by kernel_rfl) (ld25 (bO10_0.1))) ?_
  refine pl_take (.slice la18 t17 lc19) rfl (by kernel_rfl) (by kernel_rfl) (by kernel_rfl) (by kernel_rfl) ?_
  refine pl_step rfl (by kernel_rfl) (by kernel_rfl) (by kernel_rfl) (sn_call (f := 15) (args := #[.agg #[.slice (some ⟨B3, 0, none⟩) 24 k4], .slice la18 t17 lc19]) (by kernel_rfl) ((Uncovered_v _ _ _ v5 (Ext.refl _) sS20 (Ext.refl _) hok21).mono ?_))
  rintro e w36 ⟨B26, o27, k28, B29, o30, k31, rfl, v32, v33, hn34, hn35, hb⟩
  replace hE := hE.trans hb
  replace hX25 := hX25.trans hb
  replace v5 := v5.ext hb
  replace bO10_0 := BoxAt.ext hb bO10_0
  have hs37 := hb.size
  clear hb
  have lt38 := v32.lt
  have lt39 := v33.lt
  refine ⟨_, rfl, ?_⟩
  refine pl_take (.tuple #[.agg #[.slice (some ⟨B26, o27, none⟩) 24 k28], .agg #[.slice (some ⟨B29, o30, none⟩) 24 k31], .int .i64 0]) rfl (by kernel_rfl) (by kernel_rfl) (by kernel_rfl) (by kernel_rfl) ?_
  refine pl_take (.agg #[.slice (some ⟨B26, o27, none⟩) 24 k28]) rfl (by kernel_rfl) (by kernel_rfl) (by kernel_rfl) (by kernel_rfl) ?_
  refine pl_take (.agg #[.slice (some ⟨B29, o30, none⟩) 24 k31]) rfl (by kernel_rfl) (by kernel_rfl) (by kernel_rfl) (by kernel_rfl) ?_
  refine pl_take (.int .i64 0) rfl (by kernel_rfl) (by kernel_rfl) (by kernel_rfl) (by kernel_rfl) ?_
  refine pl_step rfl (by kernel_rfl) (by kernel_rfl) (by kernel_rfl) (sn_new (us := #[.slice none 0 0]) (t := 25) (by kernel_rfl) ?_)
  intro O40 X41 hO hOs hb hbx
  have hzO40 := hO; have hyO40 := hOs; clear hO hOs
  have bO40_0 : BoxAt X41 O40 0 (.slice none 0 0) := hbx 0 _ rfl
  clear hbx
  replace hE := hE.trans hb
  replace hX25 := hX25.trans hb
  replace v5 := v5.ext hb
  replace bO10_0 := BoxAt.ext hb bO10_0
  replace v32 := v32.ext hb
  replace v33 := v33.ext hb
  have hs42 := hb.size
  clear hb
  have lt43 := bO40_0.lt
  refine pl_step rfl (by kernel_rfl) (by kernel_rfl) (by kernel_rfl) (sn_new (us := #[.slice none 0 0]) (t := 25) (by kernel_rfl) ?_)
  intro O44 X45 hO hOs hb hbx
  have hzO44 := hO; have hyO44 := hOs; clear hO hOs
  have bO44_0 : BoxAt X45 O44 0 (.slice none 0 0) := hbx 0 _ rfl
  clear hbx
  replace hE := hE.trans hb
  replace hX25 := hX25.trans hb
  replace v5 := v5.ext hb
  replace bO10_0 := BoxAt.ext hb bO10_0
  replace v32 := v32.ext hb
  replace v33 := v33.ext hb
  replace bO40_0 := BoxAt.ext hb bO40_0
  have hs46 := hb.size
  clear hb
  have lt47 := bO44_0.lt
  refine pl_put rfl (by kernel_rfl) (by kernel_rfl) (sn_set (O := O40) (j := 0) (v := .slice (some ⟨B26, o27, none⟩) 24 k28) (ex_store (p := .pointer (some ⟨O40, 0, none⟩)) (v := .agg #[.slice (some ⟨B26, o27, none⟩) 24 k28]) rfl (by kernel_rfl) (by kernel_rfl) (st25 bO40_0.1 bO40_0.2)) bO40_0 ?_)
  intro X48 ho hv0 hk
  replace hE := ho.ext hE (Nat.le_trans (Nat.le_trans hs2 (Nat.le_trans hs8 (Nat.le_trans hs12 (Nat.le_trans hs15 (Nat.le_trans hs24 hs37))))) (Nat.le_of_eq hzO40))
  replace hX25 := ho.ext hX25 (Nat.le_trans hs37 (Nat.le_of_eq hzO40))
  replace v5 := ho.va (Nat.ne_of_gt (Nat.lt_of_lt_of_le lt9 (Nat.le_trans (Nat.le_trans hs12 (Nat.le_trans hs15 (Nat.le_trans hs24 hs37))) (Nat.le_of_eq hzO40)))) v5
  replace bO10_0 := ho.box (Nat.ne_of_gt (Nat.lt_of_lt_of_le lt13 (Nat.le_trans (Nat.le_trans hs15 (Nat.le_trans hs24 hs37)) (Nat.le_of_eq hzO40)))) bO10_0
  replace v32 := ho.va (Nat.ne_of_gt (Nat.lt_of_lt_of_le lt38 (Nat.le_of_eq hzO40))) v32
  replace v33 := ho.va (Nat.ne_of_gt (Nat.lt_of_lt_of_le lt39 (Nat.le_of_eq hzO40))) v33
  replace bO44_0 := ho.box (Nat.ne_of_lt (Nat.lt_of_lt_of_le lt43 (Nat.le_of_eq hzO44))) bO44_0
  have hs49 : X45.heap.size ≤ X48.heap.size := Nat.le_of_eq ho.size.symm
  clear ho hk bO40_0
  have bO40_0 := hv0; clear hv0
  refine pl_put rfl (by kernel_rfl) (by kernel_rfl) (sn_set (O := O44) (j := 0) (v := .slice (some ⟨B29, o30, none⟩) 24 k31) (ex_store (p := .pointer (some ⟨O44, 0, none⟩)) (v := .agg #[.slice (some ⟨B29, o30, none⟩) 24 k31]) rfl (by kernel_rfl) (by kernel_rfl) (st25 bO44_0.1 bO44_0.2)) bO44_0 ?_)
  intro X50 ho hv0 hk
  replace hE := ho.ext hE (Nat.le_trans (Nat.le_trans hs2 (Nat.le_trans hs8 (Nat.le_trans hs12 (Nat.le_trans hs15 (Nat.le_trans hs24 (Nat.le_trans hs37 hs42)))))) (Nat.le_of_eq hzO44))
  replace hX25 := ho.ext hX25 (Nat.le_trans (Nat.le_trans hs37 hs42) (Nat.le_of_eq hzO44))
  replace v5 := ho.va (Nat.ne_of_gt (Nat.lt_of_lt_of_le lt9 (Nat.le_trans (Nat.le_trans hs12 (Nat.le_trans hs15 (Nat.le_trans hs24 (Nat.le_trans hs37 hs42)))) (Nat.le_of_eq hzO44)))) v5
  replace bO10_0 := ho.box (Nat.ne_of_gt (Nat.lt_of_lt_of_le lt13 (Nat.le_trans (Nat.le_trans hs15 (Nat.le_trans hs24 (Nat.le_trans hs37 hs42))) (Nat.le_of_eq hzO44)))) bO10_0
  replace v32 := ho.va (Nat.ne_of_gt (Nat.lt_of_lt_of_le lt38 (Nat.le_trans hs42 (Nat.le_of_eq hzO44)))) v32
  replace v33 := ho.va (Nat.ne_of_gt (Nat.lt_of_lt_of_le lt39 (Nat.le_trans hs42 (Nat.le_of_eq hzO44)))) v33
  replace bO40_0 := ho.box (Nat.ne_of_gt (Nat.lt_of_lt_of_le lt43 (Nat.le_of_eq hzO44))) bO40_0
  have hs51 : X48.heap.size ≤ X50.heap.size := Nat.le_of_eq ho.size.symm
  clear ho hk bO44_0
  have bO44_0 := hv0; clear hv0
  refine pl_take (.int .i64 0) rfl (by kernel_rfl) (by kernel_rfl) (by kernel_rfl) (by kernel_rfl) ?_
  refine pl_nil ?_
  refine qw_then ?_
  refine cw_clean [2, 3, 9, 10, 11, 12, 13] (ws' := [(2, .slice a2 n2 c2), (3, .int .i64 (i3 : Int)), (9, .pointer (some ⟨O10, 0, none⟩)), (10, .slice la18 t17 lc19), (11, .pointer (some ⟨O40, 0, none⟩)), (12, .pointer (some ⟨O44, 0, none⟩)), (13, .int .i64 0)]) (by kernel_rfl) (fun L => ?_)
  refine cw_seq ?_
  have hX52 : Ext X50 X50 := Ext.refl _
  refine cw_plain ?_
  refine pl_step rfl (by kernel_rfl) (by kernel_rfl) (by kernel_rfl) (sn_newS0 (t := 28) (by kernel_rfl) ?_)
  intro O53 X54 hO hOs hb hpO53
  have hzO53 := hO; have hyO53 : O53 < X54.heap.size := (by omega); clear hO hOs
  replace hE := hE.trans hb
  replace hX25 := hX25.trans hb
  replace hX52 := hX52.trans hb
  have hs55 := hb.size
  clear hb
  refine pl_take (.slice la18 t17 lc19) rfl (by kernel_rfl) (by kernel_rfl) (by kernel_rfl) (by kernel_rfl) ?_
  obtain ⟨g56, cap57, w58, hrun59, own60, hgr61⟩ := app_strips (ty := 26) (c := lc19) (n₀ := X50.heap.size) hpO53 (Nat.le_of_eq hzO53) (sS20.ext hX25) (by omega) hok21
  refine pl_step rfl (by kernel_rfl) (by kernel_rfl) (by kernel_rfl) (sn_eff (v := .slice (some ⟨g56, 0, none⟩) t17 cap57) (w' := w58) (ex_append rfl (by kernel_rfl) (by kernel_rfl) hrun59) ?_)
  replace hE := hgr61.ext _ hE (Nat.le_trans hs2 (Nat.le_trans hs8 (Nat.le_trans hs12 (Nat.le_trans hs15 (Nat.le_trans hs24 (Nat.le_trans hs37 (Nat.le_trans hs42 (Nat.le_trans hs46 (Nat.le_trans hs49 hs51)))))))))
  replace hX25 := hgr61.ext _ hX25 (Nat.le_trans hs37 (Nat.le_trans hs42 (Nat.le_trans hs46 (Nat.le_trans hs49 hs51))))
  replace hX52 := hgr61.ext _ hX52 (Nat.le_refl _)
  have hs64 := hgr61.size
  have hn62 := own60.base g56 rfl; have lt63 := own60.lt g56 rfl
  have hX65 : Ext w58 w58 := Ext.refl _
  refine pl_step rfl (by kernel_rfl) (by kernel_rfl) (by kernel_rfl) (sn_newS0 (t := 59) (by kernel_rfl) ?_)
  intro O66 X67 hO hOs hb hpO66
  have hzO66 := hO; have hyO66 : O66 < X67.heap.size := (by omega); clear hO hOs
  replace hE := hE.trans hb
  replace hX25 := hX25.trans hb
  replace hX52 := hX52.trans hb
  replace hX65 := hX65.trans hb
  have hs68 := hb.size
  clear hb
  refine pl_take (.slice a2 n2 c2) rfl (by kernel_rfl) (by kernel_rfl) (by kernel_rfl) (by kernel_rfl) ?_
  obtain ⟨g69, cap70, w71, hrun72, own73, hgr74⟩ := app_quads (ty := 22) (c := c2) (n₀ := w58.heap.size) hpO66 (Nat.le_of_eq hzO66) (Q2.ext hE) (by omega)
  refine pl_step rfl (by kernel_rfl) (by kernel_rfl) (by kernel_rfl) (sn_eff (v := .slice (some ⟨g69, 0, none⟩) n2 cap70) (w' := w71) (ex_append rfl (by kernel_rfl) (by kernel_rfl) hrun72) ?_)
  replace hE := hgr74.ext _ hE (Nat.le_trans hs2 (Nat.le_trans hs8 (Nat.le_trans hs12 (Nat.le_trans hs15 (Nat.le_trans hs24 (Nat.le_trans hs37 (Nat.le_trans hs42 (Nat.le_trans hs46 (Nat.le_trans hs49 (Nat.le_trans hs51 (Nat.le_trans hs55 hs64)))))))))))
  replace hX25 := hgr74.ext _ hX25 (Nat.le_trans hs37 (Nat.le_trans hs42 (Nat.le_trans hs46 (Nat.le_trans hs49 (Nat.le_trans hs51 (Nat.le_trans hs55 hs64))))))
  replace hX52 := hgr74.ext _ hX52 (Nat.le_trans hs55 hs64)
  replace hX65 := hgr74.ext _ hX65 (Nat.le_refl _)
  have hs77 := hgr74.size
  have hn75 := own73.base g69 rfl; have lt76 := own73.lt g69 rfl
  have hX78 : Ext w71 w71 := Ext.refl _
  refine pl_take (.agg #[.int .i64 0, .int .i64 0, .int .i64 0, .int .i64 0]) rfl (by kernel_rfl) (by kernel_rfl) (by kernel_rfl) (by kernel_rfl) ?_
  refine pl_take (.agg #[.int .i64 0, .int .i64 0, .int .i64 0, .int .i64 0]) rfl (by kernel_rfl) (by kernel_rfl) (by kernel_rfl) (by kernel_rfl) ?_
  refine pl_step rfl (by kernel_rfl) (by kernel_rfl) (by kernel_rfl) (sn_newS (us := #[.int .i64 0, .int .i64 0, .int .i64 0, .int .i64 0, .int .i64 0, .int .i64 0, .int .i64 0, .int .i64 0]) (t := 59) (k := 2) (c := 2) (by kernel_rfl) ?_)
  intro O79 X80 hO hOs hb hbx
  have hzO79 := hO; have hyO79 := hOs; clear hO hOs
  have bO79_0 : BoxAt X80 O79 0 (.int .i64 0) := hbx 0 _ rfl
  have bO79_1 : BoxAt X80 O79 1 (.int .i64 0) := hbx 1 _ rfl
  have bO79_2 : BoxAt X80 O79 2 (.int .i64 0) := hbx 2 _ rfl
  have bO79_3 : BoxAt X80 O79 3 (.int .i64 0) := hbx 3 _ rfl
  have bO79_4 : BoxAt X80 O79 4 (.int .i64 0) := hbx 4 _ rfl
  have bO79_5 : BoxAt X80 O79 5 (.int .i64 0) := hbx 5 _ rfl
  have bO79_6 : BoxAt X80 O79 6 (.int .i64 0) := hbx 6 _ rfl
  have bO79_7 : BoxAt X80 O79 7 (.int .i64 0) := hbx 7 _ rfl
  clear hbx
  replace hE := hE.trans hb
  replace hX25 := hX25.trans hb
  replace hX52 := hX52.trans hb
  replace hX65 := hX65.trans hb
  replace hX78 := hX78.trans hb
  have hs81 := hb.size
  clear hb
  have lt82 := bO79_0.lt
  have hz91 : ∀ i, i < 8 → X80.cell? ⟨O79, i, none⟩ = some (.int .i64 0) := fun i hi => by match i, hi with | 0, _ => exact bO79_0.1 | 1, _ => exact bO79_1.1 | 2, _ => exact bO79_2.1 | 3, _ => exact bO79_3.1 | 4, _ => exact bO79_4.1 | 5, _ => exact bO79_5.1 | 6, _ => exact bO79_6.1 | 7, _ => exact bO79_7.1 | _ + 8, hi => omega
  obtain ⟨v9, w85, hrun86, hown9, hgr88, hv9, hv0⟩ := own_app (ty := 22) quadT ((own73.ext hX78)) (by have := (Nat.le_trans hs68 (Nat.le_trans hs77 hs81)); omega) (a := ⟨O79, 0, none⟩) (m := 2) (c := 2) (xs := [fun _ => 0, fun _ => 0]) (ds := [[.int .i64 0, .int .i64 0, .int .i64 0, .int .i64 0], [.int .i64 0, .int .i64 0, .int .i64 0, .int .i64 0]]) rfl rfl (by simp) (zeros2 hz91) (by intro dd hd u hu; simp at hd; subst hd; simp at hu; subst hu; rfl) (fun j x dd hx hd => by
    match j, hx, hd with
    | 0, hx, hd => simp at hx hd; subst hx hd; exact ⟨[], ⟨rfl, fun _ _ => isI_zero, rfl⟩, fun b hb => by cases hb⟩
    | 1, hx, hd => simp at hx hd; subst hx hd; exact ⟨[], ⟨rfl, fun _ _ => isI_zero, rfl⟩, fun b hb => by cases hb⟩
    | _ + 2, hx, _ => simp at hx) (by simp; omega) (by simp; omega)
  obtain ⟨g83, cap84, rfl, -⟩ : ∃ g cap, v9 = .slice (some ⟨g, 0, none⟩) (n2 + 2) cap ∧ True := by
    rcases hv9 with rfl | ⟨g, cap, rfl, _⟩
    · have := (hv0 rfl).1; omega
    · exact ⟨g, cap, by simp, trivial⟩
  refine pl_step rfl (by kernel_rfl) (by kernel_rfl) (by kernel_rfl) (sn_eff (v := .slice (some ⟨g83, 0, none⟩) (n2 + 2) cap84) (w' := w85) (ex_append rfl (by kernel_rfl) (by kernel_rfl) hrun86) ?_)
  replace hE := hgr88.ext _ hE (Nat.le_trans hs2 (Nat.le_trans hs8 (Nat.le_trans hs12 (Nat.le_trans hs15 (Nat.le_trans hs24 (Nat.le_trans hs37 (Nat.le_trans hs42 (Nat.le_trans hs46 (Nat.le_trans hs49 (Nat.le_trans hs51 (Nat.le_trans hs55 hs64)))))))))))
  replace hX25 := hgr88.ext _ hX25 (Nat.le_trans hs37 (Nat.le_trans hs42 (Nat.le_trans hs46 (Nat.le_trans hs49 (Nat.le_trans hs51 (Nat.le_trans hs55 hs64))))))
  replace hX52 := hgr88.ext _ hX52 (Nat.le_trans hs55 hs64)
  replace hX65 := hgr88.ext _ hX65 (Nat.le_refl _)
  have hs92 := hgr88.size
  have qz : QAt w85 (some ⟨g83, 0, none⟩) (n2 + 2) (fun i j => ((((List.range n2).map q2 ++ [fun _ => 0, fun _ => 0])[i]?).getD fun _ => 0) j) := hown9.quads (by simp)
  have hn89 := hown9.base g83 rfl; have lt90 := hown9.lt g83 rfl; have hcap := own_cap hown9 (by simp)
  have hX93 : Ext w85 w85 := Ext.refl _
  refine pl_step rfl (by kernel_rfl) (by kernel_rfl) (by kernel_rfl) (sn_call (f := 12) (args := #[.slice (some ⟨g83, 0, none⟩) (n2 + 2) cap84]) (by kernel_rfl) ((Strips_o _ qz (Ext.refl _) hcap.1 hcap.2).mono ?_))
  rintro e w97 ⟨la94, k9, lc95, rfl, hk9, sS96, hb⟩
  replace hE := hE.trans hb
  replace hX25 := hX25.trans hb
  replace hX52 := hX52.trans hb
  replace hX65 := hX65.trans hb
  replace hX93 := hX93.trans hb
  have hs98 := hb.size
  clear hb
  have hX99 : Ext w97 w97 := Ext.refl _
  refine ⟨_, rfl, ?_⟩
  have hl9 : (stripsL (fun i j => ((((List.range n2).map q2 ++ [fun _ => 0, fun _ => 0])[i]?).getD fun _ => 0) j) k9).length = k9 := stripsL_len _ _
  have ok9 : Globe.stripsOk (stripsL (fun i j => ((((List.range n2).map q2 ++ [fun _ => 0, fun _ => 0])[i]?).getD fun _ => 0) j) k9) = true := stripsL_ok _ (by omega)
  obtain ⟨tb, xs9, T1, t1', f1', T2, t2', f2', rfl, hs9, u1, u2, k1, k2, lo1, lo2⟩ := own_strip0 sS96 hl9 (by omega)
  have hx9 : Globe.stripOk xs9 = true := (Globe.stripsOk_t.1 ok9).2 _ (List.mem_of_getElem? hs9)
  have lk1 := k1.lt; have lk2 := k2.lt
  refine pl_take (.pointer (some ⟨tb, 0, none⟩)) rfl (by kernel_rfl) (by kernel_rfl) (by kernel_rfl) (ex_index (p := .slice (some ⟨tb, 0, none⟩) (k9) lc95) (i := .int .i64 ((0 : Nat) : Int)) rfl (by kernel_rfl) (by kernel_rfl) (ix26 (k := 0) (by omega))) ?_
  refine pl_take (.agg #[.slice (some ⟨T1, t1', none⟩) 24 f1', .slice (some ⟨T2, t2', none⟩) 24 f2']) rfl (by kernel_rfl) (by kernel_rfl) (by kernel_rfl) (ex_load rfl (by kernel_rfl) (ld28 (u1) (u2))) ?_
  refine pl_step rfl (by kernel_rfl) (by kernel_rfl) (by kernel_rfl) (sn_newS (us := #[.slice (some ⟨T1, t1', none⟩) 24 f1', .slice (some ⟨T2, t2', none⟩) 24 f2']) (t := 28) (k := 1) (c := 1) (by kernel_rfl) ?_)
  intro O100 X101 hO hOs hb hbx
  have hzO100 := hO; have hyO100 := hOs; clear hO hOs
  have bO100_0 : BoxAt X101 O100 0 (.slice (some ⟨T1, t1', none⟩) 24 f1') := hbx 0 _ rfl
  have bO100_1 : BoxAt X101 O100 1 (.slice (some ⟨T2, t2', none⟩) 24 f2') := hbx 1 _ rfl
  clear hbx
  replace hE := hE.trans hb
  replace hX25 := hX25.trans hb
  replace hX52 := hX52.trans hb
  replace hX65 := hX65.trans hb
  replace hX93 := hX93.trans hb
  replace hX99 := hX99.trans hb
  have hs102 := hb.size
  clear hb
  have lt103 := bO100_0.lt
  have hbk : ∀ b, (.slice (some ⟨g56, 0, none⟩) t17 cap57 : Value).ownBlock = some b → b < w58.heap.size := OwnL.lt own60
  obtain ⟨g112, cap113, w114, hrun115, own116, hgr117⟩ := own_app1 (P := Tryd.prog) (ty := 26) stripT (own60.ext hX65) (Nat.le_trans hs55 (Nat.le_trans hs64 (Nat.le_trans hs68 (Nat.le_trans hs77 (Nat.le_trans hs81 (Nat.le_trans hs92 (Nat.le_trans hs98 hs102))))))) (k := t17) sS20.1 (O := O100) (c := 1) (x := xs9) (d := [.slice (some ⟨T1, t1', none⟩) 24 f1', .slice (some ⟨T2, t2', none⟩) 24 f2']) rfl (cells2 bO100_0.1 bO100_1.1) (by simp [Value.oneCell']) (⟨_, _, _, _, _, _, rfl, (k1.ext hX99), (k2.ext hX99), rfl⟩) (away2 hbk (Nat.le_trans ((Nat.le_trans hs68 (Nat.le_trans hs77 (Nat.le_trans hs81 hs92)))) lo1) (Nat.le_trans ((Nat.le_trans hs68 (Nat.le_trans hs77 (Nat.le_trans hs81 hs92)))) lo2)) (by omega) (by omega)
  refine pl_step rfl (by kernel_rfl) (by kernel_rfl) (by kernel_rfl) (sn_eff (v := .slice (some ⟨g112, 0, none⟩) (t17 + 1) cap113) (w' := w114) (ex_append rfl (by kernel_rfl) (by kernel_rfl) hrun115) ?_)
  replace hE := hgr117.ext _ hE (Nat.le_trans hs2 (Nat.le_trans hs8 (Nat.le_trans hs12 (Nat.le_trans hs15 (Nat.le_trans hs24 (Nat.le_trans hs37 (Nat.le_trans hs42 (Nat.le_trans hs46 (Nat.le_trans hs49 hs51)))))))))
  replace hX25 := hgr117.ext _ hX25 (Nat.le_trans hs37 (Nat.le_trans hs42 (Nat.le_trans hs46 (Nat.le_trans hs49 hs51))))
  replace hX52 := hgr117.ext _ hX52 (Nat.le_refl _)
  have hs118 := hgr117.size
  have hl119 := own116.base g112 rfl; have hh120 := own116.lt g112 rfl
  have hX121 : Ext w114 w114 := Ext.refl _
  have okM : Globe.stripsOk (ss16 ++ [xs9]) = true := Globe.ok_app hok21 (by rw [sS20.1]; omega) hx9
  have lM : (ss16 ++ [xs9]).length = t17 + 1 := by rw [List.length_append, sS20.1]; rfl
  refine pl_take (.slice (some ⟨g112, 0, none⟩) (t17 + 1) cap113) rfl (by kernel_rfl) (by kernel_rfl) (by kernel_rfl) (by kernel_rfl) ?_
  refine pl_nil ?_
  refine qw_then ?_
  refine cw_clean [2, 3, 9, 10, 11, 12, 13, 14] (ws' := [(2, .slice a2 n2 c2), (3, .int .i64 (i3 : Int)), (9, .pointer (some ⟨O10, 0, none⟩)), (10, .slice la18 t17 lc19), (11, .pointer (some ⟨O40, 0, none⟩)), (12, .pointer (some ⟨O44, 0, none⟩)), (13, .int .i64 0), (14, .slice (some ⟨g112, 0, none⟩) (t17 + 1) cap113)]) (by kernel_rfl) (fun L => ?_)
  refine cw_seq ?_
  refine cw_seq ?_
  refine cw_plain ?_
  refine pl_take (.slice la18 t17 lc19) rfl (by kernel_rfl) (by kernel_rfl) (by kernel_rfl) (by kernel_rfl) ?_
  refine pl_take (.int .i64 (((t17 : Nat) : Int) : Int)) rfl (by kernel_rfl) (by kernel_rfl) (by kernel_rfl) (by kernel_rfl) ?_
  by_cases hc122 : (((t17 : Nat) : Int) : Int) > (0 : Int)
  ·
    refine pl_take (.bool true) rfl (by kernel_rfl) (by kernel_rfl) (by kernel_rfl) (ev_dec (show _ = Result.ok (Next.value (Value.bool (decide ((((t17 : Nat) : Int) : Int) > (0 : Int))))) _ from by kernel_rfl) (hc122)) ?_
    refine pl_nil ?_
    refine qw_then ?_
    refine cw_t (by kernel_rfl) ?_
    refine cw_seq ?_
    refine cw_plain ?_
    refine pl_take (.int .i64 (i3 : Int)) rfl (by kernel_rfl) (by kernel_rfl) (by kernel_rfl) (by kernel_rfl) ?_
    refine pl_take (.slice la18 t17 lc19) rfl (by kernel_rfl) (by kernel_rfl) (by kernel_rfl) (by kernel_rfl) ?_
    refine pl_take (.int .i64 (((t17 : Nat) : Int) : Int)) rfl (by kernel_rfl) (by kernel_rfl) (by kernel_rfl) (by kernel_rfl) ?_
    refine pl_step rfl (by kernel_rfl) (by kernel_rfl) (by kernel_rfl) (sn_call (f := 14) (args := #[.int .i64 (i3 : Int), .int .i64 (((t17 : Nat) : Int) : Int)]) (by kernel_rfl) ((pickN_c _ t17 _ hi3 (by omega) (by omega)).mono ?_))
    rintro e w' ⟨kk, rfl, kkl, kkp, rfl⟩
    refine ⟨_, rfl, ?_⟩
    refine pl_take (.int .i64 (((kk : Nat) : Int) : Int)) rfl (by kernel_rfl) (by kernel_rfl) (by kernel_rfl) (by kernel_rfl) ?_
    refine pl_nil ?_
    refine qw_then ?_
    refine cw_clean [2, 9, 10, 11, 12, 13, 14, 15] (ws' := [(2, .slice a2 n2 c2), (9, .pointer (some ⟨O10, 0, none⟩)), (10, .slice la18 t17 lc19), (11, .pointer (some ⟨O40, 0, none⟩)), (12, .pointer (some ⟨O44, 0, none⟩)), (13, .int .i64 0), (14, .slice (some ⟨g112, 0, none⟩) (t17 + 1) cap113), (15, .int .i64 (((kk : Nat) : Int) : Int))]) (by kernel_rfl) (fun L => ?_)
    refine cw_seq ?_
    refine cw_plain ?_
    refine pl_take (.slice a2 n2 c2) rfl (by kernel_rfl) (by kernel_rfl) (by kernel_rfl) (by kernel_rfl) ?_
    refine pl_step rfl (by kernel_rfl) (by kernel_rfl) (by kernel_rfl) (sn_call (f := 11) (args := #[.slice a2 n2 c2]) (by kernel_rfl) ((Area_c _ _ Q2 hE (by omega)).mono ?_))
    rintro e w127 ⟨B123, k124, rfl, hn126, v125, hb⟩
    replace hE := hE.trans hb
    replace hX25 := hX25.trans hb
    replace hX52 := hX52.trans hb
    replace hX121 := hX121.trans hb
    have hs128 := hb.size
    clear hb
    have lt129 := v125.lt
    refine ⟨_, rfl, ?_⟩
    refine pl_step rfl (by kernel_rfl) (by kernel_rfl) (by kernel_rfl) (sn_new (us := #[.slice none 0 0]) (t := 25) (by kernel_rfl) ?_)
    intro O130 X131 hO hOs hb hbx
    have hzO130 := hO; have hyO130 := hOs; clear hO hOs
    have bO130_0 : BoxAt X131 O130 0 (.slice none 0 0) := hbx 0 _ rfl
    clear hbx
    replace hE := hE.trans hb
    replace hX25 := hX25.trans hb
    replace hX52 := hX52.trans hb
    replace hX121 := hX121.trans hb
    replace v125 := v125.ext hb
    have hs132 := hb.size
    clear hb
    have lt133 := bO130_0.lt
    refine pl_put rfl (by kernel_rfl) (by kernel_rfl) (sn_set (O := O130) (j := 0) (v := .slice (some ⟨B123, 0, none⟩) 24 k124) (ex_store (p := .pointer (some ⟨O130, 0, none⟩)) (v := .agg #[.slice (some ⟨B123, 0, none⟩) 24 k124]) rfl (by kernel_rfl) (by kernel_rfl) (st25 bO130_0.1 bO130_0.2)) bO130_0 ?_)
    intro X134 ho hv0 hk
    replace hE := ho.ext hE (Nat.le_trans (Nat.le_trans hs2 (Nat.le_trans hs8 (Nat.le_trans hs12 (Nat.le_trans hs15 (Nat.le_trans hs24 (Nat.le_trans hs37 (Nat.le_trans hs42 (Nat.le_trans hs46 (Nat.le_trans hs49 (Nat.le_trans hs51 (Nat.le_trans hs55 (Nat.le_trans hs64 (Nat.le_trans hs68 (Nat.le_trans hs77 (Nat.le_trans hs81 (Nat.le_trans hs92 (Nat.le_trans hs98 (Nat.le_trans hs102 (Nat.le_trans hs118 hs128))))))))))))))))))) (Nat.le_of_eq hzO130))
    replace hX25 := ho.ext hX25 (Nat.le_trans (Nat.le_trans hs37 (Nat.le_trans hs42 (Nat.le_trans hs46 (Nat.le_trans hs49 (Nat.le_trans hs51 (Nat.le_trans hs55 (Nat.le_trans hs64 (Nat.le_trans hs68 (Nat.le_trans hs77 (Nat.le_trans hs81 (Nat.le_trans hs92 (Nat.le_trans hs98 (Nat.le_trans hs102 (Nat.le_trans hs118 hs128)))))))))))))) (Nat.le_of_eq hzO130))
    replace hX52 := ho.ext hX52 (Nat.le_trans (Nat.le_trans hs55 (Nat.le_trans hs64 (Nat.le_trans hs68 (Nat.le_trans hs77 (Nat.le_trans hs81 (Nat.le_trans hs92 (Nat.le_trans hs98 (Nat.le_trans hs102 (Nat.le_trans hs118 hs128))))))))) (Nat.le_of_eq hzO130))
    replace hX121 := ho.ext hX121 (Nat.le_trans hs128 (Nat.le_of_eq hzO130))
    replace v125 := ho.va (Nat.ne_of_gt (Nat.lt_of_lt_of_le lt129 (Nat.le_of_eq hzO130))) v125
    have hs135 : X131.heap.size ≤ X134.heap.size := Nat.le_of_eq ho.size.symm
    clear ho hk bO130_0
    have bO130_0 := hv0; clear hv0
    refine pl_nil ?_
    refine qw_then ?_
    refine cw_seq ?_
    obtain ⟨sb, so, s, rfl, hs, hst⟩ := sS20.at kkl
    obtain ⟨q1', q2', q3'⟩ := okS_at hok21 hs
    obtain ⟨S1, s1, e1, S2, s2, e2, d1, d2, g1, g2⟩ := hst.v q1' q2'
    refine cw_join (fun ws' Y => ∃ B138 : Nat, ∃ k139 : Nat, ∃ O145 : Nat, ws' = [(2, .slice a2 n2 c2), (9, .pointer (some ⟨O10, 0, none⟩)), (10, .slice (some ⟨sb, so, none⟩) t17 lc19), (11, .pointer (some ⟨O40, 0, none⟩)), (12, .pointer (some ⟨O44, 0, none⟩)), (13, .int .i64 0), (14, .slice (some ⟨g112, 0, none⟩) (t17 + 1) cap113), (15, .int .i64 (((kk : Nat) : Int) : Int)), (16, .pointer (some ⟨O130, 0, none⟩)), (17, .pointer (some ⟨O145, 0, none⟩)), (18, .int .i64 0)] ∧ Ext w Y ∧ Ext w23 Y ∧ Ext X50 Y ∧ Ext w114 Y ∧ VA Y B123 0 (areaL q2 n2) ∧ BoxAt Y O130 0 (.slice (some ⟨B123, 0, none⟩) 24 k124) ∧ VA Y B138 0 (Globe.unionL s.1 (areaL q2 n2)) ∧ BoxAt Y O145 0 (.slice (some ⟨B138, 0, none⟩) 24 k139) ∧ X134.heap.size ≤ Y.heap.size ∧ X134.heap.size ≤ B138 ∧ X134.heap.size ≤ O145 ∧ Hid (B138 ≠ O145)) (fun hJ => ?_) ?_
    ·
      refine cw_draw [(some 67, [10], []), (some 68, [15], []), (some 69, [67, 68], [0, 1]), (some 70, [69], [2]), (some 71, [70], [3]), (some 72, [16], []), (some 73, [71, 72], [4, 5]), (some 66, [73], [6]), (some 74, [66], [7]), (some 75, [66], [7]), (some 17, [], []), (none, [17, 74], [10, 8, 6, 0, 1, 2, 3, 4, 5, 6, 7, 8, 10]), (some 18, [75], [9, 11, 0, 1, 2, 3, 4, 5, 6, 7, 8, 9, 10, 11])] (fun w' => w'.cell? ⟨sb, so + kk * 2, none⟩ = some (.slice (some ⟨S1, s1, none⟩) 24 e1) ∧ w'.cell? ⟨O130, 0, none⟩ = some (.slice (some ⟨B123, 0, none⟩) 24 k124)) (by kernel_rfl) (by kernel_rfl) (by kernel_rfl) (by kernel_rfl) ((calm_then (calm_then calm_body))) (⟨(hX25.cell d1), bO130_0.1⟩) (fun ops Q X136 hb hL hR hK => ?_)
      replace hE := hE.trans hb
      replace hX25 := hX25.trans hb
      replace hX52 := hX52.trans hb
      replace hX121 := hX121.trans hb
      replace v125 := v125.ext hb
      replace bO130_0 := BoxAt.ext hb bO130_0
      have hs137 := hb.size
      clear hb
      refine wd_take 0 (.slice (some ⟨sb, so, none⟩) t17 lc19) hR rfl (by kernel_rfl) rfl (by kernel_rfl) (fun w _ => by kernel_rfl) (⟨(hX25.cell d1), bO130_0.1⟩) ?_
      refine wd_take 1 (.int .i64 (((kk : Nat) : Int) : Int)) hR rfl (by kernel_rfl) rfl (by kernel_rfl) (fun w _ => by kernel_rfl) (⟨(hX25.cell d1), bO130_0.1⟩) ?_
      refine wd_take 2 (.pointer (some ⟨sb, so + kk * 2, none⟩)) hR rfl (by kernel_rfl) rfl (by kernel_rfl) (fun w _ => ex_index (p := .slice (some ⟨sb, so, none⟩) t17 lc19) (i := .int .i64 ((kk : Nat) : Int)) rfl (by kernel_rfl) (by kernel_rfl) (ix26 (k := kk) (by omega))) (⟨(hX25.cell d1), bO130_0.1⟩) ?_
      refine wd_take 3 (.pointer (some ⟨sb, so + kk * 2, none⟩)) hR rfl (by kernel_rfl) rfl (by kernel_rfl) (fun w _ => by kernel_rfl) (⟨(hX25.cell d1), bO130_0.1⟩) ?_
      refine wd_take 4 (.agg #[.slice (some ⟨S1, s1, none⟩) 24 e1]) hR rfl (by kernel_rfl) rfl (by kernel_rfl) (fun w hS => ex_load rfl (by kernel_rfl) (ld25 (hS.1))) (⟨(hX25.cell d1), bO130_0.1⟩) ?_
      refine wd_take 5 (.agg #[.slice (some ⟨B123, 0, none⟩) 24 k124]) hR rfl (by kernel_rfl) rfl (by kernel_rfl) (fun w hS => ex_load rfl (by kernel_rfl) (ld25 (hS.2))) (⟨(hX25.cell d1), bO130_0.1⟩) ?_
      refine wd_two 6 10 hR rfl rfl (by kernel_rfl) (by kernel_rfl) (by kernel_rfl) (by kernel_rfl) ?_ ?_
      ·
        refine sn_call (f := 31) (args := #[.agg #[.slice (some ⟨S1, s1, none⟩) 24 e1], .agg #[.slice (some ⟨B123, 0, none⟩) 24 k124]]) (by kernel_rfl) ((Union_v _ _ _ (g1.ext hX25) (Ext.refl _) v125 (Ext.refl _)).mono ?_)
        rintro e w142 ⟨B138, k139, rfl, hn141, -, v140, hb⟩
        replace hE := hE.trans hb
        replace hX25 := hX25.trans hb
        replace hX52 := hX52.trans hb
        replace hX121 := hX121.trans hb
        replace v125 := v125.ext hb
        replace bO130_0 := BoxAt.ext hb bO130_0
        have hs143 := hb.size
        clear hb
        have lt144 := v140.lt
        refine ⟨_, rfl, ⟨(hX25.cell d1), bO130_0.1⟩, ?_⟩
        refine wd_take 7 (.tuple #[.agg #[.slice (some ⟨B138, 0, none⟩) 24 k139], .int .i64 0]) hR rfl (by kernel_rfl) rfl (by kernel_rfl) (fun w _ => by kernel_rfl) (⟨(hX25.cell d1), bO130_0.1⟩) ?_
        refine wd_take 8 (.agg #[.slice (some ⟨B138, 0, none⟩) 24 k139]) hR rfl (by kernel_rfl) rfl (by kernel_rfl) (fun w _ => by kernel_rfl) (⟨(hX25.cell d1), bO130_0.1⟩) ?_
        refine wd_take 9 (.int .i64 0) hR rfl (by kernel_rfl) rfl (by kernel_rfl) (fun w _ => by kernel_rfl) (⟨(hX25.cell d1), bO130_0.1⟩) ?_
        refine wd_step 10 hR rfl (by kernel_rfl) (by kernel_rfl) (by kernel_rfl) (sn_new (us := #[.slice none 0 0]) (t := 25) (by kernel_rfl) ?_)
        intro O145 X146 hO hOs hb hbx
        have hzO145 := hO; have hyO145 := hOs; clear hO hOs
        have bO145_0 : BoxAt X146 O145 0 (.slice none 0 0) := hbx 0 _ rfl
        clear hbx
        replace hE := hE.trans hb
        replace hX25 := hX25.trans hb
        replace hX52 := hX52.trans hb
        replace hX121 := hX121.trans hb
        replace v125 := v125.ext hb
        replace bO130_0 := BoxAt.ext hb bO130_0
        replace v140 := v140.ext hb
        have hs147 := hb.size
        clear hb
        have lt148 := bO145_0.lt
        refine ⟨⟨(hX25.cell d1), bO130_0.1⟩, ?_⟩
        refine wd_step 11 hR rfl (by kernel_rfl) (by kernel_rfl) (by kernel_rfl) (sn_set (O := O145) (j := 0) (v := .slice (some ⟨B138, 0, none⟩) 24 k139) (ex_store (p := .pointer (some ⟨O145, 0, none⟩)) (v := .agg #[.slice (some ⟨B138, 0, none⟩) 24 k139]) rfl (by kernel_rfl) (by kernel_rfl) (st25 bO145_0.1 bO145_0.2)) bO145_0 ?_)
        intro X149 ho hv0 hk
        replace hE := ho.ext hE (Nat.le_trans (Nat.le_trans hs2 (Nat.le_trans hs8 (Nat.le_trans hs12 (Nat.le_trans hs15 (Nat.le_trans hs24 (Nat.le_trans hs37 (Nat.le_trans hs42 (Nat.le_trans hs46 (Nat.le_trans hs49 (Nat.le_trans hs51 (Nat.le_trans hs55 (Nat.le_trans hs64 (Nat.le_trans hs68 (Nat.le_trans hs77 (Nat.le_trans hs81 (Nat.le_trans hs92 (Nat.le_trans hs98 (Nat.le_trans hs102 (Nat.le_trans hs118 (Nat.le_trans hs128 (Nat.le_trans hs132 (Nat.le_trans hs135 (Nat.le_trans hs137 hs143))))))))))))))))))))))) (Nat.le_of_eq hzO145))
        replace hX25 := ho.ext hX25 (Nat.le_trans (Nat.le_trans hs37 (Nat.le_trans hs42 (Nat.le_trans hs46 (Nat.le_trans hs49 (Nat.le_trans hs51 (Nat.le_trans hs55 (Nat.le_trans hs64 (Nat.le_trans hs68 (Nat.le_trans hs77 (Nat.le_trans hs81 (Nat.le_trans hs92 (Nat.le_trans hs98 (Nat.le_trans hs102 (Nat.le_trans hs118 (Nat.le_trans hs128 (Nat.le_trans hs132 (Nat.le_trans hs135 (Nat.le_trans hs137 hs143)))))))))))))))))) (Nat.le_of_eq hzO145))
        replace hX52 := ho.ext hX52 (Nat.le_trans (Nat.le_trans hs55 (Nat.le_trans hs64 (Nat.le_trans hs68 (Nat.le_trans hs77 (Nat.le_trans hs81 (Nat.le_trans hs92 (Nat.le_trans hs98 (Nat.le_trans hs102 (Nat.le_trans hs118 (Nat.le_trans hs128 (Nat.le_trans hs132 (Nat.le_trans hs135 (Nat.le_trans hs137 hs143))))))))))))) (Nat.le_of_eq hzO145))
        replace hX121 := ho.ext hX121 (Nat.le_trans (Nat.le_trans hs128 (Nat.le_trans hs132 (Nat.le_trans hs135 (Nat.le_trans hs137 hs143)))) (Nat.le_of_eq hzO145))
        replace v125 := ho.va (Nat.ne_of_gt (Nat.lt_of_lt_of_le lt129 (Nat.le_trans (Nat.le_trans hs132 (Nat.le_trans hs135 (Nat.le_trans hs137 hs143))) (Nat.le_of_eq hzO145)))) v125
        replace bO130_0 := ho.box (Nat.ne_of_gt (Nat.lt_of_lt_of_le lt133 (Nat.le_trans (Nat.le_trans hs135 (Nat.le_trans hs137 hs143)) (Nat.le_of_eq hzO145)))) bO130_0
        replace v140 := ho.va (Nat.ne_of_gt (Nat.lt_of_lt_of_le lt144 (Nat.le_of_eq hzO145))) v140
        have hs150 : X146.heap.size ≤ X149.heap.size := Nat.le_of_eq ho.size.symm
        clear ho hk bO145_0
        have bO145_0 := hv0; clear hv0
        refine ⟨⟨(hX25.cell d1), bO130_0.1⟩, ?_⟩
        refine wd_take 12 (.int .i64 0) hR rfl (by kernel_rfl) rfl (by kernel_rfl) (fun w _ => by kernel_rfl) (⟨(hX25.cell d1), bO130_0.1⟩) ?_
        refine wd_end hL hR hK (by kernel_rfl) ?_
        exact qw_leaf hJ [2, 9, 10, 11, 12, 13, 14, 15, 16, 17, 18] (ws' := [(2, .slice a2 n2 c2), (9, .pointer (some ⟨O10, 0, none⟩)), (10, .slice (some ⟨sb, so, none⟩) t17 lc19), (11, .pointer (some ⟨O40, 0, none⟩)), (12, .pointer (some ⟨O44, 0, none⟩)), (13, .int .i64 0), (14, .slice (some ⟨g112, 0, none⟩) (t17 + 1) cap113), (15, .int .i64 (((kk : Nat) : Int) : Int)), (16, .pointer (some ⟨O130, 0, none⟩)), (17, .pointer (some ⟨O145, 0, none⟩)), (18, .int .i64 0)]) (by kernel_rfl) ⟨B138, k139, O145, rfl, hE, hX25, hX52, hX121, v125, bO130_0, v140, bO145_0, (Nat.le_trans hs137 (Nat.le_trans hs143 (Nat.le_trans hs147 hs150))), (Nat.le_trans hs137 hn141), (Nat.le_trans (Nat.le_trans hs137 hs143) (Nat.le_of_eq hzO145)), Lib.hid (Nat.ne_of_lt (Nat.lt_of_lt_of_le lt144 (Nat.le_of_eq hzO145)))⟩
      ·
        refine sn_new (us := #[.slice none 0 0]) (t := 25) (by kernel_rfl) ?_
        intro O151 X152 hO hOs hb hbx
        have hzO151 := hO; have hyO151 := hOs; clear hO hOs
        have bO151_0 : BoxAt X152 O151 0 (.slice none 0 0) := hbx 0 _ rfl
        clear hbx
        replace hE := hE.trans hb
        replace hX25 := hX25.trans hb
        replace hX52 := hX52.trans hb
        replace hX121 := hX121.trans hb
        replace v125 := v125.ext hb
        replace bO130_0 := BoxAt.ext hb bO130_0
        have hs153 := hb.size
        clear hb
        have lt154 := bO151_0.lt
        refine ⟨⟨(hX25.cell d1), bO130_0.1⟩, ?_⟩
        refine wd_step 6 hR rfl (by kernel_rfl) (by kernel_rfl) (by kernel_rfl) (sn_call (f := 31) (args := #[.agg #[.slice (some ⟨S1, s1, none⟩) 24 e1], .agg #[.slice (some ⟨B123, 0, none⟩) 24 k124]]) (by kernel_rfl) ((Union_v _ _ _ (g1.ext hX25) (Ext.refl _) v125 (Ext.refl _)).mono ?_))
        rintro e w159 ⟨B155, k156, rfl, hn158, -, v157, hb⟩
        replace hE := hE.trans hb
        replace hX25 := hX25.trans hb
        replace hX52 := hX52.trans hb
        replace hX121 := hX121.trans hb
        replace v125 := v125.ext hb
        replace bO130_0 := BoxAt.ext hb bO130_0
        replace bO151_0 := BoxAt.ext hb bO151_0
        have hs160 := hb.size
        clear hb
        have lt161 := v157.lt
        refine ⟨_, rfl, ⟨(hX25.cell d1), bO130_0.1⟩, ?_⟩
        refine wd_take 7 (.tuple #[.agg #[.slice (some ⟨B155, 0, none⟩) 24 k156], .int .i64 0]) hR rfl (by kernel_rfl) rfl (by kernel_rfl) (fun w _ => by kernel_rfl) (⟨(hX25.cell d1), bO130_0.1⟩) ?_
        refine wd_take 8 (.agg #[.slice (some ⟨B155, 0, none⟩) 24 k156]) hR rfl (by kernel_rfl) rfl (by kernel_rfl) (fun w _ => by kernel_rfl) (⟨(hX25.cell d1), bO130_0.1⟩) ?_
        refine wd_take 9 (.int .i64 0) hR rfl (by kernel_rfl) rfl (by kernel_rfl) (fun w _ => by kernel_rfl) (⟨(hX25.cell d1), bO130_0.1⟩) ?_
        refine wd_step 11 hR rfl (by kernel_rfl) (by kernel_rfl) (by kernel_rfl) (sn_set (O := O151) (j := 0) (v := .slice (some ⟨B155, 0, none⟩) 24 k156) (ex_store (p := .pointer (some ⟨O151, 0, none⟩)) (v := .agg #[.slice (some ⟨B155, 0, none⟩) 24 k156]) rfl (by kernel_rfl) (by kernel_rfl) (st25 bO151_0.1 bO151_0.2)) bO151_0 ?_)
        intro X162 ho hv0 hk
        replace hE := ho.ext hE (Nat.le_trans (Nat.le_trans hs2 (Nat.le_trans hs8 (Nat.le_trans hs12 (Nat.le_trans hs15 (Nat.le_trans hs24 (Nat.le_trans hs37 (Nat.le_trans hs42 (Nat.le_trans hs46 (Nat.le_trans hs49 (Nat.le_trans hs51 (Nat.le_trans hs55 (Nat.le_trans hs64 (Nat.le_trans hs68 (Nat.le_trans hs77 (Nat.le_trans hs81 (Nat.le_trans hs92 (Nat.le_trans hs98 (Nat.le_trans hs102 (Nat.le_trans hs118 (Nat.le_trans hs128 (Nat.le_trans hs132 (Nat.le_trans hs135 hs137)))))))))))))))))))))) (Nat.le_of_eq hzO151))
        replace hX25 := ho.ext hX25 (Nat.le_trans (Nat.le_trans hs37 (Nat.le_trans hs42 (Nat.le_trans hs46 (Nat.le_trans hs49 (Nat.le_trans hs51 (Nat.le_trans hs55 (Nat.le_trans hs64 (Nat.le_trans hs68 (Nat.le_trans hs77 (Nat.le_trans hs81 (Nat.le_trans hs92 (Nat.le_trans hs98 (Nat.le_trans hs102 (Nat.le_trans hs118 (Nat.le_trans hs128 (Nat.le_trans hs132 (Nat.le_trans hs135 hs137))))))))))))))))) (Nat.le_of_eq hzO151))
        replace hX52 := ho.ext hX52 (Nat.le_trans (Nat.le_trans hs55 (Nat.le_trans hs64 (Nat.le_trans hs68 (Nat.le_trans hs77 (Nat.le_trans hs81 (Nat.le_trans hs92 (Nat.le_trans hs98 (Nat.le_trans hs102 (Nat.le_trans hs118 (Nat.le_trans hs128 (Nat.le_trans hs132 (Nat.le_trans hs135 hs137)))))))))))) (Nat.le_of_eq hzO151))
        replace hX121 := ho.ext hX121 (Nat.le_trans (Nat.le_trans hs128 (Nat.le_trans hs132 (Nat.le_trans hs135 hs137))) (Nat.le_of_eq hzO151))
        replace v125 := ho.va (Nat.ne_of_gt (Nat.lt_of_lt_of_le lt129 (Nat.le_trans (Nat.le_trans hs132 (Nat.le_trans hs135 hs137)) (Nat.le_of_eq hzO151)))) v125
        replace bO130_0 := ho.box (Nat.ne_of_gt (Nat.lt_of_lt_of_le lt133 (Nat.le_trans (Nat.le_trans hs135 hs137) (Nat.le_of_eq hzO151)))) bO130_0
        replace v157 := ho.va (Nat.ne_of_lt (Nat.lt_of_lt_of_le lt154 hn158)) v157
        have hs163 : w159.heap.size ≤ X162.heap.size := Nat.le_of_eq ho.size.symm
        clear ho hk bO151_0
        have bO151_0 := hv0; clear hv0
        refine ⟨⟨(hX25.cell d1), bO130_0.1⟩, ?_⟩
        refine wd_take 12 (.int .i64 0) hR rfl (by kernel_rfl) rfl (by kernel_rfl) (fun w _ => by kernel_rfl) (⟨(hX25.cell d1), bO130_0.1⟩) ?_
        refine wd_end hL hR hK (by kernel_rfl) ?_
        exact qw_leaf hJ [2, 9, 10, 11, 12, 13, 14, 15, 16, 17, 18] (ws' := [(2, .slice a2 n2 c2), (9, .pointer (some ⟨O10, 0, none⟩)), (10, .slice (some ⟨sb, so, none⟩) t17 lc19), (11, .pointer (some ⟨O40, 0, none⟩)), (12, .pointer (some ⟨O44, 0, none⟩)), (13, .int .i64 0), (14, .slice (some ⟨g112, 0, none⟩) (t17 + 1) cap113), (15, .int .i64 (((kk : Nat) : Int) : Int)), (16, .pointer (some ⟨O130, 0, none⟩)), (17, .pointer (some ⟨O151, 0, none⟩)), (18, .int .i64 0)]) (by kernel_rfl) ⟨B155, k156, O151, rfl, hE, hX25, hX52, hX121, v125, bO130_0, v157, bO151_0, (Nat.le_trans hs137 (Nat.le_trans hs153 (Nat.le_trans hs160 hs163))), (Nat.le_trans (Nat.le_trans hs137 hs153) hn158), (Nat.le_trans hs137 (Nat.le_of_eq hzO151)), Lib.hid (Nat.ne_of_gt (Nat.lt_of_lt_of_le lt154 hn158))⟩
    ·
      clear v125 bO130_0 hE hX25 hX52 hX121
      rintro L ws Y164 ⟨B138, k139, O145, rfl, hE, hX25, hX52, hX121, v125, bO130_0, v140, bO145_0, hn165, hn166, hn167, hn168⟩
      have lt169 := v140.lt
      have lt170 := bO145_0.lt
      refine qw_then ?_
      refine cw_seq ?_
      refine cw_join (fun ws' Y => ∃ B173 : Nat, ∃ k174 : Nat, ∃ O180 : Nat, ws' = [(2, .slice a2 n2 c2), (9, .pointer (some ⟨O10, 0, none⟩)), (10, .slice (some ⟨sb, so, none⟩) t17 lc19), (11, .pointer (some ⟨O40, 0, none⟩)), (12, .pointer (some ⟨O44, 0, none⟩)), (13, .int .i64 0), (14, .slice (some ⟨g112, 0, none⟩) (t17 + 1) cap113), (15, .int .i64 (((kk : Nat) : Int) : Int)), (17, .pointer (some ⟨O145, 0, none⟩)), (18, .int .i64 0), (19, .pointer (some ⟨O180, 0, none⟩)), (20, .int .i64 0)] ∧ Ext w Y ∧ Ext w23 Y ∧ Ext X50 Y ∧ Ext w114 Y ∧ VA Y B123 0 (areaL q2 n2) ∧ BoxAt Y O130 0 (.slice (some ⟨B123, 0, none⟩) 24 k124) ∧ VA Y B138 0 (Globe.unionL s.1 (areaL q2 n2)) ∧ BoxAt Y O145 0 (.slice (some ⟨B138, 0, none⟩) 24 k139) ∧ VA Y B173 0 (Globe.unionL s.2 (areaL q2 n2)) ∧ BoxAt Y O180 0 (.slice (some ⟨B173, 0, none⟩) 24 k174) ∧ Y164.heap.size ≤ Y.heap.size ∧ Y164.heap.size ≤ B173 ∧ Y164.heap.size ≤ O180 ∧ Hid (B173 ≠ O180)) (fun hJ => ?_) ?_
      ·
        refine cw_draw [(some 77, [10], []), (some 78, [15], []), (some 79, [77, 78], [0, 1]), (some 80, [79], [2]), (some 81, [80], [3]), (some 82, [16], []), (some 83, [81, 82], [4, 5]), (some 76, [83], [6]), (some 84, [76], [7]), (some 85, [76], [7]), (some 19, [], []), (none, [19, 84], [10, 8, 6, 0, 1, 2, 3, 4, 5, 6, 7, 8, 10]), (some 20, [85], [9, 11, 0, 1, 2, 3, 4, 5, 6, 7, 8, 9, 10, 11])] (fun w' => w'.cell? ⟨sb, so + kk * 2 + 1, none⟩ = some (.slice (some ⟨S2, s2, none⟩) 24 e2) ∧ w'.cell? ⟨O130, 0, none⟩ = some (.slice (some ⟨B123, 0, none⟩) 24 k124)) (by kernel_rfl) (by kernel_rfl) (by kernel_rfl) (by kernel_rfl) ((calm_then (calm_then calm_body))) (⟨(hX25.cell d2), bO130_0.1⟩) (fun ops Q X171 hb hL hR hK => ?_)
        replace hE := hE.trans hb
        replace hX25 := hX25.trans hb
        replace hX52 := hX52.trans hb
        replace hX121 := hX121.trans hb
        replace v125 := v125.ext hb
        replace bO130_0 := BoxAt.ext hb bO130_0
        replace v140 := v140.ext hb
        replace bO145_0 := BoxAt.ext hb bO145_0
        have hs172 := hb.size
        clear hb
        refine wd_take 0 (.slice (some ⟨sb, so, none⟩) t17 lc19) hR rfl (by kernel_rfl) rfl (by kernel_rfl) (fun w _ => by kernel_rfl) (⟨(hX25.cell d2), bO130_0.1⟩) ?_
        refine wd_take 1 (.int .i64 (((kk : Nat) : Int) : Int)) hR rfl (by kernel_rfl) rfl (by kernel_rfl) (fun w _ => by kernel_rfl) (⟨(hX25.cell d2), bO130_0.1⟩) ?_
        refine wd_take 2 (.pointer (some ⟨sb, so + kk * 2, none⟩)) hR rfl (by kernel_rfl) rfl (by kernel_rfl) (fun w _ => ex_index (p := .slice (some ⟨sb, so, none⟩) t17 lc19) (i := .int .i64 ((kk : Nat) : Int)) rfl (by kernel_rfl) (by kernel_rfl) (ix26 (k := kk) (by omega))) (⟨(hX25.cell d2), bO130_0.1⟩) ?_
        refine wd_take 3 (.pointer (some ⟨sb, so + kk * 2 + 1, none⟩)) hR rfl (by kernel_rfl) rfl (by kernel_rfl) (fun w _ => by kernel_rfl) (⟨(hX25.cell d2), bO130_0.1⟩) ?_
        refine wd_take 4 (.agg #[.slice (some ⟨S2, s2, none⟩) 24 e2]) hR rfl (by kernel_rfl) rfl (by kernel_rfl) (fun w hS => ex_load rfl (by kernel_rfl) (ld25 (hS.1))) (⟨(hX25.cell d2), bO130_0.1⟩) ?_
        refine wd_take 5 (.agg #[.slice (some ⟨B123, 0, none⟩) 24 k124]) hR rfl (by kernel_rfl) rfl (by kernel_rfl) (fun w hS => ex_load rfl (by kernel_rfl) (ld25 (hS.2))) (⟨(hX25.cell d2), bO130_0.1⟩) ?_
        refine wd_two 6 10 hR rfl rfl (by kernel_rfl) (by kernel_rfl) (by kernel_rfl) (by kernel_rfl) ?_ ?_
        ·
          refine sn_call (f := 31) (args := #[.agg #[.slice (some ⟨S2, s2, none⟩) 24 e2], .agg #[.slice (some ⟨B123, 0, none⟩) 24 k124]]) (by kernel_rfl) ((Union_v _ _ _ (g2.ext hX25) (Ext.refl _) v125 (Ext.refl _)).mono ?_)
          rintro e w177 ⟨B173, k174, rfl, hn176, -, v175, hb⟩
          replace hE := hE.trans hb
          replace hX25 := hX25.trans hb
          replace hX52 := hX52.trans hb
          replace hX121 := hX121.trans hb
          replace v125 := v125.ext hb
          replace bO130_0 := BoxAt.ext hb bO130_0
          replace v140 := v140.ext hb
          replace bO145_0 := BoxAt.ext hb bO145_0
          have hs178 := hb.size
          clear hb
          have lt179 := v175.lt
          refine ⟨_, rfl, ⟨(hX25.cell d2), bO130_0.1⟩, ?_⟩
          refine wd_take 7 (.tuple #[.agg #[.slice (some ⟨B173, 0, none⟩) 24 k174], .int .i64 0]) hR rfl (by kernel_rfl) rfl (by kernel_rfl) (fun w _ => by kernel_rfl) (⟨(hX25.cell d2), bO130_0.1⟩) ?_
          refine wd_take 8 (.agg #[.slice (some ⟨B173, 0, none⟩) 24 k174]) hR rfl (by kernel_rfl) rfl (by kernel_rfl) (fun w _ => by kernel_rfl) (⟨(hX25.cell d2), bO130_0.1⟩) ?_
          refine wd_take 9 (.int .i64 0) hR rfl (by kernel_rfl) rfl (by kernel_rfl) (fun w _ => by kernel_rfl) (⟨(hX25.cell d2), bO130_0.1⟩) ?_
          refine wd_step 10 hR rfl (by kernel_rfl) (by kernel_rfl) (by kernel_rfl) (sn_new (us := #[.slice none 0 0]) (t := 25) (by kernel_rfl) ?_)
          intro O180 X181 hO hOs hb hbx
          have hzO180 := hO; have hyO180 := hOs; clear hO hOs
          have bO180_0 : BoxAt X181 O180 0 (.slice none 0 0) := hbx 0 _ rfl
          clear hbx
          replace hE := hE.trans hb
          replace hX25 := hX25.trans hb
          replace hX52 := hX52.trans hb
          replace hX121 := hX121.trans hb
          replace v125 := v125.ext hb
          replace bO130_0 := BoxAt.ext hb bO130_0
          replace v140 := v140.ext hb
          replace bO145_0 := BoxAt.ext hb bO145_0
          replace v175 := v175.ext hb
          have hs182 := hb.size
          clear hb
          have lt183 := bO180_0.lt
          refine ⟨⟨(hX25.cell d2), bO130_0.1⟩, ?_⟩
          refine wd_step 11 hR rfl (by kernel_rfl) (by kernel_rfl) (by kernel_rfl) (sn_set (O := O180) (j := 0) (v := .slice (some ⟨B173, 0, none⟩) 24 k174) (ex_store (p := .pointer (some ⟨O180, 0, none⟩)) (v := .agg #[.slice (some ⟨B173, 0, none⟩) 24 k174]) rfl (by kernel_rfl) (by kernel_rfl) (st25 bO180_0.1 bO180_0.2)) bO180_0 ?_)
          intro X184 ho hv0 hk
          replace hE := ho.ext hE (Nat.le_trans (Nat.le_trans hs2 (Nat.le_trans hs8 (Nat.le_trans hs12 (Nat.le_trans hs15 (Nat.le_trans hs24 (Nat.le_trans hs37 (Nat.le_trans hs42 (Nat.le_trans hs46 (Nat.le_trans hs49 (Nat.le_trans hs51 (Nat.le_trans hs55 (Nat.le_trans hs64 (Nat.le_trans hs68 (Nat.le_trans hs77 (Nat.le_trans hs81 (Nat.le_trans hs92 (Nat.le_trans hs98 (Nat.le_trans hs102 (Nat.le_trans hs118 (Nat.le_trans hs128 (Nat.le_trans hs132 (Nat.le_trans hs135 (Nat.le_trans hn165 (Nat.le_trans hs172 hs178)))))))))))))))))))))))) (Nat.le_of_eq hzO180))
          replace hX25 := ho.ext hX25 (Nat.le_trans (Nat.le_trans hs37 (Nat.le_trans hs42 (Nat.le_trans hs46 (Nat.le_trans hs49 (Nat.le_trans hs51 (Nat.le_trans hs55 (Nat.le_trans hs64 (Nat.le_trans hs68 (Nat.le_trans hs77 (Nat.le_trans hs81 (Nat.le_trans hs92 (Nat.le_trans hs98 (Nat.le_trans hs102 (Nat.le_trans hs118 (Nat.le_trans hs128 (Nat.le_trans hs132 (Nat.le_trans hs135 (Nat.le_trans hn165 (Nat.le_trans hs172 hs178))))))))))))))))))) (Nat.le_of_eq hzO180))
          replace hX52 := ho.ext hX52 (Nat.le_trans (Nat.le_trans hs55 (Nat.le_trans hs64 (Nat.le_trans hs68 (Nat.le_trans hs77 (Nat.le_trans hs81 (Nat.le_trans hs92 (Nat.le_trans hs98 (Nat.le_trans hs102 (Nat.le_trans hs118 (Nat.le_trans hs128 (Nat.le_trans hs132 (Nat.le_trans hs135 (Nat.le_trans hn165 (Nat.le_trans hs172 hs178)))))))))))))) (Nat.le_of_eq hzO180))
          replace hX121 := ho.ext hX121 (Nat.le_trans (Nat.le_trans hs128 (Nat.le_trans hs132 (Nat.le_trans hs135 (Nat.le_trans hn165 (Nat.le_trans hs172 hs178))))) (Nat.le_of_eq hzO180))
          replace v125 := ho.va (Nat.ne_of_gt (Nat.lt_of_lt_of_le lt129 (Nat.le_trans (Nat.le_trans hs132 (Nat.le_trans hs135 (Nat.le_trans hn165 (Nat.le_trans hs172 hs178)))) (Nat.le_of_eq hzO180)))) v125
          replace bO130_0 := ho.box (Nat.ne_of_gt (Nat.lt_of_lt_of_le lt133 (Nat.le_trans (Nat.le_trans hs135 (Nat.le_trans hn165 (Nat.le_trans hs172 hs178))) (Nat.le_of_eq hzO180)))) bO130_0
          replace v140 := ho.va (Nat.ne_of_gt (Nat.lt_of_lt_of_le lt169 (Nat.le_trans (Nat.le_trans hs172 hs178) (Nat.le_of_eq hzO180)))) v140
          replace bO145_0 := ho.box (Nat.ne_of_gt (Nat.lt_of_lt_of_le lt170 (Nat.le_trans (Nat.le_trans hs172 hs178) (Nat.le_of_eq hzO180)))) bO145_0
          replace v175 := ho.va (Nat.ne_of_gt (Nat.lt_of_lt_of_le lt179 (Nat.le_of_eq hzO180))) v175
          have hs185 : X181.heap.size ≤ X184.heap.size := Nat.le_of_eq ho.size.symm
          clear ho hk bO180_0
          have bO180_0 := hv0; clear hv0
          refine ⟨⟨(hX25.cell d2), bO130_0.1⟩, ?_⟩
          refine wd_take 12 (.int .i64 0) hR rfl (by kernel_rfl) rfl (by kernel_rfl) (fun w _ => by kernel_rfl) (⟨(hX25.cell d2), bO130_0.1⟩) ?_
          refine wd_end hL hR hK (by kernel_rfl) ?_
          exact qw_leaf hJ [2, 9, 10, 11, 12, 13, 14, 15, 17, 18, 19, 20] (ws' := [(2, .slice a2 n2 c2), (9, .pointer (some ⟨O10, 0, none⟩)), (10, .slice (some ⟨sb, so, none⟩) t17 lc19), (11, .pointer (some ⟨O40, 0, none⟩)), (12, .pointer (some ⟨O44, 0, none⟩)), (13, .int .i64 0), (14, .slice (some ⟨g112, 0, none⟩) (t17 + 1) cap113), (15, .int .i64 (((kk : Nat) : Int) : Int)), (17, .pointer (some ⟨O145, 0, none⟩)), (18, .int .i64 0), (19, .pointer (some ⟨O180, 0, none⟩)), (20, .int .i64 0)]) (by kernel_rfl) ⟨B173, k174, O180, rfl, hE, hX25, hX52, hX121, v125, bO130_0, v140, bO145_0, v175, bO180_0, (Nat.le_trans hs172 (Nat.le_trans hs178 (Nat.le_trans hs182 hs185))), (Nat.le_trans hs172 hn176), (Nat.le_trans (Nat.le_trans hs172 hs178) (Nat.le_of_eq hzO180)), Lib.hid (Nat.ne_of_lt (Nat.lt_of_lt_of_le lt179 (Nat.le_of_eq hzO180)))⟩
        ·
          refine sn_new (us := #[.slice none 0 0]) (t := 25) (by kernel_rfl) ?_
          intro O186 X187 hO hOs hb hbx
          have hzO186 := hO; have hyO186 := hOs; clear hO hOs
          have bO186_0 : BoxAt X187 O186 0 (.slice none 0 0) := hbx 0 _ rfl
          clear hbx
          replace hE := hE.trans hb
          replace hX25 := hX25.trans hb
          replace hX52 := hX52.trans hb
          replace hX121 := hX121.trans hb
          replace v125 := v125.ext hb
          replace bO130_0 := BoxAt.ext hb bO130_0
          replace v140 := v140.ext hb
          replace bO145_0 := BoxAt.ext hb bO145_0
          have hs188 := hb.size
          clear hb
          have lt189 := bO186_0.lt
          refine ⟨⟨(hX25.cell d2), bO130_0.1⟩, ?_⟩
          refine wd_step 6 hR rfl (by kernel_rfl) (by kernel_rfl) (by kernel_rfl) (sn_call (f := 31) (args := #[.agg #[.slice (some ⟨S2, s2, none⟩) 24 e2], .agg #[.slice (some ⟨B123, 0, none⟩) 24 k124]]) (by kernel_rfl) ((Union_v _ _ _ (g2.ext hX25) (Ext.refl _) v125 (Ext.refl _)).mono ?_))
          rintro e w194 ⟨B190, k191, rfl, hn193, -, v192, hb⟩
          replace hE := hE.trans hb
          replace hX25 := hX25.trans hb
          replace hX52 := hX52.trans hb
          replace hX121 := hX121.trans hb
          replace v125 := v125.ext hb
          replace bO130_0 := BoxAt.ext hb bO130_0
          replace v140 := v140.ext hb
          replace bO145_0 := BoxAt.ext hb bO145_0
          replace bO186_0 := BoxAt.ext hb bO186_0
          have hs195 := hb.size
          clear hb
          have lt196 := v192.lt
          refine ⟨_, rfl, ⟨(hX25.cell d2), bO130_0.1⟩, ?_⟩
          refine wd_take 7 (.tuple #[.agg #[.slice (some ⟨B190, 0, none⟩) 24 k191], .int .i64 0]) hR rfl (by kernel_rfl) rfl (by kernel_rfl) (fun w _ => by kernel_rfl) (⟨(hX25.cell d2), bO130_0.1⟩) ?_
          refine wd_take 8 (.agg #[.slice (some ⟨B190, 0, none⟩) 24 k191]) hR rfl (by kernel_rfl) rfl (by kernel_rfl) (fun w _ => by kernel_rfl) (⟨(hX25.cell d2), bO130_0.1⟩) ?_
          refine wd_take 9 (.int .i64 0) hR rfl (by kernel_rfl) rfl (by kernel_rfl) (fun w _ => by kernel_rfl) (⟨(hX25.cell d2), bO130_0.1⟩) ?_
          refine wd_step 11 hR rfl (by kernel_rfl) (by kernel_rfl) (by kernel_rfl) (sn_set (O := O186) (j := 0) (v := .slice (some ⟨B190, 0, none⟩) 24 k191) (ex_store (p := .pointer (some ⟨O186, 0, none⟩)) (v := .agg #[.slice (some ⟨B190, 0, none⟩) 24 k191]) rfl (by kernel_rfl) (by kernel_rfl) (st25 bO186_0.1 bO186_0.2)) bO186_0 ?_)
          intro X197 ho hv0 hk
          replace hE := ho.ext hE (Nat.le_trans (Nat.le_trans hs2 (Nat.le_trans hs8 (Nat.le_trans hs12 (Nat.le_trans hs15 (Nat.le_trans hs24 (Nat.le_trans hs37 (Nat.le_trans hs42 (Nat.le_trans hs46 (Nat.le_trans hs49 (Nat.le_trans hs51 (Nat.le_trans hs55 (Nat.le_trans hs64 (Nat.le_trans hs68 (Nat.le_trans hs77 (Nat.le_trans hs81 (Nat.le_trans hs92 (Nat.le_trans hs98 (Nat.le_trans hs102 (Nat.le_trans hs118 (Nat.le_trans hs128 (Nat.le_trans hs132 (Nat.le_trans hs135 (Nat.le_trans hn165 hs172))))))))))))))))))))))) (Nat.le_of_eq hzO186))
          replace hX25 := ho.ext hX25 (Nat.le_trans (Nat.le_trans hs37 (Nat.le_trans hs42 (Nat.le_trans hs46 (Nat.le_trans hs49 (Nat.le_trans hs51 (Nat.le_trans hs55 (Nat.le_trans hs64 (Nat.le_trans hs68 (Nat.le_trans hs77 (Nat.le_trans hs81 (Nat.le_trans hs92 (Nat.le_trans hs98 (Nat.le_trans hs102 (Nat.le_trans hs118 (Nat.le_trans hs128 (Nat.le_trans hs132 (Nat.le_trans hs135 (Nat.le_trans hn165 hs172)))))))))))))))))) (Nat.le_of_eq hzO186))
          replace hX52 := ho.ext hX52 (Nat.le_trans (Nat.le_trans hs55 (Nat.le_trans hs64 (Nat.le_trans hs68 (Nat.le_trans hs77 (Nat.le_trans hs81 (Nat.le_trans hs92 (Nat.le_trans hs98 (Nat.le_trans hs102 (Nat.le_trans hs118 (Nat.le_trans hs128 (Nat.le_trans hs132 (Nat.le_trans hs135 (Nat.le_trans hn165 hs172))))))))))))) (Nat.le_of_eq hzO186))
          replace hX121 := ho.ext hX121 (Nat.le_trans (Nat.le_trans hs128 (Nat.le_trans hs132 (Nat.le_trans hs135 (Nat.le_trans hn165 hs172)))) (Nat.le_of_eq hzO186))
          replace v125 := ho.va (Nat.ne_of_gt (Nat.lt_of_lt_of_le lt129 (Nat.le_trans (Nat.le_trans hs132 (Nat.le_trans hs135 (Nat.le_trans hn165 hs172))) (Nat.le_of_eq hzO186)))) v125
          replace bO130_0 := ho.box (Nat.ne_of_gt (Nat.lt_of_lt_of_le lt133 (Nat.le_trans (Nat.le_trans hs135 (Nat.le_trans hn165 hs172)) (Nat.le_of_eq hzO186)))) bO130_0
          replace v140 := ho.va (Nat.ne_of_gt (Nat.lt_of_lt_of_le lt169 (Nat.le_trans hs172 (Nat.le_of_eq hzO186)))) v140
          replace bO145_0 := ho.box (Nat.ne_of_gt (Nat.lt_of_lt_of_le lt170 (Nat.le_trans hs172 (Nat.le_of_eq hzO186)))) bO145_0
          replace v192 := ho.va (Nat.ne_of_lt (Nat.lt_of_lt_of_le lt189 hn193)) v192
          have hs198 : w194.heap.size ≤ X197.heap.size := Nat.le_of_eq ho.size.symm
          clear ho hk bO186_0
          have bO186_0 := hv0; clear hv0
          refine ⟨⟨(hX25.cell d2), bO130_0.1⟩, ?_⟩
          refine wd_take 12 (.int .i64 0) hR rfl (by kernel_rfl) rfl (by kernel_rfl) (fun w _ => by kernel_rfl) (⟨(hX25.cell d2), bO130_0.1⟩) ?_
          refine wd_end hL hR hK (by kernel_rfl) ?_
          exact qw_leaf hJ [2, 9, 10, 11, 12, 13, 14, 15, 17, 18, 19, 20] (ws' := [(2, .slice a2 n2 c2), (9, .pointer (some ⟨O10, 0, none⟩)), (10, .slice (some ⟨sb, so, none⟩) t17 lc19), (11, .pointer (some ⟨O40, 0, none⟩)), (12, .pointer (some ⟨O44, 0, none⟩)), (13, .int .i64 0), (14, .slice (some ⟨g112, 0, none⟩) (t17 + 1) cap113), (15, .int .i64 (((kk : Nat) : Int) : Int)), (17, .pointer (some ⟨O145, 0, none⟩)), (18, .int .i64 0), (19, .pointer (some ⟨O186, 0, none⟩)), (20, .int .i64 0)]) (by kernel_rfl) ⟨B190, k191, O186, rfl, hE, hX25, hX52, hX121, v125, bO130_0, v140, bO145_0, v192, bO186_0, (Nat.le_trans hs172 (Nat.le_trans hs188 (Nat.le_trans hs195 hs198))), (Nat.le_trans (Nat.le_trans hs172 hs188) hn193), (Nat.le_trans hs172 (Nat.le_of_eq hzO186)), Lib.hid (Nat.ne_of_gt (Nat.lt_of_lt_of_le lt189 hn193))⟩
      ·
        clear v125 bO130_0 v140 bO145_0 hE hX25 hX52 hX121
        rintro L ws Y199 ⟨B173, k174, O180, rfl, hE, hX25, hX52, hX121, v125, bO130_0, v140, bO145_0, v175, bO180_0, hn200, hn201, hn202, hn203⟩
        have lt204 := v175.lt
        have lt205 := bO180_0.lt
        refine qw_then ?_
        refine cw_seq ?_
        refine cw_seq ?_
        refine cw_plain ?_
        refine pl_take (.int .i64 0) rfl (by kernel_rfl) (by kernel_rfl) (by kernel_rfl) (by kernel_rfl) ?_
        refine pl_take (.bool false) rfl (by kernel_rfl) (by kernel_rfl) (by kernel_rfl) (by kernel_rfl) ?_
        refine pl_take (.bool false) rfl (by kernel_rfl) (by kernel_rfl) (by kernel_rfl) (by kernel_rfl) ?_
        refine pl_take (.int .i64 0) rfl (by kernel_rfl) (by kernel_rfl) (by kernel_rfl) (by kernel_rfl) ?_
        refine pl_take (.bool false) rfl (by kernel_rfl) (by kernel_rfl) (by kernel_rfl) (by kernel_rfl) ?_
        refine pl_take (.bool false) rfl (by kernel_rfl) (by kernel_rfl) (by kernel_rfl) (by kernel_rfl) ?_
        refine pl_nil ?_
        refine qw_then ?_
        refine cw_clean [2, 9, 10, 11, 12, 13, 14, 15, 17, 19, 91] (ws' := [(2, .slice a2 n2 c2), (9, .pointer (some ⟨O10, 0, none⟩)), (10, .slice (some ⟨sb, so, none⟩) t17 lc19), (11, .pointer (some ⟨O40, 0, none⟩)), (12, .pointer (some ⟨O44, 0, none⟩)), (13, .int .i64 0), (14, .slice (some ⟨g112, 0, none⟩) (t17 + 1) cap113), (15, .int .i64 (((kk : Nat) : Int) : Int)), (17, .pointer (some ⟨O145, 0, none⟩)), (19, .pointer (some ⟨O180, 0, none⟩)), (91, .bool false)]) (by kernel_rfl) (fun L => ?_)
        refine cw_f (by kernel_rfl) ?_
        refine cw_skip ?_
        refine qw_then ?_
        have hX206 : Ext Y199 Y199 := Ext.refl _
        refine cw_plain ?_
        refine pl_take (.slice (some ⟨g112, 0, none⟩) (t17 + 1) cap113) rfl (by kernel_rfl) (by kernel_rfl) (by kernel_rfl) (by kernel_rfl) ?_
        refine pl_take (.int .i64 (((kk : Nat) : Int) : Int)) rfl (by kernel_rfl) (by kernel_rfl) (by kernel_rfl) (by kernel_rfl) ?_
        refine pl_take (.agg #[.slice (some ⟨B138, 0, none⟩) 24 k139]) rfl (by kernel_rfl) (by kernel_rfl) (by kernel_rfl) (ex_load rfl (by kernel_rfl) (ld25 (bO145_0.1))) ?_
        refine pl_take (.agg #[.slice (some ⟨B173, 0, none⟩) 24 k174]) rfl (by kernel_rfl) (by kernel_rfl) (by kernel_rfl) (ex_load rfl (by kernel_rfl) (ld25 (bO180_0.1))) ?_
        refine pl_take (.agg #[.slice (some ⟨B138, 0, none⟩) 24 k139, .slice (some ⟨B173, 0, none⟩) 24 k174]) rfl (by kernel_rfl) (by kernel_rfl) (by kernel_rfl) (by kernel_rfl) ?_
        refine pl_take (.pointer (some ⟨g112, kk * 2, none⟩)) rfl (by kernel_rfl) (by kernel_rfl) (by kernel_rfl) (ex_index (p := .slice (some ⟨g112, 0, none⟩) (t17 + 1) cap113) (i := .int .i64 ((kk : Nat) : Int)) rfl (by kernel_rfl) (by kernel_rfl) (ix26z (k := kk) (by omega))) ?_
        obtain ⟨⟨u8, u9, hu8, hu9⟩, hf8, hf9, pC⟩ := strips_set (c := k139) (c' := k174) ((own116.ext hX121)) lM (by omega) (k := kk) (by omega) (hL := v140) ((Nat.ne_of_gt (Nat.lt_of_lt_of_le hh120 (Nat.le_trans (Nat.le_trans hs128 (Nat.le_trans hs132 hs135)) hn166)))) (hL' := v175) ((Nat.ne_of_gt (Nat.lt_of_lt_of_le hh120 (Nat.le_trans (Nat.le_trans hs128 (Nat.le_trans hs132 (Nat.le_trans hs135 hn165))) hn201))))
        refine pl_put rfl (by kernel_rfl) (by kernel_rfl) (sn_skp (w' := (Y199.setCell ⟨g112, kk * 2, none⟩ (.slice (some ⟨B138, 0, none⟩) 24 k139)).setCell ⟨g112, kk * 2 + 1, none⟩ (.slice (some ⟨B173, 0, none⟩) 24 k174)) (ex_store (p := .pointer (some ⟨g112, kk * 2, none⟩)) (v := .agg #[.slice (some ⟨B138, 0, none⟩) 24 k139, .slice (some ⟨B173, 0, none⟩) 24 k174]) rfl (by kernel_rfl) (by kernel_rfl) (st28 hu8 hf8 hu9 hf9)) ?_)
        have ho := (turns_set Y199 g112 (kk * 2) (.slice (some ⟨B138, 0, none⟩) 24 k139)).trans (turns_set _ g112 (kk * 2 + 1) (.slice (some ⟨B173, 0, none⟩) 24 k174))
        obtain ⟨X207, hX8⟩ : ∃ X, X = (Y199.setCell ⟨g112, kk * 2, none⟩ (.slice (some ⟨B138, 0, none⟩) 24 k139)).setCell ⟨g112, kk * 2 + 1, none⟩ (.slice (some ⟨B173, 0, none⟩) 24 k174) := ⟨_, rfl⟩
        rw [← hX8] at ho pC ⊢; clear hX8
        replace hE := ho.ext hE (Nat.le_trans (Nat.le_trans hs2 (Nat.le_trans hs8 (Nat.le_trans hs12 (Nat.le_trans hs15 (Nat.le_trans hs24 (Nat.le_trans hs37 (Nat.le_trans hs42 (Nat.le_trans hs46 (Nat.le_trans hs49 hs51))))))))) hl119)
        replace hX25 := ho.ext hX25 (Nat.le_trans (Nat.le_trans hs37 (Nat.le_trans hs42 (Nat.le_trans hs46 (Nat.le_trans hs49 hs51)))) hl119)
        replace hX52 := ho.ext hX52 hl119
        have hs208 : Y199.heap.size ≤ X207.heap.size := Nat.le_of_eq ho.size.symm
        have okN : Globe.stripsOk ((ss16 ++ [xs9]).set kk (Globe.unionL s.1 (areaL q2 n2), Globe.unionL s.2 (areaL q2 n2))) = true := Globe.ok_set okM (Globe.ok_union q3' (area_valid _ _)) _
        have wid : Globe.wider ss16 ((ss16 ++ [xs9]).set kk (Globe.unionL s.1 (areaL q2 n2), Globe.unionL s.2 (areaL q2 n2))) := Globe.wider_set hs
        have hX209 : Ext X207 X207 := Ext.refl _
        refine pl_nil ?_
        refine qw_then ?_
        refine cw_clean [2, 9, 10, 11, 12, 13, 14] (ws' := [(2, .slice a2 n2 c2), (9, .pointer (some ⟨O10, 0, none⟩)), (10, .slice (some ⟨sb, so, none⟩) t17 lc19), (11, .pointer (some ⟨O40, 0, none⟩)), (12, .pointer (some ⟨O44, 0, none⟩)), (13, .int .i64 0), (14, .slice (some ⟨g112, 0, none⟩) (t17 + 1) cap113)]) (by kernel_rfl) (fun L => ?_)
        refine cw_seq ?_
        refine cw_plain ?_
        refine pl_take (.agg #[.slice (some ⟨B3, 0, none⟩) 24 k4]) rfl (by kernel_rfl) (by kernel_rfl) (by kernel_rfl) (ex_load rfl (by kernel_rfl) (ld25 ((BoxAt.ext hX52 bO10_0).1))) ?_
        refine pl_take (.slice (some ⟨g112, 0, none⟩) (t17 + 1) cap113) rfl (by kernel_rfl) (by kernel_rfl) (by kernel_rfl) (by kernel_rfl) ?_
        refine pl_step rfl (by kernel_rfl) (by kernel_rfl) (by kernel_rfl) (sn_call (f := 15) (args := #[.agg #[.slice (some ⟨B3, 0, none⟩) 24 k4], .slice (some ⟨g112, 0, none⟩) (t17 + 1) cap113]) (by kernel_rfl) ((Uncovered_v _ _ _ (v5.ext hX52) (Ext.refl _) pC (Ext.refl _) okN).mono ?_))
        rintro e w220 ⟨B210, o211, k212, B213, o214, k215, rfl, v216, v217, hn218, hn219, hb⟩
        replace hE := hE.trans hb
        replace hX25 := hX25.trans hb
        replace hX52 := hX52.trans hb
        replace hX209 := hX209.trans hb
        have hs221 := hb.size
        clear hb
        have lt222 := v216.lt
        have lt223 := v217.lt
        refine ⟨_, rfl, ?_⟩
        refine pl_take (.tuple #[.agg #[.slice (some ⟨B210, o211, none⟩) 24 k212], .agg #[.slice (some ⟨B213, o214, none⟩) 24 k215], .int .i64 0]) rfl (by kernel_rfl) (by kernel_rfl) (by kernel_rfl) (by kernel_rfl) ?_
        refine pl_take (.agg #[.slice (some ⟨B210, o211, none⟩) 24 k212]) rfl (by kernel_rfl) (by kernel_rfl) (by kernel_rfl) (by kernel_rfl) ?_
        refine pl_take (.agg #[.slice (some ⟨B213, o214, none⟩) 24 k215]) rfl (by kernel_rfl) (by kernel_rfl) (by kernel_rfl) (by kernel_rfl) ?_
        refine pl_take (.int .i64 0) rfl (by kernel_rfl) (by kernel_rfl) (by kernel_rfl) (by kernel_rfl) ?_
        refine pl_step rfl (by kernel_rfl) (by kernel_rfl) (by kernel_rfl) (sn_new (us := #[.slice none 0 0]) (t := 25) (by kernel_rfl) ?_)
        intro O224 X225 hO hOs hb hbx
        have hzO224 := hO; have hyO224 := hOs; clear hO hOs
        have bO224_0 : BoxAt X225 O224 0 (.slice none 0 0) := hbx 0 _ rfl
        clear hbx
        replace hE := hE.trans hb
        replace hX25 := hX25.trans hb
        replace hX52 := hX52.trans hb
        replace hX209 := hX209.trans hb
        replace v216 := v216.ext hb
        replace v217 := v217.ext hb
        have hs226 := hb.size
        clear hb
        have lt227 := bO224_0.lt
        refine pl_step rfl (by kernel_rfl) (by kernel_rfl) (by kernel_rfl) (sn_new (us := #[.slice none 0 0]) (t := 25) (by kernel_rfl) ?_)
        intro O228 X229 hO hOs hb hbx
        have hzO228 := hO; have hyO228 := hOs; clear hO hOs
        have bO228_0 : BoxAt X229 O228 0 (.slice none 0 0) := hbx 0 _ rfl
        clear hbx
        replace hE := hE.trans hb
        replace hX25 := hX25.trans hb
        replace hX52 := hX52.trans hb
        replace hX209 := hX209.trans hb
        replace v216 := v216.ext hb
        replace v217 := v217.ext hb
        replace bO224_0 := BoxAt.ext hb bO224_0
        have hs230 := hb.size
        clear hb
        have lt231 := bO228_0.lt
        refine pl_put rfl (by kernel_rfl) (by kernel_rfl) (sn_set (O := O224) (j := 0) (v := .slice (some ⟨B210, o211, none⟩) 24 k212) (ex_store (p := .pointer (some ⟨O224, 0, none⟩)) (v := .agg #[.slice (some ⟨B210, o211, none⟩) 24 k212]) rfl (by kernel_rfl) (by kernel_rfl) (st25 bO224_0.1 bO224_0.2)) bO224_0 ?_)
        intro X232 ho hv0 hk
        replace hE := ho.ext hE (Nat.le_trans (Nat.le_trans hs2 (Nat.le_trans hs8 (Nat.le_trans hs12 (Nat.le_trans hs15 (Nat.le_trans hs24 (Nat.le_trans hs37 (Nat.le_trans hs42 (Nat.le_trans hs46 (Nat.le_trans hs49 (Nat.le_trans hs51 (Nat.le_trans hs55 (Nat.le_trans hs64 (Nat.le_trans hs68 (Nat.le_trans hs77 (Nat.le_trans hs81 (Nat.le_trans hs92 (Nat.le_trans hs98 (Nat.le_trans hs102 (Nat.le_trans hs118 (Nat.le_trans hs128 (Nat.le_trans hs132 (Nat.le_trans hs135 (Nat.le_trans hn165 (Nat.le_trans hn200 (Nat.le_trans hs208 hs221))))))))))))))))))))))))) (Nat.le_of_eq hzO224))
        replace hX25 := ho.ext hX25 (Nat.le_trans (Nat.le_trans hs37 (Nat.le_trans hs42 (Nat.le_trans hs46 (Nat.le_trans hs49 (Nat.le_trans hs51 (Nat.le_trans hs55 (Nat.le_trans hs64 (Nat.le_trans hs68 (Nat.le_trans hs77 (Nat.le_trans hs81 (Nat.le_trans hs92 (Nat.le_trans hs98 (Nat.le_trans hs102 (Nat.le_trans hs118 (Nat.le_trans hs128 (Nat.le_trans hs132 (Nat.le_trans hs135 (Nat.le_trans hn165 (Nat.le_trans hn200 (Nat.le_trans hs208 hs221)))))))))))))))))))) (Nat.le_of_eq hzO224))
        replace hX52 := ho.ext hX52 (Nat.le_trans (Nat.le_trans hs55 (Nat.le_trans hs64 (Nat.le_trans hs68 (Nat.le_trans hs77 (Nat.le_trans hs81 (Nat.le_trans hs92 (Nat.le_trans hs98 (Nat.le_trans hs102 (Nat.le_trans hs118 (Nat.le_trans hs128 (Nat.le_trans hs132 (Nat.le_trans hs135 (Nat.le_trans hn165 (Nat.le_trans hn200 (Nat.le_trans hs208 hs221))))))))))))))) (Nat.le_of_eq hzO224))
        replace hX209 := ho.ext hX209 (Nat.le_trans hs221 (Nat.le_of_eq hzO224))
        replace v216 := ho.va (Nat.ne_of_gt (Nat.lt_of_lt_of_le lt222 (Nat.le_of_eq hzO224))) v216
        replace v217 := ho.va (Nat.ne_of_gt (Nat.lt_of_lt_of_le lt223 (Nat.le_of_eq hzO224))) v217
        replace bO228_0 := ho.box (Nat.ne_of_lt (Nat.lt_of_lt_of_le lt227 (Nat.le_of_eq hzO228))) bO228_0
        have hs233 : X229.heap.size ≤ X232.heap.size := Nat.le_of_eq ho.size.symm
        clear ho hk bO224_0
        have bO224_0 := hv0; clear hv0
        refine pl_put rfl (by kernel_rfl) (by kernel_rfl) (sn_set (O := O228) (j := 0) (v := .slice (some ⟨B213, o214, none⟩) 24 k215) (ex_store (p := .pointer (some ⟨O228, 0, none⟩)) (v := .agg #[.slice (some ⟨B213, o214, none⟩) 24 k215]) rfl (by kernel_rfl) (by kernel_rfl) (st25 bO228_0.1 bO228_0.2)) bO228_0 ?_)
        intro X234 ho hv0 hk
        replace hE := ho.ext hE (Nat.le_trans (Nat.le_trans hs2 (Nat.le_trans hs8 (Nat.le_trans hs12 (Nat.le_trans hs15 (Nat.le_trans hs24 (Nat.le_trans hs37 (Nat.le_trans hs42 (Nat.le_trans hs46 (Nat.le_trans hs49 (Nat.le_trans hs51 (Nat.le_trans hs55 (Nat.le_trans hs64 (Nat.le_trans hs68 (Nat.le_trans hs77 (Nat.le_trans hs81 (Nat.le_trans hs92 (Nat.le_trans hs98 (Nat.le_trans hs102 (Nat.le_trans hs118 (Nat.le_trans hs128 (Nat.le_trans hs132 (Nat.le_trans hs135 (Nat.le_trans hn165 (Nat.le_trans hn200 (Nat.le_trans hs208 (Nat.le_trans hs221 hs226)))))))))))))))))))))))))) (Nat.le_of_eq hzO228))
        replace hX25 := ho.ext hX25 (Nat.le_trans (Nat.le_trans hs37 (Nat.le_trans hs42 (Nat.le_trans hs46 (Nat.le_trans hs49 (Nat.le_trans hs51 (Nat.le_trans hs55 (Nat.le_trans hs64 (Nat.le_trans hs68 (Nat.le_trans hs77 (Nat.le_trans hs81 (Nat.le_trans hs92 (Nat.le_trans hs98 (Nat.le_trans hs102 (Nat.le_trans hs118 (Nat.le_trans hs128 (Nat.le_trans hs132 (Nat.le_trans hs135 (Nat.le_trans hn165 (Nat.le_trans hn200 (Nat.le_trans hs208 (Nat.le_trans hs221 hs226))))))))))))))))))))) (Nat.le_of_eq hzO228))
        replace hX52 := ho.ext hX52 (Nat.le_trans (Nat.le_trans hs55 (Nat.le_trans hs64 (Nat.le_trans hs68 (Nat.le_trans hs77 (Nat.le_trans hs81 (Nat.le_trans hs92 (Nat.le_trans hs98 (Nat.le_trans hs102 (Nat.le_trans hs118 (Nat.le_trans hs128 (Nat.le_trans hs132 (Nat.le_trans hs135 (Nat.le_trans hn165 (Nat.le_trans hn200 (Nat.le_trans hs208 (Nat.le_trans hs221 hs226)))))))))))))))) (Nat.le_of_eq hzO228))
        replace hX209 := ho.ext hX209 (Nat.le_trans (Nat.le_trans hs221 hs226) (Nat.le_of_eq hzO228))
        replace v216 := ho.va (Nat.ne_of_gt (Nat.lt_of_lt_of_le lt222 (Nat.le_trans hs226 (Nat.le_of_eq hzO228)))) v216
        replace v217 := ho.va (Nat.ne_of_gt (Nat.lt_of_lt_of_le lt223 (Nat.le_trans hs226 (Nat.le_of_eq hzO228)))) v217
        replace bO224_0 := ho.box (Nat.ne_of_gt (Nat.lt_of_lt_of_le lt227 (Nat.le_of_eq hzO228))) bO224_0
        have hs235 : X232.heap.size ≤ X234.heap.size := Nat.le_of_eq ho.size.symm
        clear ho hk bO228_0
        have bO228_0 := hv0; clear hv0
        refine pl_take (.int .i64 0) rfl (by kernel_rfl) (by kernel_rfl) (by kernel_rfl) (by kernel_rfl) ?_
        refine pl_nil ?_
        refine qw_then ?_
        refine cw_clean [2, 9, 10, 11, 12, 13, 21, 22, 23] (ws' := [(2, .slice a2 n2 c2), (9, .pointer (some ⟨O10, 0, none⟩)), (10, .slice (some ⟨sb, so, none⟩) t17 lc19), (11, .pointer (some ⟨O40, 0, none⟩)), (12, .pointer (some ⟨O44, 0, none⟩)), (13, .int .i64 0), (21, .pointer (some ⟨O224, 0, none⟩)), (22, .pointer (some ⟨O228, 0, none⟩)), (23, .int .i64 0)]) (by kernel_rfl) (fun L => ?_)
        refine cw_seq ?_
        refine cw_join (fun ws' Y => ∃ B238 : Nat, ∃ k239 : Nat, ∃ B245 : Nat, ∃ k246 : Nat, ∃ O252 : Nat, ws' = [(10, .slice (some ⟨sb, so, none⟩) t17 lc19), (11, .pointer (some ⟨O40, 0, none⟩)), (12, .pointer (some ⟨O44, 0, none⟩)), (13, .int .i64 0), (21, .pointer (some ⟨O224, 0, none⟩)), (22, .pointer (some ⟨O228, 0, none⟩)), (23, .int .i64 0), (24, .pointer (some ⟨O252, 0, none⟩)), (25, .int .i64 0)] ∧ Ext w Y ∧ Ext w23 Y ∧ Ext X50 Y ∧ Ext X207 Y ∧ VA Y B210 o211 (Globe.leftL (areaL q0 n0) (((ss16 ++ [xs9]).set kk (Globe.unionL s.1 (areaL q2 n2), Globe.unionL s.2 (areaL q2 n2))).map fun s => s.2)) ∧ VA Y B213 o214 (Globe.leftL (areaL q0 n0) (((ss16 ++ [xs9]).set kk (Globe.unionL s.1 (areaL q2 n2), Globe.unionL s.2 (areaL q2 n2))).map fun s => s.1)) ∧ BoxAt Y O224 0 (.slice (some ⟨B210, o211, none⟩) 24 k212) ∧ BoxAt Y O228 0 (.slice (some ⟨B213, o214, none⟩) 24 k215) ∧ VA Y B238 0 (areaL q2 n2) ∧ VA Y B245 0 (Globe.meetL (areaL q0 n0) (areaL q2 n2)) ∧ BoxAt Y O252 0 (.slice (some ⟨B245, 0, none⟩) 24 k246) ∧ X234.heap.size ≤ Y.heap.size ∧ X234.heap.size ≤ B238 ∧ X234.heap.size ≤ B245 ∧ X234.heap.size ≤ O252 ∧ Hid (B238 ≠ B245) ∧ Hid (B238 ≠ O252) ∧ Hid (B245 ≠ O252)) (fun hJ => ?_) ?_
        ·
          refine cw_draw [(some 106, [9], []), (some 107, [2], []), (some 108, [107], [1]), (some 109, [106, 108], [0, 2, 2]), (some 105, [109], [3]), (some 110, [105], [4]), (some 111, [105], [4]), (some 24, [], []), (none, [24, 110], [7, 5, 3, 0, 1, 2, 3, 4, 5, 7]), (some 25, [111], [6, 8, 0, 1, 2, 3, 4, 5, 6, 7, 8])] (fun w' => w'.cell? ⟨O10, 0, none⟩ = some (.slice (some ⟨B3, 0, none⟩) 24 k4)) (by kernel_rfl) (by kernel_rfl) (by kernel_rfl) (by kernel_rfl) ((calm_then calm_body)) ((BoxAt.ext hX52 bO10_0).1) (fun ops Q X236 hb hL hR hK => ?_)
          replace hE := hE.trans hb
          replace hX25 := hX25.trans hb
          replace hX52 := hX52.trans hb
          replace hX209 := hX209.trans hb
          replace v216 := v216.ext hb
          replace v217 := v217.ext hb
          replace bO224_0 := BoxAt.ext hb bO224_0
          replace bO228_0 := BoxAt.ext hb bO228_0
          have hs237 := hb.size
          clear hb
          refine wd_take 0 (.agg #[.slice (some ⟨B3, 0, none⟩) 24 k4]) hR rfl (by kernel_rfl) rfl (by kernel_rfl) (fun w hS => ex_load rfl (by kernel_rfl) (ld25 (hS))) ((BoxAt.ext hX52 bO10_0).1) ?_
          refine wd_take 1 (.slice a2 n2 c2) hR rfl (by kernel_rfl) rfl (by kernel_rfl) (fun w _ => by kernel_rfl) ((BoxAt.ext hX52 bO10_0).1) ?_
          refine wd_two 2 7 hR rfl rfl (by kernel_rfl) (by kernel_rfl) (by kernel_rfl) (by kernel_rfl) ?_ ?_
          ·
            refine sn_call (f := 11) (args := #[.slice a2 n2 c2]) (by kernel_rfl) ((Area_c _ _ Q2 hE (by omega)).mono ?_)
            rintro e w242 ⟨B238, k239, rfl, hn241, v240, hb⟩
            replace hE := hE.trans hb
            replace hX25 := hX25.trans hb
            replace hX52 := hX52.trans hb
            replace hX209 := hX209.trans hb
            replace v216 := v216.ext hb
            replace v217 := v217.ext hb
            replace bO224_0 := BoxAt.ext hb bO224_0
            replace bO228_0 := BoxAt.ext hb bO228_0
            have hs243 := hb.size
            clear hb
            have lt244 := v240.lt
            refine ⟨_, rfl, (BoxAt.ext hX52 bO10_0).1, ?_⟩
            refine wd_two 3 7 hR rfl rfl (by kernel_rfl) (by kernel_rfl) (by kernel_rfl) (by kernel_rfl) ?_ ?_
            ·
              refine sn_call (f := 28) (args := #[.agg #[.slice (some ⟨B3, 0, none⟩) 24 k4], .agg #[.slice (some ⟨B238, 0, none⟩) 24 k239]]) (by kernel_rfl) ((Meet_v _ _ _ (v5.ext hX52) (Ext.refl _) v240 (Ext.refl _)).mono ?_)
              rintro e w249 ⟨B245, k246, rfl, hn248, -, v247, hb⟩
              replace hE := hE.trans hb
              replace hX25 := hX25.trans hb
              replace hX52 := hX52.trans hb
              replace hX209 := hX209.trans hb
              replace v216 := v216.ext hb
              replace v217 := v217.ext hb
              replace bO224_0 := BoxAt.ext hb bO224_0
              replace bO228_0 := BoxAt.ext hb bO228_0
              replace v240 := v240.ext hb
              have hs250 := hb.size
              clear hb
              have lt251 := v247.lt
              refine ⟨_, rfl, (BoxAt.ext hX52 bO10_0).1, ?_⟩
              refine wd_take 4 (.tuple #[.agg #[.slice (some ⟨B245, 0, none⟩) 24 k246], .int .i64 0]) hR rfl (by kernel_rfl) rfl (by kernel_rfl) (fun w _ => by kernel_rfl) ((BoxAt.ext hX52 bO10_0).1) ?_
              refine wd_take 5 (.agg #[.slice (some ⟨B245, 0, none⟩) 24 k246]) hR rfl (by kernel_rfl) rfl (by kernel_rfl) (fun w _ => by kernel_rfl) ((BoxAt.ext hX52 bO10_0).1) ?_
              refine wd_take 6 (.int .i64 0) hR rfl (by kernel_rfl) rfl (by kernel_rfl) (fun w _ => by kernel_rfl) ((BoxAt.ext hX52 bO10_0).1) ?_
              refine wd_step 7 hR rfl (by kernel_rfl) (by kernel_rfl) (by kernel_rfl) (sn_new (us := #[.slice none 0 0]) (t := 25) (by kernel_rfl) ?_)
              intro O252 X253 hO hOs hb hbx
              have hzO252 := hO; have hyO252 := hOs; clear hO hOs
              have bO252_0 : BoxAt X253 O252 0 (.slice none 0 0) := hbx 0 _ rfl
              clear hbx
              replace hE := hE.trans hb
              replace hX25 := hX25.trans hb
              replace hX52 := hX52.trans hb
              replace hX209 := hX209.trans hb
              replace v216 := v216.ext hb
              replace v217 := v217.ext hb
              replace bO224_0 := BoxAt.ext hb bO224_0
              replace bO228_0 := BoxAt.ext hb bO228_0
              replace v240 := v240.ext hb
              replace v247 := v247.ext hb
              have hs254 := hb.size
              clear hb
              have lt255 := bO252_0.lt
              refine ⟨(BoxAt.ext hX52 bO10_0).1, ?_⟩
              refine wd_step 8 hR rfl (by kernel_rfl) (by kernel_rfl) (by kernel_rfl) (sn_set (O := O252) (j := 0) (v := .slice (some ⟨B245, 0, none⟩) 24 k246) (ex_store (p := .pointer (some ⟨O252, 0, none⟩)) (v := .agg #[.slice (some ⟨B245, 0, none⟩) 24 k246]) rfl (by kernel_rfl) (by kernel_rfl) (st25 bO252_0.1 bO252_0.2)) bO252_0 ?_)
              intro X256 ho hv0 hk
              replace hE := ho.ext hE (Nat.le_trans (Nat.le_trans hs2 (Nat.le_trans hs8 (Nat.le_trans hs12 (Nat.le_trans hs15 (Nat.le_trans hs24 (Nat.le_trans hs37 (Nat.le_trans hs42 (Nat.le_trans hs46 (Nat.le_trans hs49 (Nat.le_trans hs51 (Nat.le_trans hs55 (Nat.le_trans hs64 (Nat.le_trans hs68 (Nat.le_trans hs77 (Nat.le_trans hs81 (Nat.le_trans hs92 (Nat.le_trans hs98 (Nat.le_trans hs102 (Nat.le_trans hs118 (Nat.le_trans hs128 (Nat.le_trans hs132 (Nat.le_trans hs135 (Nat.le_trans hn165 (Nat.le_trans hn200 (Nat.le_trans hs208 (Nat.le_trans hs221 (Nat.le_trans hs226 (Nat.le_trans hs230 (Nat.le_trans hs233 (Nat.le_trans hs235 (Nat.le_trans hs237 (Nat.le_trans hs243 hs250)))))))))))))))))))))))))))))))) (Nat.le_of_eq hzO252))
              replace hX25 := ho.ext hX25 (Nat.le_trans (Nat.le_trans hs37 (Nat.le_trans hs42 (Nat.le_trans hs46 (Nat.le_trans hs49 (Nat.le_trans hs51 (Nat.le_trans hs55 (Nat.le_trans hs64 (Nat.le_trans hs68 (Nat.le_trans hs77 (Nat.le_trans hs81 (Nat.le_trans hs92 (Nat.le_trans hs98 (Nat.le_trans hs102 (Nat.le_trans hs118 (Nat.le_trans hs128 (Nat.le_trans hs132 (Nat.le_trans hs135 (Nat.le_trans hn165 (Nat.le_trans hn200 (Nat.le_trans hs208 (Nat.le_trans hs221 (Nat.le_trans hs226 (Nat.le_trans hs230 (Nat.le_trans hs233 (Nat.le_trans hs235 (Nat.le_trans hs237 (Nat.le_trans hs243 hs250))))))))))))))))))))))))))) (Nat.le_of_eq hzO252))
              replace hX52 := ho.ext hX52 (Nat.le_trans (Nat.le_trans hs55 (Nat.le_trans hs64 (Nat.le_trans hs68 (Nat.le_trans hs77 (Nat.le_trans hs81 (Nat.le_trans hs92 (Nat.le_trans hs98 (Nat.le_trans hs102 (Nat.le_trans hs118 (Nat.le_trans hs128 (Nat.le_trans hs132 (Nat.le_trans hs135 (Nat.le_trans hn165 (Nat.le_trans hn200 (Nat.le_trans hs208 (Nat.le_trans hs221 (Nat.le_trans hs226 (Nat.le_trans hs230 (Nat.le_trans hs233 (Nat.le_trans hs235 (Nat.le_trans hs237 (Nat.le_trans hs243 hs250)))))))))))))))))))))) (Nat.le_of_eq hzO252))
              replace hX209 := ho.ext hX209 (Nat.le_trans (Nat.le_trans hs221 (Nat.le_trans hs226 (Nat.le_trans hs230 (Nat.le_trans hs233 (Nat.le_trans hs235 (Nat.le_trans hs237 (Nat.le_trans hs243 hs250))))))) (Nat.le_of_eq hzO252))
              replace v216 := ho.va (Nat.ne_of_gt (Nat.lt_of_lt_of_le lt222 (Nat.le_trans (Nat.le_trans hs226 (Nat.le_trans hs230 (Nat.le_trans hs233 (Nat.le_trans hs235 (Nat.le_trans hs237 (Nat.le_trans hs243 hs250)))))) (Nat.le_of_eq hzO252)))) v216
              replace v217 := ho.va (Nat.ne_of_gt (Nat.lt_of_lt_of_le lt223 (Nat.le_trans (Nat.le_trans hs226 (Nat.le_trans hs230 (Nat.le_trans hs233 (Nat.le_trans hs235 (Nat.le_trans hs237 (Nat.le_trans hs243 hs250)))))) (Nat.le_of_eq hzO252)))) v217
              replace bO224_0 := ho.box (Nat.ne_of_gt (Nat.lt_of_lt_of_le lt227 (Nat.le_trans (Nat.le_trans hs230 (Nat.le_trans hs233 (Nat.le_trans hs235 (Nat.le_trans hs237 (Nat.le_trans hs243 hs250))))) (Nat.le_of_eq hzO252)))) bO224_0
              replace bO228_0 := ho.box (Nat.ne_of_gt (Nat.lt_of_lt_of_le lt231 (Nat.le_trans (Nat.le_trans hs233 (Nat.le_trans hs235 (Nat.le_trans hs237 (Nat.le_trans hs243 hs250)))) (Nat.le_of_eq hzO252)))) bO228_0
              replace v240 := ho.va (Nat.ne_of_gt (Nat.lt_of_lt_of_le lt244 (Nat.le_trans hs250 (Nat.le_of_eq hzO252)))) v240
              replace v247 := ho.va (Nat.ne_of_gt (Nat.lt_of_lt_of_le lt251 (Nat.le_of_eq hzO252))) v247
              have hs257 : X253.heap.size ≤ X256.heap.size := Nat.le_of_eq ho.size.symm
              clear ho hk bO252_0
              have bO252_0 := hv0; clear hv0
              refine ⟨(BoxAt.ext hX52 bO10_0).1, ?_⟩
              refine wd_take 9 (.int .i64 0) hR rfl (by kernel_rfl) rfl (by kernel_rfl) (fun w _ => by kernel_rfl) ((BoxAt.ext hX52 bO10_0).1) ?_
              refine wd_end hL hR hK (by kernel_rfl) ?_
              exact qw_leaf hJ [10, 11, 12, 13, 21, 22, 23, 24, 25] (ws' := [(10, .slice (some ⟨sb, so, none⟩) t17 lc19), (11, .pointer (some ⟨O40, 0, none⟩)), (12, .pointer (some ⟨O44, 0, none⟩)), (13, .int .i64 0), (21, .pointer (some ⟨O224, 0, none⟩)), (22, .pointer (some ⟨O228, 0, none⟩)), (23, .int .i64 0), (24, .pointer (some ⟨O252, 0, none⟩)), (25, .int .i64 0)]) (by kernel_rfl) ⟨B238, k239, B245, k246, O252, rfl, hE, hX25, hX52, hX209, v216, v217, bO224_0, bO228_0, v240, v247, bO252_0, (Nat.le_trans hs237 (Nat.le_trans hs243 (Nat.le_trans hs250 (Nat.le_trans hs254 hs257)))), (Nat.le_trans hs237 hn241), (Nat.le_trans (Nat.le_trans hs237 hs243) hn248), (Nat.le_trans (Nat.le_trans hs237 (Nat.le_trans hs243 hs250)) (Nat.le_of_eq hzO252)), Lib.hid (Nat.ne_of_lt (Nat.lt_of_lt_of_le lt244 hn248)), Lib.hid (Nat.ne_of_lt (Nat.lt_of_lt_of_le lt244 (Nat.le_trans hs250 (Nat.le_of_eq hzO252)))), Lib.hid (Nat.ne_of_lt (Nat.lt_of_lt_of_le lt251 (Nat.le_of_eq hzO252)))⟩
            ·
              refine sn_new (us := #[.slice none 0 0]) (t := 25) (by kernel_rfl) ?_
              intro O258 X259 hO hOs hb hbx
              have hzO258 := hO; have hyO258 := hOs; clear hO hOs
              have bO258_0 : BoxAt X259 O258 0 (.slice none 0 0) := hbx 0 _ rfl
              clear hbx
              replace hE := hE.trans hb
              replace hX25 := hX25.trans hb
              replace hX52 := hX52.trans hb
              replace hX209 := hX209.trans hb
              replace v216 := v216.ext hb
              replace v217 := v217.ext hb
              replace bO224_0 := BoxAt.ext hb bO224_0
              replace bO228_0 := BoxAt.ext hb bO228_0
              replace v240 := v240.ext hb
              have hs260 := hb.size
              clear hb
              have lt261 := bO258_0.lt
              refine ⟨(BoxAt.ext hX52 bO10_0).1, ?_⟩
              refine wd_step 3 hR rfl (by kernel_rfl) (by kernel_rfl) (by kernel_rfl) (sn_call (f := 28) (args := #[.agg #[.slice (some ⟨B3, 0, none⟩) 24 k4], .agg #[.slice (some ⟨B238, 0, none⟩) 24 k239]]) (by kernel_rfl) ((Meet_v _ _ _ (v5.ext hX52) (Ext.refl _) v240 (Ext.refl _)).mono ?_))
              rintro e w266 ⟨B262, k263, rfl, hn265, -, v264, hb⟩
              replace hE := hE.trans hb
              replace hX25 := hX25.trans hb
              replace hX52 := hX52.trans hb
              replace hX209 := hX209.trans hb
              replace v216 := v216.ext hb
              replace v217 := v217.ext hb
              replace bO224_0 := BoxAt.ext hb bO224_0
              replace bO228_0 := BoxAt.ext hb bO228_0
              replace v240 := v240.ext hb
              replace bO258_0 := BoxAt.ext hb bO258_0
              have hs267 := hb.size
              clear hb
              have lt268 := v264.lt
              refine ⟨_, rfl, (BoxAt.ext hX52 bO10_0).1, ?_⟩
              refine wd_take 4 (.tuple #[.agg #[.slice (some ⟨B262, 0, none⟩) 24 k263], .int .i64 0]) hR rfl (by kernel_rfl) rfl (by kernel_rfl) (fun w _ => by kernel_rfl) ((BoxAt.ext hX52 bO10_0).1) ?_
              refine wd_take 5 (.agg #[.slice (some ⟨B262, 0, none⟩) 24 k263]) hR rfl (by kernel_rfl) rfl (by kernel_rfl) (fun w _ => by kernel_rfl) ((BoxAt.ext hX52 bO10_0).1) ?_
              refine wd_take 6 (.int .i64 0) hR rfl (by kernel_rfl) rfl (by kernel_rfl) (fun w _ => by kernel_rfl) ((BoxAt.ext hX52 bO10_0).1) ?_
              refine wd_step 8 hR rfl (by kernel_rfl) (by kernel_rfl) (by kernel_rfl) (sn_set (O := O258) (j := 0) (v := .slice (some ⟨B262, 0, none⟩) 24 k263) (ex_store (p := .pointer (some ⟨O258, 0, none⟩)) (v := .agg #[.slice (some ⟨B262, 0, none⟩) 24 k263]) rfl (by kernel_rfl) (by kernel_rfl) (st25 bO258_0.1 bO258_0.2)) bO258_0 ?_)
              intro X269 ho hv0 hk
              replace hE := ho.ext hE (Nat.le_trans (Nat.le_trans hs2 (Nat.le_trans hs8 (Nat.le_trans hs12 (Nat.le_trans hs15 (Nat.le_trans hs24 (Nat.le_trans hs37 (Nat.le_trans hs42 (Nat.le_trans hs46 (Nat.le_trans hs49 (Nat.le_trans hs51 (Nat.le_trans hs55 (Nat.le_trans hs64 (Nat.le_trans hs68 (Nat.le_trans hs77 (Nat.le_trans hs81 (Nat.le_trans hs92 (Nat.le_trans hs98 (Nat.le_trans hs102 (Nat.le_trans hs118 (Nat.le_trans hs128 (Nat.le_trans hs132 (Nat.le_trans hs135 (Nat.le_trans hn165 (Nat.le_trans hn200 (Nat.le_trans hs208 (Nat.le_trans hs221 (Nat.le_trans hs226 (Nat.le_trans hs230 (Nat.le_trans hs233 (Nat.le_trans hs235 (Nat.le_trans hs237 hs243))))))))))))))))))))))))))))))) (Nat.le_of_eq hzO258))
              replace hX25 := ho.ext hX25 (Nat.le_trans (Nat.le_trans hs37 (Nat.le_trans hs42 (Nat.le_trans hs46 (Nat.le_trans hs49 (Nat.le_trans hs51 (Nat.le_trans hs55 (Nat.le_trans hs64 (Nat.le_trans hs68 (Nat.le_trans hs77 (Nat.le_trans hs81 (Nat.le_trans hs92 (Nat.le_trans hs98 (Nat.le_trans hs102 (Nat.le_trans hs118 (Nat.le_trans hs128 (Nat.le_trans hs132 (Nat.le_trans hs135 (Nat.le_trans hn165 (Nat.le_trans hn200 (Nat.le_trans hs208 (Nat.le_trans hs221 (Nat.le_trans hs226 (Nat.le_trans hs230 (Nat.le_trans hs233 (Nat.le_trans hs235 (Nat.le_trans hs237 hs243)))))))))))))))))))))))))) (Nat.le_of_eq hzO258))
              replace hX52 := ho.ext hX52 (Nat.le_trans (Nat.le_trans hs55 (Nat.le_trans hs64 (Nat.le_trans hs68 (Nat.le_trans hs77 (Nat.le_trans hs81 (Nat.le_trans hs92 (Nat.le_trans hs98 (Nat.le_trans hs102 (Nat.le_trans hs118 (Nat.le_trans hs128 (Nat.le_trans hs132 (Nat.le_trans hs135 (Nat.le_trans hn165 (Nat.le_trans hn200 (Nat.le_trans hs208 (Nat.le_trans hs221 (Nat.le_trans hs226 (Nat.le_trans hs230 (Nat.le_trans hs233 (Nat.le_trans hs235 (Nat.le_trans hs237 hs243))))))))))))))))))))) (Nat.le_of_eq hzO258))
              replace hX209 := ho.ext hX209 (Nat.le_trans (Nat.le_trans hs221 (Nat.le_trans hs226 (Nat.le_trans hs230 (Nat.le_trans hs233 (Nat.le_trans hs235 (Nat.le_trans hs237 hs243)))))) (Nat.le_of_eq hzO258))
              replace v216 := ho.va (Nat.ne_of_gt (Nat.lt_of_lt_of_le lt222 (Nat.le_trans (Nat.le_trans hs226 (Nat.le_trans hs230 (Nat.le_trans hs233 (Nat.le_trans hs235 (Nat.le_trans hs237 hs243))))) (Nat.le_of_eq hzO258)))) v216
              replace v217 := ho.va (Nat.ne_of_gt (Nat.lt_of_lt_of_le lt223 (Nat.le_trans (Nat.le_trans hs226 (Nat.le_trans hs230 (Nat.le_trans hs233 (Nat.le_trans hs235 (Nat.le_trans hs237 hs243))))) (Nat.le_of_eq hzO258)))) v217
              replace bO224_0 := ho.box (Nat.ne_of_gt (Nat.lt_of_lt_of_le lt227 (Nat.le_trans (Nat.le_trans hs230 (Nat.le_trans hs233 (Nat.le_trans hs235 (Nat.le_trans hs237 hs243)))) (Nat.le_of_eq hzO258)))) bO224_0
              replace bO228_0 := ho.box (Nat.ne_of_gt (Nat.lt_of_lt_of_le lt231 (Nat.le_trans (Nat.le_trans hs233 (Nat.le_trans hs235 (Nat.le_trans hs237 hs243))) (Nat.le_of_eq hzO258)))) bO228_0
              replace v240 := ho.va (Nat.ne_of_gt (Nat.lt_of_lt_of_le lt244 (Nat.le_of_eq hzO258))) v240
              replace v264 := ho.va (Nat.ne_of_lt (Nat.lt_of_lt_of_le lt261 hn265)) v264
              have hs270 : w266.heap.size ≤ X269.heap.size := Nat.le_of_eq ho.size.symm
              clear ho hk bO258_0
              have bO258_0 := hv0; clear hv0
              refine ⟨(BoxAt.ext hX52 bO10_0).1, ?_⟩
              refine wd_take 9 (.int .i64 0) hR rfl (by kernel_rfl) rfl (by kernel_rfl) (fun w _ => by kernel_rfl) ((BoxAt.ext hX52 bO10_0).1) ?_
              refine wd_end hL hR hK (by kernel_rfl) ?_
              exact qw_leaf hJ [10, 11, 12, 13, 21, 22, 23, 24, 25] (ws' := [(10, .slice (some ⟨sb, so, none⟩) t17 lc19), (11, .pointer (some ⟨O40, 0, none⟩)), (12, .pointer (some ⟨O44, 0, none⟩)), (13, .int .i64 0), (21, .pointer (some ⟨O224, 0, none⟩)), (22, .pointer (some ⟨O228, 0, none⟩)), (23, .int .i64 0), (24, .pointer (some ⟨O258, 0, none⟩)), (25, .int .i64 0)]) (by kernel_rfl) ⟨B238, k239, B262, k263, O258, rfl, hE, hX25, hX52, hX209, v216, v217, bO224_0, bO228_0, v240, v264, bO258_0, (Nat.le_trans hs237 (Nat.le_trans hs243 (Nat.le_trans hs260 (Nat.le_trans hs267 hs270)))), (Nat.le_trans hs237 hn241), (Nat.le_trans (Nat.le_trans hs237 (Nat.le_trans hs243 hs260)) hn265), (Nat.le_trans (Nat.le_trans hs237 hs243) (Nat.le_of_eq hzO258)), Lib.hid (Nat.ne_of_lt (Nat.lt_of_lt_of_le lt244 (Nat.le_trans hs260 hn265))), Lib.hid (Nat.ne_of_lt (Nat.lt_of_lt_of_le lt244 (Nat.le_of_eq hzO258))), Lib.hid (Nat.ne_of_gt (Nat.lt_of_lt_of_le lt261 hn265))⟩
          ·
            refine sn_new (us := #[.slice none 0 0]) (t := 25) (by kernel_rfl) ?_
            intro O271 X272 hO hOs hb hbx
            have hzO271 := hO; have hyO271 := hOs; clear hO hOs
            have bO271_0 : BoxAt X272 O271 0 (.slice none 0 0) := hbx 0 _ rfl
            clear hbx
            replace hE := hE.trans hb
            replace hX25 := hX25.trans hb
            replace hX52 := hX52.trans hb
            replace hX209 := hX209.trans hb
            replace v216 := v216.ext hb
            replace v217 := v217.ext hb
            replace bO224_0 := BoxAt.ext hb bO224_0
            replace bO228_0 := BoxAt.ext hb bO228_0
            have hs273 := hb.size
            clear hb
            have lt274 := bO271_0.lt
            refine ⟨(BoxAt.ext hX52 bO10_0).1, ?_⟩
            refine wd_step 2 hR rfl (by kernel_rfl) (by kernel_rfl) (by kernel_rfl) (sn_call (f := 11) (args := #[.slice a2 n2 c2]) (by kernel_rfl) ((Area_c _ _ Q2 hE (by omega)).mono ?_))
            rintro e w279 ⟨B275, k276, rfl, hn278, v277, hb⟩
            replace hE := hE.trans hb
            replace hX25 := hX25.trans hb
            replace hX52 := hX52.trans hb
            replace hX209 := hX209.trans hb
            replace v216 := v216.ext hb
            replace v217 := v217.ext hb
            replace bO224_0 := BoxAt.ext hb bO224_0
            replace bO228_0 := BoxAt.ext hb bO228_0
            replace bO271_0 := BoxAt.ext hb bO271_0
            have hs280 := hb.size
            clear hb
            have lt281 := v277.lt
            refine ⟨_, rfl, (BoxAt.ext hX52 bO10_0).1, ?_⟩
            refine wd_step 3 hR rfl (by kernel_rfl) (by kernel_rfl) (by kernel_rfl) (sn_call (f := 28) (args := #[.agg #[.slice (some ⟨B3, 0, none⟩) 24 k4], .agg #[.slice (some ⟨B275, 0, none⟩) 24 k276]]) (by kernel_rfl) ((Meet_v _ _ _ (v5.ext hX52) (Ext.refl _) v277 (Ext.refl _)).mono ?_))
            rintro e w286 ⟨B282, k283, rfl, hn285, -, v284, hb⟩
            replace hE := hE.trans hb
            replace hX25 := hX25.trans hb
            replace hX52 := hX52.trans hb
            replace hX209 := hX209.trans hb
            replace v216 := v216.ext hb
            replace v217 := v217.ext hb
            replace bO224_0 := BoxAt.ext hb bO224_0
            replace bO228_0 := BoxAt.ext hb bO228_0
            replace bO271_0 := BoxAt.ext hb bO271_0
            replace v277 := v277.ext hb
            have hs287 := hb.size
            clear hb
            have lt288 := v284.lt
            refine ⟨_, rfl, (BoxAt.ext hX52 bO10_0).1, ?_⟩
            refine wd_take 4 (.tuple #[.agg #[.slice (some ⟨B282, 0, none⟩) 24 k283], .int .i64 0]) hR rfl (by kernel_rfl) rfl (by kernel_rfl) (fun w _ => by kernel_rfl) ((BoxAt.ext hX52 bO10_0).1) ?_
            refine wd_take 5 (.agg #[.slice (some ⟨B282, 0, none⟩) 24 k283]) hR rfl (by kernel_rfl) rfl (by kernel_rfl) (fun w _ => by kernel_rfl) ((BoxAt.ext hX52 bO10_0).1) ?_
            refine wd_take 6 (.int .i64 0) hR rfl (by kernel_rfl) rfl (by kernel_rfl) (fun w _ => by kernel_rfl) ((BoxAt.ext hX52 bO10_0).1) ?_
            refine wd_step 8 hR rfl (by kernel_rfl) (by kernel_rfl) (by kernel_rfl) (sn_set (O := O271) (j := 0) (v := .slice (some ⟨B282, 0, none⟩) 24 k283) (ex_store (p := .pointer (some ⟨O271, 0, none⟩)) (v := .agg #[.slice (some ⟨B282, 0, none⟩) 24 k283]) rfl (by kernel_rfl) (by kernel_rfl) (st25 bO271_0.1 bO271_0.2)) bO271_0 ?_)
            intro X289 ho hv0 hk
            replace hE := ho.ext hE (Nat.le_trans (Nat.le_trans hs2 (Nat.le_trans hs8 (Nat.le_trans hs12 (Nat.le_trans hs15 (Nat.le_trans hs24 (Nat.le_trans hs37 (Nat.le_trans hs42 (Nat.le_trans hs46 (Nat.le_trans hs49 (Nat.le_trans hs51 (Nat.le_trans hs55 (Nat.le_trans hs64 (Nat.le_trans hs68 (Nat.le_trans hs77 (Nat.le_trans hs81 (Nat.le_trans hs92 (Nat.le_trans hs98 (Nat.le_trans hs102 (Nat.le_trans hs118 (Nat.le_trans hs128 (Nat.le_trans hs132 (Nat.le_trans hs135 (Nat.le_trans hn165 (Nat.le_trans hn200 (Nat.le_trans hs208 (Nat.le_trans hs221 (Nat.le_trans hs226 (Nat.le_trans hs230 (Nat.le_trans hs233 (Nat.le_trans hs235 hs237)))))))))))))))))))))))))))))) (Nat.le_of_eq hzO271))
            replace hX25 := ho.ext hX25 (Nat.le_trans (Nat.le_trans hs37 (Nat.le_trans hs42 (Nat.le_trans hs46 (Nat.le_trans hs49 (Nat.le_trans hs51 (Nat.le_trans hs55 (Nat.le_trans hs64 (Nat.le_trans hs68 (Nat.le_trans hs77 (Nat.le_trans hs81 (Nat.le_trans hs92 (Nat.le_trans hs98 (Nat.le_trans hs102 (Nat.le_trans hs118 (Nat.le_trans hs128 (Nat.le_trans hs132 (Nat.le_trans hs135 (Nat.le_trans hn165 (Nat.le_trans hn200 (Nat.le_trans hs208 (Nat.le_trans hs221 (Nat.le_trans hs226 (Nat.le_trans hs230 (Nat.le_trans hs233 (Nat.le_trans hs235 hs237))))))))))))))))))))))))) (Nat.le_of_eq hzO271))
            replace hX52 := ho.ext hX52 (Nat.le_trans (Nat.le_trans hs55 (Nat.le_trans hs64 (Nat.le_trans hs68 (Nat.le_trans hs77 (Nat.le_trans hs81 (Nat.le_trans hs92 (Nat.le_trans hs98 (Nat.le_trans hs102 (Nat.le_trans hs118 (Nat.le_trans hs128 (Nat.le_trans hs132 (Nat.le_trans hs135 (Nat.le_trans hn165 (Nat.le_trans hn200 (Nat.le_trans hs208 (Nat.le_trans hs221 (Nat.le_trans hs226 (Nat.le_trans hs230 (Nat.le_trans hs233 (Nat.le_trans hs235 hs237)))))))))))))))))))) (Nat.le_of_eq hzO271))
            replace hX209 := ho.ext hX209 (Nat.le_trans (Nat.le_trans hs221 (Nat.le_trans hs226 (Nat.le_trans hs230 (Nat.le_trans hs233 (Nat.le_trans hs235 hs237))))) (Nat.le_of_eq hzO271))
            replace v216 := ho.va (Nat.ne_of_gt (Nat.lt_of_lt_of_le lt222 (Nat.le_trans (Nat.le_trans hs226 (Nat.le_trans hs230 (Nat.le_trans hs233 (Nat.le_trans hs235 hs237)))) (Nat.le_of_eq hzO271)))) v216
            replace v217 := ho.va (Nat.ne_of_gt (Nat.lt_of_lt_of_le lt223 (Nat.le_trans (Nat.le_trans hs226 (Nat.le_trans hs230 (Nat.le_trans hs233 (Nat.le_trans hs235 hs237)))) (Nat.le_of_eq hzO271)))) v217
            replace bO224_0 := ho.box (Nat.ne_of_gt (Nat.lt_of_lt_of_le lt227 (Nat.le_trans (Nat.le_trans hs230 (Nat.le_trans hs233 (Nat.le_trans hs235 hs237))) (Nat.le_of_eq hzO271)))) bO224_0
            replace bO228_0 := ho.box (Nat.ne_of_gt (Nat.lt_of_lt_of_le lt231 (Nat.le_trans (Nat.le_trans hs233 (Nat.le_trans hs235 hs237)) (Nat.le_of_eq hzO271)))) bO228_0
            replace v277 := ho.va (Nat.ne_of_lt (Nat.lt_of_lt_of_le lt274 hn278)) v277
            replace v284 := ho.va (Nat.ne_of_lt (Nat.lt_of_lt_of_le lt274 (Nat.le_trans hs280 hn285))) v284
            have hs290 : w286.heap.size ≤ X289.heap.size := Nat.le_of_eq ho.size.symm
            clear ho hk bO271_0
            have bO271_0 := hv0; clear hv0
            refine ⟨(BoxAt.ext hX52 bO10_0).1, ?_⟩
            refine wd_take 9 (.int .i64 0) hR rfl (by kernel_rfl) rfl (by kernel_rfl) (fun w _ => by kernel_rfl) ((BoxAt.ext hX52 bO10_0).1) ?_
            refine wd_end hL hR hK (by kernel_rfl) ?_
            exact qw_leaf hJ [10, 11, 12, 13, 21, 22, 23, 24, 25] (ws' := [(10, .slice (some ⟨sb, so, none⟩) t17 lc19), (11, .pointer (some ⟨O40, 0, none⟩)), (12, .pointer (some ⟨O44, 0, none⟩)), (13, .int .i64 0), (21, .pointer (some ⟨O224, 0, none⟩)), (22, .pointer (some ⟨O228, 0, none⟩)), (23, .int .i64 0), (24, .pointer (some ⟨O271, 0, none⟩)), (25, .int .i64 0)]) (by kernel_rfl) ⟨B275, k276, B282, k283, O271, rfl, hE, hX25, hX52, hX209, v216, v217, bO224_0, bO228_0, v277, v284, bO271_0, (Nat.le_trans hs237 (Nat.le_trans hs273 (Nat.le_trans hs280 (Nat.le_trans hs287 hs290)))), (Nat.le_trans (Nat.le_trans hs237 hs273) hn278), (Nat.le_trans (Nat.le_trans hs237 (Nat.le_trans hs273 hs280)) hn285), (Nat.le_trans hs237 (Nat.le_of_eq hzO271)), Lib.hid (Nat.ne_of_lt (Nat.lt_of_lt_of_le lt281 hn285)), Lib.hid (Nat.ne_of_gt (Nat.lt_of_lt_of_le lt274 hn278)), Lib.hid (Nat.ne_of_gt (Nat.lt_of_lt_of_le lt274 (Nat.le_trans hs280 hn285)))⟩
        ·
          clear v216 v217 bO224_0 bO228_0 hE hX25 hX52 hX209
          rintro L ws Y291 ⟨B238, k239, B245, k246, O252, rfl, hE, hX25, hX52, hX209, v216, v217, bO224_0, bO228_0, v240, v247, bO252_0, hn292, hn293, hn294, hn295, hn296, hn297, hn298⟩
          have lt299 := v240.lt
          have lt300 := v247.lt
          have lt301 := bO252_0.lt
          refine qw_then ?_
          refine cw_seq ?_
          refine cw_plain ?_
          refine pl_take (.agg #[.slice (some ⟨B245, 0, none⟩) 24 k246]) rfl (by kernel_rfl) (by kernel_rfl) (by kernel_rfl) (ex_load rfl (by kernel_rfl) (ld25 (bO252_0.1))) ?_
          refine pl_take (.slice (some ⟨sb, so, none⟩) t17 lc19) rfl (by kernel_rfl) (by kernel_rfl) (by kernel_rfl) (by kernel_rfl) ?_
          refine pl_step rfl (by kernel_rfl) (by kernel_rfl) (by kernel_rfl) (sn_call (f := 15) (args := #[.agg #[.slice (some ⟨B245, 0, none⟩) 24 k246], .slice (some ⟨sb, so, none⟩) t17 lc19]) (by kernel_rfl) ((Uncovered_v _ _ _ v247 (Ext.refl _) sS20 hX25 hok21).mono ?_))
          rintro e w312 ⟨B302, o303, k304, B305, o306, k307, rfl, v308, v309, hn310, hn311, hb⟩
          replace hE := hE.trans hb
          replace hX25 := hX25.trans hb
          replace hX52 := hX52.trans hb
          replace hX209 := hX209.trans hb
          replace v216 := v216.ext hb
          replace v217 := v217.ext hb
          replace bO224_0 := BoxAt.ext hb bO224_0
          replace bO228_0 := BoxAt.ext hb bO228_0
          replace v240 := v240.ext hb
          replace v247 := v247.ext hb
          replace bO252_0 := BoxAt.ext hb bO252_0
          have hs313 := hb.size
          clear hb
          have lt314 := v308.lt
          have lt315 := v309.lt
          refine ⟨_, rfl, ?_⟩
          refine pl_take (.tuple #[.agg #[.slice (some ⟨B302, o303, none⟩) 24 k304], .agg #[.slice (some ⟨B305, o306, none⟩) 24 k307], .int .i64 0]) rfl (by kernel_rfl) (by kernel_rfl) (by kernel_rfl) (by kernel_rfl) ?_
          refine pl_take (.agg #[.slice (some ⟨B302, o303, none⟩) 24 k304]) rfl (by kernel_rfl) (by kernel_rfl) (by kernel_rfl) (by kernel_rfl) ?_
          refine pl_take (.agg #[.slice (some ⟨B305, o306, none⟩) 24 k307]) rfl (by kernel_rfl) (by kernel_rfl) (by kernel_rfl) (by kernel_rfl) ?_
          refine pl_take (.int .i64 0) rfl (by kernel_rfl) (by kernel_rfl) (by kernel_rfl) (by kernel_rfl) ?_
          refine pl_step rfl (by kernel_rfl) (by kernel_rfl) (by kernel_rfl) (sn_new (us := #[.slice none 0 0]) (t := 25) (by kernel_rfl) ?_)
          intro O316 X317 hO hOs hb hbx
          have hzO316 := hO; have hyO316 := hOs; clear hO hOs
          have bO316_0 : BoxAt X317 O316 0 (.slice none 0 0) := hbx 0 _ rfl
          clear hbx
          replace hE := hE.trans hb
          replace hX25 := hX25.trans hb
          replace hX52 := hX52.trans hb
          replace hX209 := hX209.trans hb
          replace v216 := v216.ext hb
          replace v217 := v217.ext hb
          replace bO224_0 := BoxAt.ext hb bO224_0
          replace bO228_0 := BoxAt.ext hb bO228_0
          replace v240 := v240.ext hb
          replace v247 := v247.ext hb
          replace bO252_0 := BoxAt.ext hb bO252_0
          replace v308 := v308.ext hb
          replace v309 := v309.ext hb
          have hs318 := hb.size
          clear hb
          have lt319 := bO316_0.lt
          refine pl_step rfl (by kernel_rfl) (by kernel_rfl) (by kernel_rfl) (sn_new (us := #[.slice none 0 0]) (t := 25) (by kernel_rfl) ?_)
          intro O320 X321 hO hOs hb hbx
          have hzO320 := hO; have hyO320 := hOs; clear hO hOs
          have bO320_0 : BoxAt X321 O320 0 (.slice none 0 0) := hbx 0 _ rfl
          clear hbx
          replace hE := hE.trans hb
          replace hX25 := hX25.trans hb
          replace hX52 := hX52.trans hb
          replace hX209 := hX209.trans hb
          replace v216 := v216.ext hb
          replace v217 := v217.ext hb
          replace bO224_0 := BoxAt.ext hb bO224_0
          replace bO228_0 := BoxAt.ext hb bO228_0
          replace v240 := v240.ext hb
          replace v247 := v247.ext hb
          replace bO252_0 := BoxAt.ext hb bO252_0
          replace v308 := v308.ext hb
          replace v309 := v309.ext hb
          replace bO316_0 := BoxAt.ext hb bO316_0
          have hs322 := hb.size
          clear hb
          have lt323 := bO320_0.lt
          refine pl_put rfl (by kernel_rfl) (by kernel_rfl) (sn_set (O := O316) (j := 0) (v := .slice (some ⟨B302, o303, none⟩) 24 k304) (ex_store (p := .pointer (some ⟨O316, 0, none⟩)) (v := .agg #[.slice (some ⟨B302, o303, none⟩) 24 k304]) rfl (by kernel_rfl) (by kernel_rfl) (st25 bO316_0.1 bO316_0.2)) bO316_0 ?_)
          intro X324 ho hv0 hk
          replace hE := ho.ext hE (Nat.le_trans (Nat.le_trans hs2 (Nat.le_trans hs8 (Nat.le_trans hs12 (Nat.le_trans hs15 (Nat.le_trans hs24 (Nat.le_trans hs37 (Nat.le_trans hs42 (Nat.le_trans hs46 (Nat.le_trans hs49 (Nat.le_trans hs51 (Nat.le_trans hs55 (Nat.le_trans hs64 (Nat.le_trans hs68 (Nat.le_trans hs77 (Nat.le_trans hs81 (Nat.le_trans hs92 (Nat.le_trans hs98 (Nat.le_trans hs102 (Nat.le_trans hs118 (Nat.le_trans hs128 (Nat.le_trans hs132 (Nat.le_trans hs135 (Nat.le_trans hn165 (Nat.le_trans hn200 (Nat.le_trans hs208 (Nat.le_trans hs221 (Nat.le_trans hs226 (Nat.le_trans hs230 (Nat.le_trans hs233 (Nat.le_trans hs235 (Nat.le_trans hn292 hs313))))))))))))))))))))))))))))))) (Nat.le_of_eq hzO316))
          replace hX25 := ho.ext hX25 (Nat.le_trans (Nat.le_trans hs37 (Nat.le_trans hs42 (Nat.le_trans hs46 (Nat.le_trans hs49 (Nat.le_trans hs51 (Nat.le_trans hs55 (Nat.le_trans hs64 (Nat.le_trans hs68 (Nat.le_trans hs77 (Nat.le_trans hs81 (Nat.le_trans hs92 (Nat.le_trans hs98 (Nat.le_trans hs102 (Nat.le_trans hs118 (Nat.le_trans hs128 (Nat.le_trans hs132 (Nat.le_trans hs135 (Nat.le_trans hn165 (Nat.le_trans hn200 (Nat.le_trans hs208 (Nat.le_trans hs221 (Nat.le_trans hs226 (Nat.le_trans hs230 (Nat.le_trans hs233 (Nat.le_trans hs235 (Nat.le_trans hn292 hs313)))))))))))))))))))))))))) (Nat.le_of_eq hzO316))
          replace hX52 := ho.ext hX52 (Nat.le_trans (Nat.le_trans hs55 (Nat.le_trans hs64 (Nat.le_trans hs68 (Nat.le_trans hs77 (Nat.le_trans hs81 (Nat.le_trans hs92 (Nat.le_trans hs98 (Nat.le_trans hs102 (Nat.le_trans hs118 (Nat.le_trans hs128 (Nat.le_trans hs132 (Nat.le_trans hs135 (Nat.le_trans hn165 (Nat.le_trans hn200 (Nat.le_trans hs208 (Nat.le_trans hs221 (Nat.le_trans hs226 (Nat.le_trans hs230 (Nat.le_trans hs233 (Nat.le_trans hs235 (Nat.le_trans hn292 hs313))))))))))))))))))))) (Nat.le_of_eq hzO316))
          replace hX209 := ho.ext hX209 (Nat.le_trans (Nat.le_trans hs221 (Nat.le_trans hs226 (Nat.le_trans hs230 (Nat.le_trans hs233 (Nat.le_trans hs235 (Nat.le_trans hn292 hs313)))))) (Nat.le_of_eq hzO316))
          replace v216 := ho.va (Nat.ne_of_gt (Nat.lt_of_lt_of_le lt222 (Nat.le_trans (Nat.le_trans hs226 (Nat.le_trans hs230 (Nat.le_trans hs233 (Nat.le_trans hs235 (Nat.le_trans hn292 hs313))))) (Nat.le_of_eq hzO316)))) v216
          replace v217 := ho.va (Nat.ne_of_gt (Nat.lt_of_lt_of_le lt223 (Nat.le_trans (Nat.le_trans hs226 (Nat.le_trans hs230 (Nat.le_trans hs233 (Nat.le_trans hs235 (Nat.le_trans hn292 hs313))))) (Nat.le_of_eq hzO316)))) v217
          replace bO224_0 := ho.box (Nat.ne_of_gt (Nat.lt_of_lt_of_le lt227 (Nat.le_trans (Nat.le_trans hs230 (Nat.le_trans hs233 (Nat.le_trans hs235 (Nat.le_trans hn292 hs313)))) (Nat.le_of_eq hzO316)))) bO224_0
          replace bO228_0 := ho.box (Nat.ne_of_gt (Nat.lt_of_lt_of_le lt231 (Nat.le_trans (Nat.le_trans hs233 (Nat.le_trans hs235 (Nat.le_trans hn292 hs313))) (Nat.le_of_eq hzO316)))) bO228_0
          replace v240 := ho.va (Nat.ne_of_gt (Nat.lt_of_lt_of_le lt299 (Nat.le_trans hs313 (Nat.le_of_eq hzO316)))) v240
          replace v247 := ho.va (Nat.ne_of_gt (Nat.lt_of_lt_of_le lt300 (Nat.le_trans hs313 (Nat.le_of_eq hzO316)))) v247
          replace bO252_0 := ho.box (Nat.ne_of_gt (Nat.lt_of_lt_of_le lt301 (Nat.le_trans hs313 (Nat.le_of_eq hzO316)))) bO252_0
          replace v308 := ho.va (Nat.ne_of_gt (Nat.lt_of_lt_of_le lt314 (Nat.le_of_eq hzO316))) v308
          replace v309 := ho.va (Nat.ne_of_gt (Nat.lt_of_lt_of_le lt315 (Nat.le_of_eq hzO316))) v309
          replace bO320_0 := ho.box (Nat.ne_of_lt (Nat.lt_of_lt_of_le lt319 (Nat.le_of_eq hzO320))) bO320_0
          have hs325 : X321.heap.size ≤ X324.heap.size := Nat.le_of_eq ho.size.symm
          clear ho hk bO316_0
          have bO316_0 := hv0; clear hv0
          refine pl_put rfl (by kernel_rfl) (by kernel_rfl) (sn_set (O := O320) (j := 0) (v := .slice (some ⟨B305, o306, none⟩) 24 k307) (ex_store (p := .pointer (some ⟨O320, 0, none⟩)) (v := .agg #[.slice (some ⟨B305, o306, none⟩) 24 k307]) rfl (by kernel_rfl) (by kernel_rfl) (st25 bO320_0.1 bO320_0.2)) bO320_0 ?_)
          intro X326 ho hv0 hk
          replace hE := ho.ext hE (Nat.le_trans (Nat.le_trans hs2 (Nat.le_trans hs8 (Nat.le_trans hs12 (Nat.le_trans hs15 (Nat.le_trans hs24 (Nat.le_trans hs37 (Nat.le_trans hs42 (Nat.le_trans hs46 (Nat.le_trans hs49 (Nat.le_trans hs51 (Nat.le_trans hs55 (Nat.le_trans hs64 (Nat.le_trans hs68 (Nat.le_trans hs77 (Nat.le_trans hs81 (Nat.le_trans hs92 (Nat.le_trans hs98 (Nat.le_trans hs102 (Nat.le_trans hs118 (Nat.le_trans hs128 (Nat.le_trans hs132 (Nat.le_trans hs135 (Nat.le_trans hn165 (Nat.le_trans hn200 (Nat.le_trans hs208 (Nat.le_trans hs221 (Nat.le_trans hs226 (Nat.le_trans hs230 (Nat.le_trans hs233 (Nat.le_trans hs235 (Nat.le_trans hn292 (Nat.le_trans hs313 hs318)))))))))))))))))))))))))))))))) (Nat.le_of_eq hzO320))
          replace hX25 := ho.ext hX25 (Nat.le_trans (Nat.le_trans hs37 (Nat.le_trans hs42 (Nat.le_trans hs46 (Nat.le_trans hs49 (Nat.le_trans hs51 (Nat.le_trans hs55 (Nat.le_trans hs64 (Nat.le_trans hs68 (Nat.le_trans hs77 (Nat.le_trans hs81 (Nat.le_trans hs92 (Nat.le_trans hs98 (Nat.le_trans hs102 (Nat.le_trans hs118 (Nat.le_trans hs128 (Nat.le_trans hs132 (Nat.le_trans hs135 (Nat.le_trans hn165 (Nat.le_trans hn200 (Nat.le_trans hs208 (Nat.le_trans hs221 (Nat.le_trans hs226 (Nat.le_trans hs230 (Nat.le_trans hs233 (Nat.le_trans hs235 (Nat.le_trans hn292 (Nat.le_trans hs313 hs318))))))))))))))))))))))))))) (Nat.le_of_eq hzO320))
          replace hX52 := ho.ext hX52 (Nat.le_trans (Nat.le_trans hs55 (Nat.le_trans hs64 (Nat.le_trans hs68 (Nat.le_trans hs77 (Nat.le_trans hs81 (Nat.le_trans hs92 (Nat.le_trans hs98 (Nat.le_trans hs102 (Nat.le_trans hs118 (Nat.le_trans hs128 (Nat.le_trans hs132 (Nat.le_trans hs135 (Nat.le_trans hn165 (Nat.le_trans hn200 (Nat.le_trans hs208 (Nat.le_trans hs221 (Nat.le_trans hs226 (Nat.le_trans hs230 (Nat.le_trans hs233 (Nat.le_trans hs235 (Nat.le_trans hn292 (Nat.le_trans hs313 hs318)))))))))))))))))))))) (Nat.le_of_eq hzO320))
          replace hX209 := ho.ext hX209 (Nat.le_trans (Nat.le_trans hs221 (Nat.le_trans hs226 (Nat.le_trans hs230 (Nat.le_trans hs233 (Nat.le_trans hs235 (Nat.le_trans hn292 (Nat.le_trans hs313 hs318))))))) (Nat.le_of_eq hzO320))
          replace v216 := ho.va (Nat.ne_of_gt (Nat.lt_of_lt_of_le lt222 (Nat.le_trans (Nat.le_trans hs226 (Nat.le_trans hs230 (Nat.le_trans hs233 (Nat.le_trans hs235 (Nat.le_trans hn292 (Nat.le_trans hs313 hs318)))))) (Nat.le_of_eq hzO320)))) v216
          replace v217 := ho.va (Nat.ne_of_gt (Nat.lt_of_lt_of_le lt223 (Nat.le_trans (Nat.le_trans hs226 (Nat.le_trans hs230 (Nat.le_trans hs233 (Nat.le_trans hs235 (Nat.le_trans hn292 (Nat.le_trans hs313 hs318)))))) (Nat.le_of_eq hzO320)))) v217
          replace bO224_0 := ho.box (Nat.ne_of_gt (Nat.lt_of_lt_of_le lt227 (Nat.le_trans (Nat.le_trans hs230 (Nat.le_trans hs233 (Nat.le_trans hs235 (Nat.le_trans hn292 (Nat.le_trans hs313 hs318))))) (Nat.le_of_eq hzO320)))) bO224_0
          replace bO228_0 := ho.box (Nat.ne_of_gt (Nat.lt_of_lt_of_le lt231 (Nat.le_trans (Nat.le_trans hs233 (Nat.le_trans hs235 (Nat.le_trans hn292 (Nat.le_trans hs313 hs318)))) (Nat.le_of_eq hzO320)))) bO228_0
          replace v240 := ho.va (Nat.ne_of_gt (Nat.lt_of_lt_of_le lt299 (Nat.le_trans (Nat.le_trans hs313 hs318) (Nat.le_of_eq hzO320)))) v240
          replace v247 := ho.va (Nat.ne_of_gt (Nat.lt_of_lt_of_le lt300 (Nat.le_trans (Nat.le_trans hs313 hs318) (Nat.le_of_eq hzO320)))) v247
          replace bO252_0 := ho.box (Nat.ne_of_gt (Nat.lt_of_lt_of_le lt301 (Nat.le_trans (Nat.le_trans hs313 hs318) (Nat.le_of_eq hzO320)))) bO252_0
          replace v308 := ho.va (Nat.ne_of_gt (Nat.lt_of_lt_of_le lt314 (Nat.le_trans hs318 (Nat.le_of_eq hzO320)))) v308
          replace v309 := ho.va (Nat.ne_of_gt (Nat.lt_of_lt_of_le lt315 (Nat.le_trans hs318 (Nat.le_of_eq hzO320)))) v309
          replace bO316_0 := ho.box (Nat.ne_of_gt (Nat.lt_of_lt_of_le lt319 (Nat.le_of_eq hzO320))) bO316_0
          have hs327 : X324.heap.size ≤ X326.heap.size := Nat.le_of_eq ho.size.symm
          clear ho hk bO320_0
          have bO320_0 := hv0; clear hv0
          refine pl_take (.int .i64 0) rfl (by kernel_rfl) (by kernel_rfl) (by kernel_rfl) (by kernel_rfl) ?_
          refine pl_nil ?_
          refine qw_then ?_
          refine cw_clean [11, 12, 13, 21, 22, 23, 25, 26, 27, 28] (ws' := [(11, .pointer (some ⟨O40, 0, none⟩)), (12, .pointer (some ⟨O44, 0, none⟩)), (13, .int .i64 0), (21, .pointer (some ⟨O224, 0, none⟩)), (22, .pointer (some ⟨O228, 0, none⟩)), (23, .int .i64 0), (25, .int .i64 0), (26, .pointer (some ⟨O316, 0, none⟩)), (27, .pointer (some ⟨O320, 0, none⟩)), (28, .int .i64 0)]) (by kernel_rfl) (fun L => ?_)
          refine cw_seq ?_
          refine cw_seq ?_
          refine cw_plain ?_
          refine pl_take (.int .i64 0) rfl (by kernel_rfl) (by kernel_rfl) (by kernel_rfl) (by kernel_rfl) ?_
          refine pl_take (.bool false) rfl (by kernel_rfl) (by kernel_rfl) (by kernel_rfl) (by kernel_rfl) ?_
          refine pl_take (.bool false) rfl (by kernel_rfl) (by kernel_rfl) (by kernel_rfl) (by kernel_rfl) ?_
          refine pl_take (.int .i64 0) rfl (by kernel_rfl) (by kernel_rfl) (by kernel_rfl) (by kernel_rfl) ?_
          refine pl_take (.bool false) rfl (by kernel_rfl) (by kernel_rfl) (by kernel_rfl) (by kernel_rfl) ?_
          refine pl_take (.bool false) rfl (by kernel_rfl) (by kernel_rfl) (by kernel_rfl) (by kernel_rfl) ?_
          refine pl_take (.bool false) rfl (by kernel_rfl) (by kernel_rfl) (by kernel_rfl) (by kernel_rfl) ?_
          refine pl_take (.int .i64 0) rfl (by kernel_rfl) (by kernel_rfl) (by kernel_rfl) (by kernel_rfl) ?_
          refine pl_take (.bool false) rfl (by kernel_rfl) (by kernel_rfl) (by kernel_rfl) (by kernel_rfl) ?_
          refine pl_take (.bool false) rfl (by kernel_rfl) (by kernel_rfl) (by kernel_rfl) (by kernel_rfl) ?_
          refine pl_take (.bool false) rfl (by kernel_rfl) (by kernel_rfl) (by kernel_rfl) (by kernel_rfl) ?_
          refine pl_take (.int .i64 0) rfl (by kernel_rfl) (by kernel_rfl) (by kernel_rfl) (by kernel_rfl) ?_
          refine pl_take (.bool false) rfl (by kernel_rfl) (by kernel_rfl) (by kernel_rfl) (by kernel_rfl) ?_
          refine pl_take (.bool false) rfl (by kernel_rfl) (by kernel_rfl) (by kernel_rfl) (by kernel_rfl) ?_
          refine pl_nil ?_
          refine qw_then ?_
          refine cw_clean [11, 12, 21, 22, 26, 27, 132] (ws' := [(11, .pointer (some ⟨O40, 0, none⟩)), (12, .pointer (some ⟨O44, 0, none⟩)), (21, .pointer (some ⟨O224, 0, none⟩)), (22, .pointer (some ⟨O228, 0, none⟩)), (26, .pointer (some ⟨O316, 0, none⟩)), (27, .pointer (some ⟨O320, 0, none⟩)), (132, .bool false)]) (by kernel_rfl) (fun L => ?_)
          refine cw_f (by kernel_rfl) ?_
          refine cw_skip ?_
          refine qw_then ?_
          refine cw_seq ?_
          refine cw_plain ?_
          refine pl_take (.agg #[.slice (some ⟨B26, o27, none⟩) 24 k28]) rfl (by kernel_rfl) (by kernel_rfl) (by kernel_rfl) (ex_load rfl (by kernel_rfl) (ld25 ((BoxAt.ext hX52 bO40_0).1))) ?_
          refine pl_take (.agg #[.slice (some ⟨B210, o211, none⟩) 24 k212]) rfl (by kernel_rfl) (by kernel_rfl) (by kernel_rfl) (ex_load rfl (by kernel_rfl) (ld25 (bO224_0.1))) ?_
          refine pl_step rfl (by kernel_rfl) (by kernel_rfl) (by kernel_rfl) (sn_call (f := 32) (args := #[.agg #[.slice (some ⟨B26, o27, none⟩) 24 k28], .agg #[.slice (some ⟨B210, o211, none⟩) 24 k212]]) (by kernel_rfl) ((Contains_r _ _ _ (v32.ext hX52) (Ext.refl _) v216 (Ext.refl _) (Globe.left_sub v5.2 v5.2 (fun _ _ _ _ h => h) (Globe.wider_2 wid))).mono ?_))
          rintro e w328 ⟨rfl, hb⟩
          replace hE := hE.trans hb
          replace hX25 := hX25.trans hb
          replace hX52 := hX52.trans hb
          replace hX209 := hX209.trans hb
          replace v216 := v216.ext hb
          replace v217 := v217.ext hb
          replace bO224_0 := BoxAt.ext hb bO224_0
          replace bO228_0 := BoxAt.ext hb bO228_0
          replace v240 := v240.ext hb
          replace v247 := v247.ext hb
          replace bO252_0 := BoxAt.ext hb bO252_0
          replace v308 := v308.ext hb
          replace v309 := v309.ext hb
          replace bO316_0 := BoxAt.ext hb bO316_0
          replace bO320_0 := BoxAt.ext hb bO320_0
          have hs329 := hb.size
          clear hb
          refine ⟨_, rfl, ?_⟩
          refine pl_take (.bool true) rfl (by kernel_rfl) (by kernel_rfl) (by kernel_rfl) (by kernel_rfl) ?_
          refine pl_take (.agg #[.slice (some ⟨B29, o30, none⟩) 24 k31]) rfl (by kernel_rfl) (by kernel_rfl) (by kernel_rfl) (ex_load rfl (by kernel_rfl) (ld25 ((BoxAt.ext hX52 bO44_0).1))) ?_
          refine pl_take (.agg #[.slice (some ⟨B213, o214, none⟩) 24 k215]) rfl (by kernel_rfl) (by kernel_rfl) (by kernel_rfl) (ex_load rfl (by kernel_rfl) (ld25 (bO228_0.1))) ?_
          refine pl_step rfl (by kernel_rfl) (by kernel_rfl) (by kernel_rfl) (sn_call (f := 32) (args := #[.agg #[.slice (some ⟨B29, o30, none⟩) 24 k31], .agg #[.slice (some ⟨B213, o214, none⟩) 24 k215]]) (by kernel_rfl) ((Contains_r _ _ _ (v33.ext hX52) (Ext.refl _) v217 (Ext.refl _) (Globe.left_sub v5.2 v5.2 (fun _ _ _ _ h => h) (Globe.wider_1 wid))).mono ?_))
          rintro e w330 ⟨rfl, hb⟩
          replace hE := hE.trans hb
          replace hX25 := hX25.trans hb
          replace hX52 := hX52.trans hb
          replace hX209 := hX209.trans hb
          replace v216 := v216.ext hb
          replace v217 := v217.ext hb
          replace bO224_0 := BoxAt.ext hb bO224_0
          replace bO228_0 := BoxAt.ext hb bO228_0
          replace v240 := v240.ext hb
          replace v247 := v247.ext hb
          replace bO252_0 := BoxAt.ext hb bO252_0
          replace v308 := v308.ext hb
          replace v309 := v309.ext hb
          replace bO316_0 := BoxAt.ext hb bO316_0
          replace bO320_0 := BoxAt.ext hb bO320_0
          have hs331 := hb.size
          clear hb
          refine ⟨_, rfl, ?_⟩
          refine pl_take (.bool true) rfl (by kernel_rfl) (by kernel_rfl) (by kernel_rfl) (by kernel_rfl) ?_
          refine pl_take (.bool true) rfl (by kernel_rfl) (by kernel_rfl) (by kernel_rfl) (by kernel_rfl) ?_
          refine pl_take (.agg #[.slice (some ⟨B26, o27, none⟩) 24 k28]) rfl (by kernel_rfl) (by kernel_rfl) (by kernel_rfl) (ex_load rfl (by kernel_rfl) (ld25 ((BoxAt.ext hX52 bO40_0).1))) ?_
          refine pl_take (.agg #[.slice (some ⟨B302, o303, none⟩) 24 k304]) rfl (by kernel_rfl) (by kernel_rfl) (by kernel_rfl) (ex_load rfl (by kernel_rfl) (ld25 (bO316_0.1))) ?_
          refine pl_step rfl (by kernel_rfl) (by kernel_rfl) (by kernel_rfl) (sn_call (f := 32) (args := #[.agg #[.slice (some ⟨B26, o27, none⟩) 24 k28], .agg #[.slice (some ⟨B302, o303, none⟩) 24 k304]]) (by kernel_rfl) ((Contains_r _ _ _ (v32.ext hX52) (Ext.refl _) v308 (Ext.refl _) (Globe.left_sub v5.2 (Globe.meet_valid v5.2) Globe.meet_in (Globe.same_each _))).mono ?_))
          rintro e w332 ⟨rfl, hb⟩
          replace hE := hE.trans hb
          replace hX25 := hX25.trans hb
          replace hX52 := hX52.trans hb
          replace hX209 := hX209.trans hb
          replace v216 := v216.ext hb
          replace v217 := v217.ext hb
          replace bO224_0 := BoxAt.ext hb bO224_0
          replace bO228_0 := BoxAt.ext hb bO228_0
          replace v240 := v240.ext hb
          replace v247 := v247.ext hb
          replace bO252_0 := BoxAt.ext hb bO252_0
          replace v308 := v308.ext hb
          replace v309 := v309.ext hb
          replace bO316_0 := BoxAt.ext hb bO316_0
          replace bO320_0 := BoxAt.ext hb bO320_0
          have hs333 := hb.size
          clear hb
          refine ⟨_, rfl, ?_⟩
          refine pl_take (.bool true) rfl (by kernel_rfl) (by kernel_rfl) (by kernel_rfl) (by kernel_rfl) ?_
          refine pl_take (.bool true) rfl (by kernel_rfl) (by kernel_rfl) (by kernel_rfl) (by kernel_rfl) ?_
          refine pl_take (.agg #[.slice (some ⟨B29, o30, none⟩) 24 k31]) rfl (by kernel_rfl) (by kernel_rfl) (by kernel_rfl) (ex_load rfl (by kernel_rfl) (ld25 ((BoxAt.ext hX52 bO44_0).1))) ?_
          refine pl_take (.agg #[.slice (some ⟨B305, o306, none⟩) 24 k307]) rfl (by kernel_rfl) (by kernel_rfl) (by kernel_rfl) (ex_load rfl (by kernel_rfl) (ld25 (bO320_0.1))) ?_
          refine pl_step rfl (by kernel_rfl) (by kernel_rfl) (by kernel_rfl) (sn_call (f := 32) (args := #[.agg #[.slice (some ⟨B29, o30, none⟩) 24 k31], .agg #[.slice (some ⟨B305, o306, none⟩) 24 k307]]) (by kernel_rfl) ((Contains_r _ _ _ (v33.ext hX52) (Ext.refl _) v309 (Ext.refl _) (Globe.left_sub v5.2 (Globe.meet_valid v5.2) Globe.meet_in (Globe.same_each _))).mono ?_))
          rintro e w334 ⟨rfl, hb⟩
          replace hE := hE.trans hb
          replace hX25 := hX25.trans hb
          replace hX52 := hX52.trans hb
          replace hX209 := hX209.trans hb
          replace v216 := v216.ext hb
          replace v217 := v217.ext hb
          replace bO224_0 := BoxAt.ext hb bO224_0
          replace bO228_0 := BoxAt.ext hb bO228_0
          replace v240 := v240.ext hb
          replace v247 := v247.ext hb
          replace bO252_0 := BoxAt.ext hb bO252_0
          replace v308 := v308.ext hb
          replace v309 := v309.ext hb
          replace bO316_0 := BoxAt.ext hb bO316_0
          replace bO320_0 := BoxAt.ext hb bO320_0
          have hs335 := hb.size
          clear hb
          refine ⟨_, rfl, ?_⟩
          refine pl_take (.bool true) rfl (by kernel_rfl) (by kernel_rfl) (by kernel_rfl) (by kernel_rfl) ?_
          refine pl_take (.bool true) rfl (by kernel_rfl) (by kernel_rfl) (by kernel_rfl) (by kernel_rfl) ?_
          refine pl_take (.agg #[.slice (some ⟨B29, o30, none⟩) 24 k31]) rfl (by kernel_rfl) (by kernel_rfl) (by kernel_rfl) (ex_load rfl (by kernel_rfl) (ld25 ((BoxAt.ext hX52 bO44_0).1))) ?_
          refine pl_take (.agg #[.slice (some ⟨B26, o27, none⟩) 24 k28]) rfl (by kernel_rfl) (by kernel_rfl) (by kernel_rfl) (ex_load rfl (by kernel_rfl) (ld25 ((BoxAt.ext hX52 bO40_0).1))) ?_
          refine pl_step rfl (by kernel_rfl) (by kernel_rfl) (by kernel_rfl) (sn_call (f := 32) (args := #[.agg #[.slice (some ⟨B29, o30, none⟩) 24 k31], .agg #[.slice (some ⟨B26, o27, none⟩) 24 k28]]) (by kernel_rfl) ((Contains_r _ _ _ (v33.ext hX52) (Ext.refl _) (v32.ext hX52) (Ext.refl _) (Globe.left_sub v5.2 v5.2 (fun _ _ _ _ h => h) (Globe.ok_self hok21))).mono ?_))
          rintro e w336 ⟨rfl, hb⟩
          replace hE := hE.trans hb
          replace hX25 := hX25.trans hb
          replace hX52 := hX52.trans hb
          replace hX209 := hX209.trans hb
          replace v216 := v216.ext hb
          replace v217 := v217.ext hb
          replace bO224_0 := BoxAt.ext hb bO224_0
          replace bO228_0 := BoxAt.ext hb bO228_0
          replace v240 := v240.ext hb
          replace v247 := v247.ext hb
          replace bO252_0 := BoxAt.ext hb bO252_0
          replace v308 := v308.ext hb
          replace v309 := v309.ext hb
          replace bO316_0 := BoxAt.ext hb bO316_0
          replace bO320_0 := BoxAt.ext hb bO320_0
          have hs337 := hb.size
          clear hb
          refine ⟨_, rfl, ?_⟩
          refine pl_take (.bool true) rfl (by kernel_rfl) (by kernel_rfl) (by kernel_rfl) (by kernel_rfl) ?_
          refine pl_take (.bool true) rfl (by kernel_rfl) (by kernel_rfl) (by kernel_rfl) (by kernel_rfl) ?_
          refine pl_nil ?_
          refine qw_then ?_
          refine cw_clean [8] (ws' := [(8, .bool true)]) (by kernel_rfl) (fun L => ?_)
          refine cw_ret ?_
          refine qw_ret [.bool true] rfl ⟨(by kernel_rfl), trivial⟩ ?_
          exact ⟨rfl, hE⟩
  ·
    refine pl_take (.bool false) rfl (by kernel_rfl) (by kernel_rfl) (by kernel_rfl) (ev_ndec (show _ = Result.ok (Next.value (Value.bool (decide ((((t17 : Nat) : Int) : Int) > (0 : Int))))) _ from by kernel_rfl) (hc122)) ?_
    refine pl_nil ?_
    refine qw_then ?_
    refine cw_f (by kernel_rfl) ?_
    refine cw_skip ?_
    refine qw_then ?_
    refine cw_seq ?_
    have pC := OwnL.strips own116 lM (by omega)
    have wid : Globe.wider ss16 (ss16 ++ [xs9]) := Globe.wider_app _ _
    refine cw_plain ?_
    refine pl_take (.agg #[.slice (some ⟨B3, 0, none⟩) 24 k4]) rfl (by kernel_rfl) (by kernel_rfl) (by kernel_rfl) (ex_load rfl (by kernel_rfl) (ld25 ((BoxAt.ext hX52 bO10_0).1))) ?_
    refine pl_take (.slice (some ⟨g112, 0, none⟩) (t17 + 1) cap113) rfl (by kernel_rfl) (by kernel_rfl) (by kernel_rfl) (by kernel_rfl) ?_
    refine pl_step rfl (by kernel_rfl) (by kernel_rfl) (by kernel_rfl) (sn_call (f := 15) (args := #[.agg #[.slice (some ⟨B3, 0, none⟩) 24 k4], .slice (some ⟨g112, 0, none⟩) (t17 + 1) cap113]) (by kernel_rfl) ((Uncovered_v _ _ _ (v5.ext hX52) (Ext.refl _) pC (Ext.refl _) okM).mono ?_))
    rintro e w348 ⟨B338, o339, k340, B341, o342, k343, rfl, v344, v345, hn346, hn347, hb⟩
    replace hE := hE.trans hb
    replace hX25 := hX25.trans hb
    replace hX52 := hX52.trans hb
    replace hX121 := hX121.trans hb
    have hs349 := hb.size
    clear hb
    have lt350 := v344.lt
    have lt351 := v345.lt
    refine ⟨_, rfl, ?_⟩
    refine pl_take (.tuple #[.agg #[.slice (some ⟨B338, o339, none⟩) 24 k340], .agg #[.slice (some ⟨B341, o342, none⟩) 24 k343], .int .i64 0]) rfl (by kernel_rfl) (by kernel_rfl) (by kernel_rfl) (by kernel_rfl) ?_
    refine pl_take (.agg #[.slice (some ⟨B338, o339, none⟩) 24 k340]) rfl (by kernel_rfl) (by kernel_rfl) (by kernel_rfl) (by kernel_rfl) ?_
    refine pl_take (.agg #[.slice (some ⟨B341, o342, none⟩) 24 k343]) rfl (by kernel_rfl) (by kernel_rfl) (by kernel_rfl) (by kernel_rfl) ?_
    refine pl_take (.int .i64 0) rfl (by kernel_rfl) (by kernel_rfl) (by kernel_rfl) (by kernel_rfl) ?_
    refine pl_step rfl (by kernel_rfl) (by kernel_rfl) (by kernel_rfl) (sn_new (us := #[.slice none 0 0]) (t := 25) (by kernel_rfl) ?_)
    intro O352 X353 hO hOs hb hbx
    have hzO352 := hO; have hyO352 := hOs; clear hO hOs
    have bO352_0 : BoxAt X353 O352 0 (.slice none 0 0) := hbx 0 _ rfl
    clear hbx
    replace hE := hE.trans hb
    replace hX25 := hX25.trans hb
    replace hX52 := hX52.trans hb
    replace hX121 := hX121.trans hb
    replace v344 := v344.ext hb
    replace v345 := v345.ext hb
    have hs354 := hb.size
    clear hb
    have lt355 := bO352_0.lt
    refine pl_step rfl (by kernel_rfl) (by kernel_rfl) (by kernel_rfl) (sn_new (us := #[.slice none 0 0]) (t := 25) (by kernel_rfl) ?_)
    intro O356 X357 hO hOs hb hbx
    have hzO356 := hO; have hyO356 := hOs; clear hO hOs
    have bO356_0 : BoxAt X357 O356 0 (.slice none 0 0) := hbx 0 _ rfl
    clear hbx
    replace hE := hE.trans hb
    replace hX25 := hX25.trans hb
    replace hX52 := hX52.trans hb
    replace hX121 := hX121.trans hb
    replace v344 := v344.ext hb
    replace v345 := v345.ext hb
    replace bO352_0 := BoxAt.ext hb bO352_0
    have hs358 := hb.size
    clear hb
    have lt359 := bO356_0.lt
    refine pl_put rfl (by kernel_rfl) (by kernel_rfl) (sn_set (O := O352) (j := 0) (v := .slice (some ⟨B338, o339, none⟩) 24 k340) (ex_store (p := .pointer (some ⟨O352, 0, none⟩)) (v := .agg #[.slice (some ⟨B338, o339, none⟩) 24 k340]) rfl (by kernel_rfl) (by kernel_rfl) (st25 bO352_0.1 bO352_0.2)) bO352_0 ?_)
    intro X360 ho hv0 hk
    replace hE := ho.ext hE (Nat.le_trans (Nat.le_trans hs2 (Nat.le_trans hs8 (Nat.le_trans hs12 (Nat.le_trans hs15 (Nat.le_trans hs24 (Nat.le_trans hs37 (Nat.le_trans hs42 (Nat.le_trans hs46 (Nat.le_trans hs49 (Nat.le_trans hs51 (Nat.le_trans hs55 (Nat.le_trans hs64 (Nat.le_trans hs68 (Nat.le_trans hs77 (Nat.le_trans hs81 (Nat.le_trans hs92 (Nat.le_trans hs98 (Nat.le_trans hs102 (Nat.le_trans hs118 hs349))))))))))))))))))) (Nat.le_of_eq hzO352))
    replace hX25 := ho.ext hX25 (Nat.le_trans (Nat.le_trans hs37 (Nat.le_trans hs42 (Nat.le_trans hs46 (Nat.le_trans hs49 (Nat.le_trans hs51 (Nat.le_trans hs55 (Nat.le_trans hs64 (Nat.le_trans hs68 (Nat.le_trans hs77 (Nat.le_trans hs81 (Nat.le_trans hs92 (Nat.le_trans hs98 (Nat.le_trans hs102 (Nat.le_trans hs118 hs349)))))))))))))) (Nat.le_of_eq hzO352))
    replace hX52 := ho.ext hX52 (Nat.le_trans (Nat.le_trans hs55 (Nat.le_trans hs64 (Nat.le_trans hs68 (Nat.le_trans hs77 (Nat.le_trans hs81 (Nat.le_trans hs92 (Nat.le_trans hs98 (Nat.le_trans hs102 (Nat.le_trans hs118 hs349))))))))) (Nat.le_of_eq hzO352))
    replace hX121 := ho.ext hX121 (Nat.le_trans hs349 (Nat.le_of_eq hzO352))
    replace v344 := ho.va (Nat.ne_of_gt (Nat.lt_of_lt_of_le lt350 (Nat.le_of_eq hzO352))) v344
    replace v345 := ho.va (Nat.ne_of_gt (Nat.lt_of_lt_of_le lt351 (Nat.le_of_eq hzO352))) v345
    replace bO356_0 := ho.box (Nat.ne_of_lt (Nat.lt_of_lt_of_le lt355 (Nat.le_of_eq hzO356))) bO356_0
    have hs361 : X357.heap.size ≤ X360.heap.size := Nat.le_of_eq ho.size.symm
    clear ho hk bO352_0
    have bO352_0 := hv0; clear hv0
    refine pl_put rfl (by kernel_rfl) (by kernel_rfl) (sn_set (O := O356) (j := 0) (v := .slice (some ⟨B341, o342, none⟩) 24 k343) (ex_store (p := .pointer (some ⟨O356, 0, none⟩)) (v := .agg #[.slice (some ⟨B341, o342, none⟩) 24 k343]) rfl (by kernel_rfl) (by kernel_rfl) (st25 bO356_0.1 bO356_0.2)) bO356_0 ?_)
    intro X362 ho hv0 hk
    replace hE := ho.ext hE (Nat.le_trans (Nat.le_trans hs2 (Nat.le_trans hs8 (Nat.le_trans hs12 (Nat.le_trans hs15 (Nat.le_trans hs24 (Nat.le_trans hs37 (Nat.le_trans hs42 (Nat.le_trans hs46 (Nat.le_trans hs49 (Nat.le_trans hs51 (Nat.le_trans hs55 (Nat.le_trans hs64 (Nat.le_trans hs68 (Nat.le_trans hs77 (Nat.le_trans hs81 (Nat.le_trans hs92 (Nat.le_trans hs98 (Nat.le_trans hs102 (Nat.le_trans hs118 (Nat.le_trans hs349 hs354)))))))))))))))))))) (Nat.le_of_eq hzO356))
    replace hX25 := ho.ext hX25 (Nat.le_trans (Nat.le_trans hs37 (Nat.le_trans hs42 (Nat.le_trans hs46 (Nat.le_trans hs49 (Nat.le_trans hs51 (Nat.le_trans hs55 (Nat.le_trans hs64 (Nat.le_trans hs68 (Nat.le_trans hs77 (Nat.le_trans hs81 (Nat.le_trans hs92 (Nat.le_trans hs98 (Nat.le_trans hs102 (Nat.le_trans hs118 (Nat.le_trans hs349 hs354))))))))))))))) (Nat.le_of_eq hzO356))
    replace hX52 := ho.ext hX52 (Nat.le_trans (Nat.le_trans hs55 (Nat.le_trans hs64 (Nat.le_trans hs68 (Nat.le_trans hs77 (Nat.le_trans hs81 (Nat.le_trans hs92 (Nat.le_trans hs98 (Nat.le_trans hs102 (Nat.le_trans hs118 (Nat.le_trans hs349 hs354)))))))))) (Nat.le_of_eq hzO356))
    replace hX121 := ho.ext hX121 (Nat.le_trans (Nat.le_trans hs349 hs354) (Nat.le_of_eq hzO356))
    replace v344 := ho.va (Nat.ne_of_gt (Nat.lt_of_lt_of_le lt350 (Nat.le_trans hs354 (Nat.le_of_eq hzO356)))) v344
    replace v345 := ho.va (Nat.ne_of_gt (Nat.lt_of_lt_of_le lt351 (Nat.le_trans hs354 (Nat.le_of_eq hzO356)))) v345
    replace bO352_0 := ho.box (Nat.ne_of_gt (Nat.lt_of_lt_of_le lt355 (Nat.le_of_eq hzO356))) bO352_0
    have hs363 : X360.heap.size ≤ X362.heap.size := Nat.le_of_eq ho.size.symm
    clear ho hk bO356_0
    have bO356_0 := hv0; clear hv0
    refine pl_take (.int .i64 0) rfl (by kernel_rfl) (by kernel_rfl) (by kernel_rfl) (by kernel_rfl) ?_
    refine pl_nil ?_
    refine qw_then ?_
    refine cw_clean [2, 9, 10, 11, 12, 13, 21, 22, 23] (ws' := [(2, .slice a2 n2 c2), (9, .pointer (some ⟨O10, 0, none⟩)), (10, .slice la18 t17 lc19), (11, .pointer (some ⟨O40, 0, none⟩)), (12, .pointer (some ⟨O44, 0, none⟩)), (13, .int .i64 0), (21, .pointer (some ⟨O352, 0, none⟩)), (22, .pointer (some ⟨O356, 0, none⟩)), (23, .int .i64 0)]) (by kernel_rfl) (fun L => ?_)
    refine cw_seq ?_
    refine cw_join (fun ws' Y => ∃ B366 : Nat, ∃ k367 : Nat, ∃ B373 : Nat, ∃ k374 : Nat, ∃ O380 : Nat, ws' = [(10, .slice la18 t17 lc19), (11, .pointer (some ⟨O40, 0, none⟩)), (12, .pointer (some ⟨O44, 0, none⟩)), (13, .int .i64 0), (21, .pointer (some ⟨O352, 0, none⟩)), (22, .pointer (some ⟨O356, 0, none⟩)), (23, .int .i64 0), (24, .pointer (some ⟨O380, 0, none⟩)), (25, .int .i64 0)] ∧ Ext w Y ∧ Ext w23 Y ∧ Ext X50 Y ∧ Ext w114 Y ∧ VA Y B338 o339 (Globe.leftL (areaL q0 n0) ((ss16 ++ [xs9]).map fun s => s.2)) ∧ VA Y B341 o342 (Globe.leftL (areaL q0 n0) ((ss16 ++ [xs9]).map fun s => s.1)) ∧ BoxAt Y O352 0 (.slice (some ⟨B338, o339, none⟩) 24 k340) ∧ BoxAt Y O356 0 (.slice (some ⟨B341, o342, none⟩) 24 k343) ∧ VA Y B366 0 (areaL q2 n2) ∧ VA Y B373 0 (Globe.meetL (areaL q0 n0) (areaL q2 n2)) ∧ BoxAt Y O380 0 (.slice (some ⟨B373, 0, none⟩) 24 k374) ∧ X362.heap.size ≤ Y.heap.size ∧ X362.heap.size ≤ B366 ∧ X362.heap.size ≤ B373 ∧ X362.heap.size ≤ O380 ∧ Hid (B366 ≠ B373) ∧ Hid (B366 ≠ O380) ∧ Hid (B373 ≠ O380)) (fun hJ => ?_) ?_
    ·
      refine cw_draw [(some 106, [9], []), (some 107, [2], []), (some 108, [107], [1]), (some 109, [106, 108], [0, 2, 2]), (some 105, [109], [3]), (some 110, [105], [4]), (some 111, [105], [4]), (some 24, [], []), (none, [24, 110], [7, 5, 3, 0, 1, 2, 3, 4, 5, 7]), (some 25, [111], [6, 8, 0, 1, 2, 3, 4, 5, 6, 7, 8])] (fun w' => w'.cell? ⟨O10, 0, none⟩ = some (.slice (some ⟨B3, 0, none⟩) 24 k4)) (by kernel_rfl) (by kernel_rfl) (by kernel_rfl) (by kernel_rfl) ((calm_then calm_body)) ((BoxAt.ext hX52 bO10_0).1) (fun ops Q X364 hb hL hR hK => ?_)
      replace hE := hE.trans hb
      replace hX25 := hX25.trans hb
      replace hX52 := hX52.trans hb
      replace hX121 := hX121.trans hb
      replace v344 := v344.ext hb
      replace v345 := v345.ext hb
      replace bO352_0 := BoxAt.ext hb bO352_0
      replace bO356_0 := BoxAt.ext hb bO356_0
      have hs365 := hb.size
      clear hb
      refine wd_take 0 (.agg #[.slice (some ⟨B3, 0, none⟩) 24 k4]) hR rfl (by kernel_rfl) rfl (by kernel_rfl) (fun w hS => ex_load rfl (by kernel_rfl) (ld25 (hS))) ((BoxAt.ext hX52 bO10_0).1) ?_
      refine wd_take 1 (.slice a2 n2 c2) hR rfl (by kernel_rfl) rfl (by kernel_rfl) (fun w _ => by kernel_rfl) ((BoxAt.ext hX52 bO10_0).1) ?_
      refine wd_two 2 7 hR rfl rfl (by kernel_rfl) (by kernel_rfl) (by kernel_rfl) (by kernel_rfl) ?_ ?_
      ·
        refine sn_call (f := 11) (args := #[.slice a2 n2 c2]) (by kernel_rfl) ((Area_c _ _ Q2 hE (by omega)).mono ?_)
        rintro e w370 ⟨B366, k367, rfl, hn369, v368, hb⟩
        replace hE := hE.trans hb
        replace hX25 := hX25.trans hb
        replace hX52 := hX52.trans hb
        replace hX121 := hX121.trans hb
        replace v344 := v344.ext hb
        replace v345 := v345.ext hb
        replace bO352_0 := BoxAt.ext hb bO352_0
        replace bO356_0 := BoxAt.ext hb bO356_0
        have hs371 := hb.size
        clear hb
        have lt372 := v368.lt
        refine ⟨_, rfl, (BoxAt.ext hX52 bO10_0).1, ?_⟩
        refine wd_two 3 7 hR rfl rfl (by kernel_rfl) (by kernel_rfl) (by kernel_rfl) (by kernel_rfl) ?_ ?_
        ·
          refine sn_call (f := 28) (args := #[.agg #[.slice (some ⟨B3, 0, none⟩) 24 k4], .agg #[.slice (some ⟨B366, 0, none⟩) 24 k367]]) (by kernel_rfl) ((Meet_v _ _ _ (v5.ext hX52) (Ext.refl _) v368 (Ext.refl _)).mono ?_)
          rintro e w377 ⟨B373, k374, rfl, hn376, -, v375, hb⟩
          replace hE := hE.trans hb
          replace hX25 := hX25.trans hb
          replace hX52 := hX52.trans hb
          replace hX121 := hX121.trans hb
          replace v344 := v344.ext hb
          replace v345 := v345.ext hb
          replace bO352_0 := BoxAt.ext hb bO352_0
          replace bO356_0 := BoxAt.ext hb bO356_0
          replace v368 := v368.ext hb
          have hs378 := hb.size
          clear hb
          have lt379 := v375.lt
          refine ⟨_, rfl, (BoxAt.ext hX52 bO10_0).1, ?_⟩
          refine wd_take 4 (.tuple #[.agg #[.slice (some ⟨B373, 0, none⟩) 24 k374], .int .i64 0]) hR rfl (by kernel_rfl) rfl (by kernel_rfl) (fun w _ => by kernel_rfl) ((BoxAt.ext hX52 bO10_0).1) ?_
          refine wd_take 5 (.agg #[.slice (some ⟨B373, 0, none⟩) 24 k374]) hR rfl (by kernel_rfl) rfl (by kernel_rfl) (fun w _ => by kernel_rfl) ((BoxAt.ext hX52 bO10_0).1) ?_
          refine wd_take 6 (.int .i64 0) hR rfl (by kernel_rfl) rfl (by kernel_rfl) (fun w _ => by kernel_rfl) ((BoxAt.ext hX52 bO10_0).1) ?_
          refine wd_step 7 hR rfl (by kernel_rfl) (by kernel_rfl) (by kernel_rfl) (sn_new (us := #[.slice none 0 0]) (t := 25) (by kernel_rfl) ?_)
          intro O380 X381 hO hOs hb hbx
          have hzO380 := hO; have hyO380 := hOs; clear hO hOs
          have bO380_0 : BoxAt X381 O380 0 (.slice none 0 0) := hbx 0 _ rfl
          clear hbx
          replace hE := hE.trans hb
          replace hX25 := hX25.trans hb
          replace hX52 := hX52.trans hb
          replace hX121 := hX121.trans hb
          replace v344 := v344.ext hb
          replace v345 := v345.ext hb
          replace bO352_0 := BoxAt.ext hb bO352_0
          replace bO356_0 := BoxAt.ext hb bO356_0
          replace v368 := v368.ext hb
          replace v375 := v375.ext hb
          have hs382 := hb.size
          clear hb
          have lt383 := bO380_0.lt
          refine ⟨(BoxAt.ext hX52 bO10_0).1, ?_⟩
          refine wd_step 8 hR rfl (by kernel_rfl) (by kernel_rfl) (by kernel_rfl) (sn_set (O := O380) (j := 0) (v := .slice (some ⟨B373, 0, none⟩) 24 k374) (ex_store (p := .pointer (some ⟨O380, 0, none⟩)) (v := .agg #[.slice (some ⟨B373, 0, none⟩) 24 k374]) rfl (by kernel_rfl) (by kernel_rfl) (st25 bO380_0.1 bO380_0.2)) bO380_0 ?_)
          intro X384 ho hv0 hk
          replace hE := ho.ext hE (Nat.le_trans (Nat.le_trans hs2 (Nat.le_trans hs8 (Nat.le_trans hs12 (Nat.le_trans hs15 (Nat.le_trans hs24 (Nat.le_trans hs37 (Nat.le_trans hs42 (Nat.le_trans hs46 (Nat.le_trans hs49 (Nat.le_trans hs51 (Nat.le_trans hs55 (Nat.le_trans hs64 (Nat.le_trans hs68 (Nat.le_trans hs77 (Nat.le_trans hs81 (Nat.le_trans hs92 (Nat.le_trans hs98 (Nat.le_trans hs102 (Nat.le_trans hs118 (Nat.le_trans hs349 (Nat.le_trans hs354 (Nat.le_trans hs358 (Nat.le_trans hs361 (Nat.le_trans hs363 (Nat.le_trans hs365 (Nat.le_trans hs371 hs378)))))))))))))))))))))))))) (Nat.le_of_eq hzO380))
          replace hX25 := ho.ext hX25 (Nat.le_trans (Nat.le_trans hs37 (Nat.le_trans hs42 (Nat.le_trans hs46 (Nat.le_trans hs49 (Nat.le_trans hs51 (Nat.le_trans hs55 (Nat.le_trans hs64 (Nat.le_trans hs68 (Nat.le_trans hs77 (Nat.le_trans hs81 (Nat.le_trans hs92 (Nat.le_trans hs98 (Nat.le_trans hs102 (Nat.le_trans hs118 (Nat.le_trans hs349 (Nat.le_trans hs354 (Nat.le_trans hs358 (Nat.le_trans hs361 (Nat.le_trans hs363 (Nat.le_trans hs365 (Nat.le_trans hs371 hs378))))))))))))))))))))) (Nat.le_of_eq hzO380))
          replace hX52 := ho.ext hX52 (Nat.le_trans (Nat.le_trans hs55 (Nat.le_trans hs64 (Nat.le_trans hs68 (Nat.le_trans hs77 (Nat.le_trans hs81 (Nat.le_trans hs92 (Nat.le_trans hs98 (Nat.le_trans hs102 (Nat.le_trans hs118 (Nat.le_trans hs349 (Nat.le_trans hs354 (Nat.le_trans hs358 (Nat.le_trans hs361 (Nat.le_trans hs363 (Nat.le_trans hs365 (Nat.le_trans hs371 hs378)))))))))))))))) (Nat.le_of_eq hzO380))
          replace hX121 := ho.ext hX121 (Nat.le_trans (Nat.le_trans hs349 (Nat.le_trans hs354 (Nat.le_trans hs358 (Nat.le_trans hs361 (Nat.le_trans hs363 (Nat.le_trans hs365 (Nat.le_trans hs371 hs378))))))) (Nat.le_of_eq hzO380))
          replace v344 := ho.va (Nat.ne_of_gt (Nat.lt_of_lt_of_le lt350 (Nat.le_trans (Nat.le_trans hs354 (Nat.le_trans hs358 (Nat.le_trans hs361 (Nat.le_trans hs363 (Nat.le_trans hs365 (Nat.le_trans hs371 hs378)))))) (Nat.le_of_eq hzO380)))) v344
          replace v345 := ho.va (Nat.ne_of_gt (Nat.lt_of_lt_of_le lt351 (Nat.le_trans (Nat.le_trans hs354 (Nat.le_trans hs358 (Nat.le_trans hs361 (Nat.le_trans hs363 (Nat.le_trans hs365 (Nat.le_trans hs371 hs378)))))) (Nat.le_of_eq hzO380)))) v345
          replace bO352_0 := ho.box (Nat.ne_of_gt (Nat.lt_of_lt_of_le lt355 (Nat.le_trans (Nat.le_trans hs358 (Nat.le_trans hs361 (Nat.le_trans hs363 (Nat.le_trans hs365 (Nat.le_trans hs371 hs378))))) (Nat.le_of_eq hzO380)))) bO352_0
          replace bO356_0 := ho.box (Nat.ne_of_gt (Nat.lt_of_lt_of_le lt359 (Nat.le_trans (Nat.le_trans hs361 (Nat.le_trans hs363 (Nat.le_trans hs365 (Nat.le_trans hs371 hs378)))) (Nat.le_of_eq hzO380)))) bO356_0
          replace v368 := ho.va (Nat.ne_of_gt (Nat.lt_of_lt_of_le lt372 (Nat.le_trans hs378 (Nat.le_of_eq hzO380)))) v368
          replace v375 := ho.va (Nat.ne_of_gt (Nat.lt_of_lt_of_le lt379 (Nat.le_of_eq hzO380))) v375
          have hs385 : X381.heap.size ≤ X384.heap.size := Nat.le_of_eq ho.size.symm
          clear ho hk bO380_0
          have bO380_0 := hv0; clear hv0
          refine ⟨(BoxAt.ext hX52 bO10_0).1, ?_⟩
          refine wd_take 9 (.int .i64 0) hR rfl (by kernel_rfl) rfl (by kernel_rfl) (fun w _ => by kernel_rfl) ((BoxAt.ext hX52 bO10_0).1) ?_
          refine wd_end hL hR hK (by kernel_rfl) ?_
          exact qw_leaf hJ [10, 11, 12, 13, 21, 22, 23, 24, 25] (ws' := [(10, .slice la18 t17 lc19), (11, .pointer (some ⟨O40, 0, none⟩)), (12, .pointer (some ⟨O44, 0, none⟩)), (13, .int .i64 0), (21, .pointer (some ⟨O352, 0, none⟩)), (22, .pointer (some ⟨O356, 0, none⟩)), (23, .int .i64 0), (24, .pointer (some ⟨O380, 0, none⟩)), (25, .int .i64 0)]) (by kernel_rfl) ⟨B366, k367, B373, k374, O380, rfl, hE, hX25, hX52, hX121, v344, v345, bO352_0, bO356_0, v368, v375, bO380_0, (Nat.le_trans hs365 (Nat.le_trans hs371 (Nat.le_trans hs378 (Nat.le_trans hs382 hs385)))), (Nat.le_trans hs365 hn369), (Nat.le_trans (Nat.le_trans hs365 hs371) hn376), (Nat.le_trans (Nat.le_trans hs365 (Nat.le_trans hs371 hs378)) (Nat.le_of_eq hzO380)), Lib.hid (Nat.ne_of_lt (Nat.lt_of_lt_of_le lt372 hn376)), Lib.hid (Nat.ne_of_lt (Nat.lt_of_lt_of_le lt372 (Nat.le_trans hs378 (Nat.le_of_eq hzO380)))), Lib.hid (Nat.ne_of_lt (Nat.lt_of_lt_of_le lt379 (Nat.le_of_eq hzO380)))⟩
        ·
          refine sn_new (us := #[.slice none 0 0]) (t := 25) (by kernel_rfl) ?_
          intro O386 X387 hO hOs hb hbx
          have hzO386 := hO; have hyO386 := hOs; clear hO hOs
          have bO386_0 : BoxAt X387 O386 0 (.slice none 0 0) := hbx 0 _ rfl
          clear hbx
          replace hE := hE.trans hb
          replace hX25 := hX25.trans hb
          replace hX52 := hX52.trans hb
          replace hX121 := hX121.trans hb
          replace v344 := v344.ext hb
          replace v345 := v345.ext hb
          replace bO352_0 := BoxAt.ext hb bO352_0
          replace bO356_0 := BoxAt.ext hb bO356_0
          replace v368 := v368.ext hb
          have hs388 := hb.size
          clear hb
          have lt389 := bO386_0.lt
          refine ⟨(BoxAt.ext hX52 bO10_0).1, ?_⟩
          refine wd_step 3 hR rfl (by kernel_rfl) (by kernel_rfl) (by kernel_rfl) (sn_call (f := 28) (args := #[.agg #[.slice (some ⟨B3, 0, none⟩) 24 k4], .agg #[.slice (some ⟨B366, 0, none⟩) 24 k367]]) (by kernel_rfl) ((Meet_v _ _ _ (v5.ext hX52) (Ext.refl _) v368 (Ext.refl _)).mono ?_))
          rintro e w394 ⟨B390, k391, rfl, hn393, -, v392, hb⟩
          replace hE := hE.trans hb
          replace hX25 := hX25.trans hb
          replace hX52 := hX52.trans hb
          replace hX121 := hX121.trans hb
          replace v344 := v344.ext hb
          replace v345 := v345.ext hb
          replace bO352_0 := BoxAt.ext hb bO352_0
          replace bO356_0 := BoxAt.ext hb bO356_0
          replace v368 := v368.ext hb
          replace bO386_0 := BoxAt.ext hb bO386_0
          have hs395 := hb.size
          clear hb
          have lt396 := v392.lt
          refine ⟨_, rfl, (BoxAt.ext hX52 bO10_0).1, ?_⟩
          refine wd_take 4 (.tuple #[.agg #[.slice (some ⟨B390, 0, none⟩) 24 k391], .int .i64 0]) hR rfl (by kernel_rfl) rfl (by kernel_rfl) (fun w _ => by kernel_rfl) ((BoxAt.ext hX52 bO10_0).1) ?_
          refine wd_take 5 (.agg #[.slice (some ⟨B390, 0, none⟩) 24 k391]) hR rfl (by kernel_rfl) rfl (by kernel_rfl) (fun w _ => by kernel_rfl) ((BoxAt.ext hX52 bO10_0).1) ?_
          refine wd_take 6 (.int .i64 0) hR rfl (by kernel_rfl) rfl (by kernel_rfl) (fun w _ => by kernel_rfl) ((BoxAt.ext hX52 bO10_0).1) ?_
          refine wd_step 8 hR rfl (by kernel_rfl) (by kernel_rfl) (by kernel_rfl) (sn_set (O := O386) (j := 0) (v := .slice (some ⟨B390, 0, none⟩) 24 k391) (ex_store (p := .pointer (some ⟨O386, 0, none⟩)) (v := .agg #[.slice (some ⟨B390, 0, none⟩) 24 k391]) rfl (by kernel_rfl) (by kernel_rfl) (st25 bO386_0.1 bO386_0.2)) bO386_0 ?_)
          intro X397 ho hv0 hk
          replace hE := ho.ext hE (Nat.le_trans (Nat.le_trans hs2 (Nat.le_trans hs8 (Nat.le_trans hs12 (Nat.le_trans hs15 (Nat.le_trans hs24 (Nat.le_trans hs37 (Nat.le_trans hs42 (Nat.le_trans hs46 (Nat.le_trans hs49 (Nat.le_trans hs51 (Nat.le_trans hs55 (Nat.le_trans hs64 (Nat.le_trans hs68 (Nat.le_trans hs77 (Nat.le_trans hs81 (Nat.le_trans hs92 (Nat.le_trans hs98 (Nat.le_trans hs102 (Nat.le_trans hs118 (Nat.le_trans hs349 (Nat.le_trans hs354 (Nat.le_trans hs358 (Nat.le_trans hs361 (Nat.le_trans hs363 (Nat.le_trans hs365 hs371))))))))))))))))))))))))) (Nat.le_of_eq hzO386))
          replace hX25 := ho.ext hX25 (Nat.le_trans (Nat.le_trans hs37 (Nat.le_trans hs42 (Nat.le_trans hs46 (Nat.le_trans hs49 (Nat.le_trans hs51 (Nat.le_trans hs55 (Nat.le_trans hs64 (Nat.le_trans hs68 (Nat.le_trans hs77 (Nat.le_trans hs81 (Nat.le_trans hs92 (Nat.le_trans hs98 (Nat.le_trans hs102 (Nat.le_trans hs118 (Nat.le_trans hs349 (Nat.le_trans hs354 (Nat.le_trans hs358 (Nat.le_trans hs361 (Nat.le_trans hs363 (Nat.le_trans hs365 hs371)))))))))))))))))))) (Nat.le_of_eq hzO386))
          replace hX52 := ho.ext hX52 (Nat.le_trans (Nat.le_trans hs55 (Nat.le_trans hs64 (Nat.le_trans hs68 (Nat.le_trans hs77 (Nat.le_trans hs81 (Nat.le_trans hs92 (Nat.le_trans hs98 (Nat.le_trans hs102 (Nat.le_trans hs118 (Nat.le_trans hs349 (Nat.le_trans hs354 (Nat.le_trans hs358 (Nat.le_trans hs361 (Nat.le_trans hs363 (Nat.le_trans hs365 hs371))))))))))))))) (Nat.le_of_eq hzO386))
          replace hX121 := ho.ext hX121 (Nat.le_trans (Nat.le_trans hs349 (Nat.le_trans hs354 (Nat.le_trans hs358 (Nat.le_trans hs361 (Nat.le_trans hs363 (Nat.le_trans hs365 hs371)))))) (Nat.le_of_eq hzO386))
          replace v344 := ho.va (Nat.ne_of_gt (Nat.lt_of_lt_of_le lt350 (Nat.le_trans (Nat.le_trans hs354 (Nat.le_trans hs358 (Nat.le_trans hs361 (Nat.le_trans hs363 (Nat.le_trans hs365 hs371))))) (Nat.le_of_eq hzO386)))) v344
          replace v345 := ho.va (Nat.ne_of_gt (Nat.lt_of_lt_of_le lt351 (Nat.le_trans (Nat.le_trans hs354 (Nat.le_trans hs358 (Nat.le_trans hs361 (Nat.le_trans hs363 (Nat.le_trans hs365 hs371))))) (Nat.le_of_eq hzO386)))) v345
          replace bO352_0 := ho.box (Nat.ne_of_gt (Nat.lt_of_lt_of_le lt355 (Nat.le_trans (Nat.le_trans hs358 (Nat.le_trans hs361 (Nat.le_trans hs363 (Nat.le_trans hs365 hs371)))) (Nat.le_of_eq hzO386)))) bO352_0
          replace bO356_0 := ho.box (Nat.ne_of_gt (Nat.lt_of_lt_of_le lt359 (Nat.le_trans (Nat.le_trans hs361 (Nat.le_trans hs363 (Nat.le_trans hs365 hs371))) (Nat.le_of_eq hzO386)))) bO356_0
          replace v368 := ho.va (Nat.ne_of_gt (Nat.lt_of_lt_of_le lt372 (Nat.le_of_eq hzO386))) v368
          replace v392 := ho.va (Nat.ne_of_lt (Nat.lt_of_lt_of_le lt389 hn393)) v392
          have hs398 : w394.heap.size ≤ X397.heap.size := Nat.le_of_eq ho.size.symm
          clear ho hk bO386_0
          have bO386_0 := hv0; clear hv0
          refine ⟨(BoxAt.ext hX52 bO10_0).1, ?_⟩
          refine wd_take 9 (.int .i64 0) hR rfl (by kernel_rfl) rfl (by kernel_rfl) (fun w _ => by kernel_rfl) ((BoxAt.ext hX52 bO10_0).1) ?_
          refine wd_end hL hR hK (by kernel_rfl) ?_
          exact qw_leaf hJ [10, 11, 12, 13, 21, 22, 23, 24, 25] (ws' := [(10, .slice la18 t17 lc19), (11, .pointer (some ⟨O40, 0, none⟩)), (12, .pointer (some ⟨O44, 0, none⟩)), (13, .int .i64 0), (21, .pointer (some ⟨O352, 0, none⟩)), (22, .pointer (some ⟨O356, 0, none⟩)), (23, .int .i64 0), (24, .pointer (some ⟨O386, 0, none⟩)), (25, .int .i64 0)]) (by kernel_rfl) ⟨B366, k367, B390, k391, O386, rfl, hE, hX25, hX52, hX121, v344, v345, bO352_0, bO356_0, v368, v392, bO386_0, (Nat.le_trans hs365 (Nat.le_trans hs371 (Nat.le_trans hs388 (Nat.le_trans hs395 hs398)))), (Nat.le_trans hs365 hn369), (Nat.le_trans (Nat.le_trans hs365 (Nat.le_trans hs371 hs388)) hn393), (Nat.le_trans (Nat.le_trans hs365 hs371) (Nat.le_of_eq hzO386)), Lib.hid (Nat.ne_of_lt (Nat.lt_of_lt_of_le lt372 (Nat.le_trans hs388 hn393))), Lib.hid (Nat.ne_of_lt (Nat.lt_of_lt_of_le lt372 (Nat.le_of_eq hzO386))), Lib.hid (Nat.ne_of_gt (Nat.lt_of_lt_of_le lt389 hn393))⟩
      ·
        refine sn_new (us := #[.slice none 0 0]) (t := 25) (by kernel_rfl) ?_
        intro O399 X400 hO hOs hb hbx
        have hzO399 := hO; have hyO399 := hOs; clear hO hOs
        have bO399_0 : BoxAt X400 O399 0 (.slice none 0 0) := hbx 0 _ rfl
        clear hbx
        replace hE := hE.trans hb
        replace hX25 := hX25.trans hb
        replace hX52 := hX52.trans hb
        replace hX121 := hX121.trans hb
        replace v344 := v344.ext hb
        replace v345 := v345.ext hb
        replace bO352_0 := BoxAt.ext hb bO352_0
        replace bO356_0 := BoxAt.ext hb bO356_0
        have hs401 := hb.size
        clear hb
        have lt402 := bO399_0.lt
        refine ⟨(BoxAt.ext hX52 bO10_0).1, ?_⟩
        refine wd_step 2 hR rfl (by kernel_rfl) (by kernel_rfl) (by kernel_rfl) (sn_call (f := 11) (args := #[.slice a2 n2 c2]) (by kernel_rfl) ((Area_c _ _ Q2 hE (by omega)).mono ?_))
        rintro e w407 ⟨B403, k404, rfl, hn406, v405, hb⟩
        replace hE := hE.trans hb
        replace hX25 := hX25.trans hb
        replace hX52 := hX52.trans hb
        replace hX121 := hX121.trans hb
        replace v344 := v344.ext hb
        replace v345 := v345.ext hb
        replace bO352_0 := BoxAt.ext hb bO352_0
        replace bO356_0 := BoxAt.ext hb bO356_0
        replace bO399_0 := BoxAt.ext hb bO399_0
        have hs408 := hb.size
        clear hb
        have lt409 := v405.lt
        refine ⟨_, rfl, (BoxAt.ext hX52 bO10_0).1, ?_⟩
        refine wd_step 3 hR rfl (by kernel_rfl) (by kernel_rfl) (by kernel_rfl) (sn_call (f := 28) (args := #[.agg #[.slice (some ⟨B3, 0, none⟩) 24 k4], .agg #[.slice (some ⟨B403, 0, none⟩) 24 k404]]) (by kernel_rfl) ((Meet_v _ _ _ (v5.ext hX52) (Ext.refl _) v405 (Ext.refl _)).mono ?_))
        rintro e w414 ⟨B410, k411, rfl, hn413, -, v412, hb⟩
        replace hE := hE.trans hb
        replace hX25 := hX25.trans hb
        replace hX52 := hX52.trans hb
        replace hX121 := hX121.trans hb
        replace v344 := v344.ext hb
        replace v345 := v345.ext hb
        replace bO352_0 := BoxAt.ext hb bO352_0
        replace bO356_0 := BoxAt.ext hb bO356_0
        replace bO399_0 := BoxAt.ext hb bO399_0
        replace v405 := v405.ext hb
        have hs415 := hb.size
        clear hb
        have lt416 := v412.lt
        refine ⟨_, rfl, (BoxAt.ext hX52 bO10_0).1, ?_⟩
        refine wd_take 4 (.tuple #[.agg #[.slice (some ⟨B410, 0, none⟩) 24 k411], .int .i64 0]) hR rfl (by kernel_rfl) rfl (by kernel_rfl) (fun w _ => by kernel_rfl) ((BoxAt.ext hX52 bO10_0).1) ?_
        refine wd_take 5 (.agg #[.slice (some ⟨B410, 0, none⟩) 24 k411]) hR rfl (by kernel_rfl) rfl (by kernel_rfl) (fun w _ => by kernel_rfl) ((BoxAt.ext hX52 bO10_0).1) ?_
        refine wd_take 6 (.int .i64 0) hR rfl (by kernel_rfl) rfl (by kernel_rfl) (fun w _ => by kernel_rfl) ((BoxAt.ext hX52 bO10_0).1) ?_
        refine wd_step 8 hR rfl (by kernel_rfl) (by kernel_rfl) (by kernel_rfl) (sn_set (O := O399) (j := 0) (v := .slice (some ⟨B410, 0, none⟩) 24 k411) (ex_store (p := .pointer (some ⟨O399, 0, none⟩)) (v := .agg #[.slice (some ⟨B410, 0, none⟩) 24 k411]) rfl (by kernel_rfl) (by kernel_rfl) (st25 bO399_0.1 bO399_0.2)) bO399_0 ?_)
        intro X417 ho hv0 hk
        replace hE := ho.ext hE (Nat.le_trans (Nat.le_trans hs2 (Nat.le_trans hs8 (Nat.le_trans hs12 (Nat.le_trans hs15 (Nat.le_trans hs24 (Nat.le_trans hs37 (Nat.le_trans hs42 (Nat.le_trans hs46 (Nat.le_trans hs49 (Nat.le_trans hs51 (Nat.le_trans hs55 (Nat.le_trans hs64 (Nat.le_trans hs68 (Nat.le_trans hs77 (Nat.le_trans hs81 (Nat.le_trans hs92 (Nat.le_trans hs98 (Nat.le_trans hs102 (Nat.le_trans hs118 (Nat.le_trans hs349 (Nat.le_trans hs354 (Nat.le_trans hs358 (Nat.le_trans hs361 (Nat.le_trans hs363 hs365)))))))))))))))))))))))) (Nat.le_of_eq hzO399))
        replace hX25 := ho.ext hX25 (Nat.le_trans (Nat.le_trans hs37 (Nat.le_trans hs42 (Nat.le_trans hs46 (Nat.le_trans hs49 (Nat.le_trans hs51 (Nat.le_trans hs55 (Nat.le_trans hs64 (Nat.le_trans hs68 (Nat.le_trans hs77 (Nat.le_trans hs81 (Nat.le_trans hs92 (Nat.le_trans hs98 (Nat.le_trans hs102 (Nat.le_trans hs118 (Nat.le_trans hs349 (Nat.le_trans hs354 (Nat.le_trans hs358 (Nat.le_trans hs361 (Nat.le_trans hs363 hs365))))))))))))))))))) (Nat.le_of_eq hzO399))
        replace hX52 := ho.ext hX52 (Nat.le_trans (Nat.le_trans hs55 (Nat.le_trans hs64 (Nat.le_trans hs68 (Nat.le_trans hs77 (Nat.le_trans hs81 (Nat.le_trans hs92 (Nat.le_trans hs98 (Nat.le_trans hs102 (Nat.le_trans hs118 (Nat.le_trans hs349 (Nat.le_trans hs354 (Nat.le_trans hs358 (Nat.le_trans hs361 (Nat.le_trans hs363 hs365)))))))))))))) (Nat.le_of_eq hzO399))
        replace hX121 := ho.ext hX121 (Nat.le_trans (Nat.le_trans hs349 (Nat.le_trans hs354 (Nat.le_trans hs358 (Nat.le_trans hs361 (Nat.le_trans hs363 hs365))))) (Nat.le_of_eq hzO399))
        replace v344 := ho.va (Nat.ne_of_gt (Nat.lt_of_lt_of_le lt350 (Nat.le_trans (Nat.le_trans hs354 (Nat.le_trans hs358 (Nat.le_trans hs361 (Nat.le_trans hs363 hs365)))) (Nat.le_of_eq hzO399)))) v344
        replace v345 := ho.va (Nat.ne_of_gt (Nat.lt_of_lt_of_le lt351 (Nat.le_trans (Nat.le_trans hs354 (Nat.le_trans hs358 (Nat.le_trans hs361 (Nat.le_trans hs363 hs365)))) (Nat.le_of_eq hzO399)))) v345
        replace bO352_0 := ho.box (Nat.ne_of_gt (Nat.lt_of_lt_of_le lt355 (Nat.le_trans (Nat.le_trans hs358 (Nat.le_trans hs361 (Nat.le_trans hs363 hs365))) (Nat.le_of_eq hzO399)))) bO352_0
        replace bO356_0 := ho.box (Nat.ne_of_gt (Nat.lt_of_lt_of_le lt359 (Nat.le_trans (Nat.le_trans hs361 (Nat.le_trans hs363 hs365)) (Nat.le_of_eq hzO399)))) bO356_0
        replace v405 := ho.va (Nat.ne_of_lt (Nat.lt_of_lt_of_le lt402 hn406)) v405
        replace v412 := ho.va (Nat.ne_of_lt (Nat.lt_of_lt_of_le lt402 (Nat.le_trans hs408 hn413))) v412
        have hs418 : w414.heap.size ≤ X417.heap.size := Nat.le_of_eq ho.size.symm
        clear ho hk bO399_0
        have bO399_0 := hv0; clear hv0
        refine ⟨(BoxAt.ext hX52 bO10_0).1, ?_⟩
        refine wd_take 9 (.int .i64 0) hR rfl (by kernel_rfl) rfl (by kernel_rfl) (fun w _ => by kernel_rfl) ((BoxAt.ext hX52 bO10_0).1) ?_
        refine wd_end hL hR hK (by kernel_rfl) ?_
        exact qw_leaf hJ [10, 11, 12, 13, 21, 22, 23, 24, 25] (ws' := [(10, .slice la18 t17 lc19), (11, .pointer (some ⟨O40, 0, none⟩)), (12, .pointer (some ⟨O44, 0, none⟩)), (13, .int .i64 0), (21, .pointer (some ⟨O352, 0, none⟩)), (22, .pointer (some ⟨O356, 0, none⟩)), (23, .int .i64 0), (24, .pointer (some ⟨O399, 0, none⟩)), (25, .int .i64 0)]) (by kernel_rfl) ⟨B403, k404, B410, k411, O399, rfl, hE, hX25, hX52, hX121, v344, v345, bO352_0, bO356_0, v405, v412, bO399_0, (Nat.le_trans hs365 (Nat.le_trans hs401 (Nat.le_trans hs408 (Nat.le_trans hs415 hs418)))), (Nat.le_trans (Nat.le_trans hs365 hs401) hn406), (Nat.le_trans (Nat.le_trans hs365 (Nat.le_trans hs401 hs408)) hn413), (Nat.le_trans hs365 (Nat.le_of_eq hzO399)), Lib.hid (Nat.ne_of_lt (Nat.lt_of_lt_of_le lt409 hn413)), Lib.hid (Nat.ne_of_gt (Nat.lt_of_lt_of_le lt402 hn406)), Lib.hid (Nat.ne_of_gt (Nat.lt_of_lt_of_le lt402 (Nat.le_trans hs408 hn413)))⟩
    ·
      clear v344 v345 bO352_0 bO356_0 hE hX25 hX52 hX121
      rintro L ws Y419 ⟨B366, k367, B373, k374, O380, rfl, hE, hX25, hX52, hX121, v344, v345, bO352_0, bO356_0, v368, v375, bO380_0, hn420, hn421, hn422, hn423, hn424, hn425, hn426⟩
      have lt427 := v368.lt
      have lt428 := v375.lt
      have lt429 := bO380_0.lt
      refine qw_then ?_
      refine cw_seq ?_
      refine cw_plain ?_
      refine pl_take (.agg #[.slice (some ⟨B373, 0, none⟩) 24 k374]) rfl (by kernel_rfl) (by kernel_rfl) (by kernel_rfl) (ex_load rfl (by kernel_rfl) (ld25 (bO380_0.1))) ?_
      refine pl_take (.slice la18 t17 lc19) rfl (by kernel_rfl) (by kernel_rfl) (by kernel_rfl) (by kernel_rfl) ?_
      refine pl_step rfl (by kernel_rfl) (by kernel_rfl) (by kernel_rfl) (sn_call (f := 15) (args := #[.agg #[.slice (some ⟨B373, 0, none⟩) 24 k374], .slice la18 t17 lc19]) (by kernel_rfl) ((Uncovered_v _ _ _ v375 (Ext.refl _) sS20 hX25 hok21).mono ?_))
      rintro e w440 ⟨B430, o431, k432, B433, o434, k435, rfl, v436, v437, hn438, hn439, hb⟩
      replace hE := hE.trans hb
      replace hX25 := hX25.trans hb
      replace hX52 := hX52.trans hb
      replace hX121 := hX121.trans hb
      replace v344 := v344.ext hb
      replace v345 := v345.ext hb
      replace bO352_0 := BoxAt.ext hb bO352_0
      replace bO356_0 := BoxAt.ext hb bO356_0
      replace v368 := v368.ext hb
      replace v375 := v375.ext hb
      replace bO380_0 := BoxAt.ext hb bO380_0
      have hs441 := hb.size
      clear hb
      have lt442 := v436.lt
      have lt443 := v437.lt
      refine ⟨_, rfl, ?_⟩
      refine pl_take (.tuple #[.agg #[.slice (some ⟨B430, o431, none⟩) 24 k432], .agg #[.slice (some ⟨B433, o434, none⟩) 24 k435], .int .i64 0]) rfl (by kernel_rfl) (by kernel_rfl) (by kernel_rfl) (by kernel_rfl) ?_
      refine pl_take (.agg #[.slice (some ⟨B430, o431, none⟩) 24 k432]) rfl (by kernel_rfl) (by kernel_rfl) (by kernel_rfl) (by kernel_rfl) ?_
      refine pl_take (.agg #[.slice (some ⟨B433, o434, none⟩) 24 k435]) rfl (by kernel_rfl) (by kernel_rfl) (by kernel_rfl) (by kernel_rfl) ?_
      refine pl_take (.int .i64 0) rfl (by kernel_rfl) (by kernel_rfl) (by kernel_rfl) (by kernel_rfl) ?_
      refine pl_step rfl (by kernel_rfl) (by kernel_rfl) (by kernel_rfl) (sn_new (us := #[.slice none 0 0]) (t := 25) (by kernel_rfl) ?_)
      intro O444 X445 hO hOs hb hbx
      have hzO444 := hO; have hyO444 := hOs; clear hO hOs
      have bO444_0 : BoxAt X445 O444 0 (.slice none 0 0) := hbx 0 _ rfl
      clear hbx
      replace hE := hE.trans hb
      replace hX25 := hX25.trans hb
      replace hX52 := hX52.trans hb
      replace hX121 := hX121.trans hb
      replace v344 := v344.ext hb
      replace v345 := v345.ext hb
      replace bO352_0 := BoxAt.ext hb bO352_0
      replace bO356_0 := BoxAt.ext hb bO356_0
      replace v368 := v368.ext hb
      replace v375 := v375.ext hb
      replace bO380_0 := BoxAt.ext hb bO380_0
      replace v436 := v436.ext hb
      replace v437 := v437.ext hb
      have hs446 := hb.size
      clear hb
      have lt447 := bO444_0.lt
      refine pl_step rfl (by kernel_rfl) (by kernel_rfl) (by kernel_rfl) (sn_new (us := #[.slice none 0 0]) (t := 25) (by kernel_rfl) ?_)
      intro O448 X449 hO hOs hb hbx
      have hzO448 := hO; have hyO448 := hOs; clear hO hOs
      have bO448_0 : BoxAt X449 O448 0 (.slice none 0 0) := hbx 0 _ rfl
      clear hbx
      replace hE := hE.trans hb
      replace hX25 := hX25.trans hb
      replace hX52 := hX52.trans hb
      replace hX121 := hX121.trans hb
      replace v344 := v344.ext hb
      replace v345 := v345.ext hb
      replace bO352_0 := BoxAt.ext hb bO352_0
      replace bO356_0 := BoxAt.ext hb bO356_0
      replace v368 := v368.ext hb
      replace v375 := v375.ext hb
      replace bO380_0 := BoxAt.ext hb bO380_0
      replace v436 := v436.ext hb
      replace v437 := v437.ext hb
      replace bO444_0 := BoxAt.ext hb bO444_0
      have hs450 := hb.size
      clear hb
      have lt451 := bO448_0.lt
      refine pl_put rfl (by kernel_rfl) (by kernel_rfl) (sn_set (O := O444) (j := 0) (v := .slice (some ⟨B430, o431, none⟩) 24 k432) (ex_store (p := .pointer (some ⟨O444, 0, none⟩)) (v := .agg #[.slice (some ⟨B430, o431, none⟩) 24 k432]) rfl (by kernel_rfl) (by kernel_rfl) (st25 bO444_0.1 bO444_0.2)) bO444_0 ?_)
      intro X452 ho hv0 hk
      replace hE := ho.ext hE (Nat.le_trans (Nat.le_trans hs2 (Nat.le_trans hs8 (Nat.le_trans hs12 (Nat.le_trans hs15 (Nat.le_trans hs24 (Nat.le_trans hs37 (Nat.le_trans hs42 (Nat.le_trans hs46 (Nat.le_trans hs49 (Nat.le_trans hs51 (Nat.le_trans hs55 (Nat.le_trans hs64 (Nat.le_trans hs68 (Nat.le_trans hs77 (Nat.le_trans hs81 (Nat.le_trans hs92 (Nat.le_trans hs98 (Nat.le_trans hs102 (Nat.le_trans hs118 (Nat.le_trans hs349 (Nat.le_trans hs354 (Nat.le_trans hs358 (Nat.le_trans hs361 (Nat.le_trans hs363 (Nat.le_trans hn420 hs441))))))))))))))))))))))))) (Nat.le_of_eq hzO444))
      replace hX25 := ho.ext hX25 (Nat.le_trans (Nat.le_trans hs37 (Nat.le_trans hs42 (Nat.le_trans hs46 (Nat.le_trans hs49 (Nat.le_trans hs51 (Nat.le_trans hs55 (Nat.le_trans hs64 (Nat.le_trans hs68 (Nat.le_trans hs77 (Nat.le_trans hs81 (Nat.le_trans hs92 (Nat.le_trans hs98 (Nat.le_trans hs102 (Nat.le_trans hs118 (Nat.le_trans hs349 (Nat.le_trans hs354 (Nat.le_trans hs358 (Nat.le_trans hs361 (Nat.le_trans hs363 (Nat.le_trans hn420 hs441)))))))))))))))))))) (Nat.le_of_eq hzO444))
      replace hX52 := ho.ext hX52 (Nat.le_trans (Nat.le_trans hs55 (Nat.le_trans hs64 (Nat.le_trans hs68 (Nat.le_trans hs77 (Nat.le_trans hs81 (Nat.le_trans hs92 (Nat.le_trans hs98 (Nat.le_trans hs102 (Nat.le_trans hs118 (Nat.le_trans hs349 (Nat.le_trans hs354 (Nat.le_trans hs358 (Nat.le_trans hs361 (Nat.le_trans hs363 (Nat.le_trans hn420 hs441))))))))))))))) (Nat.le_of_eq hzO444))
      replace hX121 := ho.ext hX121 (Nat.le_trans (Nat.le_trans hs349 (Nat.le_trans hs354 (Nat.le_trans hs358 (Nat.le_trans hs361 (Nat.le_trans hs363 (Nat.le_trans hn420 hs441)))))) (Nat.le_of_eq hzO444))
      replace v344 := ho.va (Nat.ne_of_gt (Nat.lt_of_lt_of_le lt350 (Nat.le_trans (Nat.le_trans hs354 (Nat.le_trans hs358 (Nat.le_trans hs361 (Nat.le_trans hs363 (Nat.le_trans hn420 hs441))))) (Nat.le_of_eq hzO444)))) v344
      replace v345 := ho.va (Nat.ne_of_gt (Nat.lt_of_lt_of_le lt351 (Nat.le_trans (Nat.le_trans hs354 (Nat.le_trans hs358 (Nat.le_trans hs361 (Nat.le_trans hs363 (Nat.le_trans hn420 hs441))))) (Nat.le_of_eq hzO444)))) v345
      replace bO352_0 := ho.box (Nat.ne_of_gt (Nat.lt_of_lt_of_le lt355 (Nat.le_trans (Nat.le_trans hs358 (Nat.le_trans hs361 (Nat.le_trans hs363 (Nat.le_trans hn420 hs441)))) (Nat.le_of_eq hzO444)))) bO352_0
      replace bO356_0 := ho.box (Nat.ne_of_gt (Nat.lt_of_lt_of_le lt359 (Nat.le_trans (Nat.le_trans hs361 (Nat.le_trans hs363 (Nat.le_trans hn420 hs441))) (Nat.le_of_eq hzO444)))) bO356_0
      replace v368 := ho.va (Nat.ne_of_gt (Nat.lt_of_lt_of_le lt427 (Nat.le_trans hs441 (Nat.le_of_eq hzO444)))) v368
      replace v375 := ho.va (Nat.ne_of_gt (Nat.lt_of_lt_of_le lt428 (Nat.le_trans hs441 (Nat.le_of_eq hzO444)))) v375
      replace bO380_0 := ho.box (Nat.ne_of_gt (Nat.lt_of_lt_of_le lt429 (Nat.le_trans hs441 (Nat.le_of_eq hzO444)))) bO380_0
      replace v436 := ho.va (Nat.ne_of_gt (Nat.lt_of_lt_of_le lt442 (Nat.le_of_eq hzO444))) v436
      replace v437 := ho.va (Nat.ne_of_gt (Nat.lt_of_lt_of_le lt443 (Nat.le_of_eq hzO444))) v437
      replace bO448_0 := ho.box (Nat.ne_of_lt (Nat.lt_of_lt_of_le lt447 (Nat.le_of_eq hzO448))) bO448_0
      have hs453 : X449.heap.size ≤ X452.heap.size := Nat.le_of_eq ho.size.symm
      clear ho hk bO444_0
      have bO444_0 := hv0; clear hv0
      refine pl_put rfl (by kernel_rfl) (by kernel_rfl) (sn_set (O := O448) (j := 0) (v := .slice (some ⟨B433, o434, none⟩) 24 k435) (ex_store (p := .pointer (some ⟨O448, 0, none⟩)) (v := .agg #[.slice (some ⟨B433, o434, none⟩) 24 k435]) rfl (by kernel_rfl) (by kernel_rfl) (st25 bO448_0.1 bO448_0.2)) bO448_0 ?_)
      intro X454 ho hv0 hk
      replace hE := ho.ext hE (Nat.le_trans (Nat.le_trans hs2 (Nat.le_trans hs8 (Nat.le_trans hs12 (Nat.le_trans hs15 (Nat.le_trans hs24 (Nat.le_trans hs37 (Nat.le_trans hs42 (Nat.le_trans hs46 (Nat.le_trans hs49 (Nat.le_trans hs51 (Nat.le_trans hs55 (Nat.le_trans hs64 (Nat.le_trans hs68 (Nat.le_trans hs77 (Nat.le_trans hs81 (Nat.le_trans hs92 (Nat.le_trans hs98 (Nat.le_trans hs102 (Nat.le_trans hs118 (Nat.le_trans hs349 (Nat.le_trans hs354 (Nat.le_trans hs358 (Nat.le_trans hs361 (Nat.le_trans hs363 (Nat.le_trans hn420 (Nat.le_trans hs441 hs446)))))))))))))))))))))))))) (Nat.le_of_eq hzO448))
      replace hX25 := ho.ext hX25 (Nat.le_trans (Nat.le_trans hs37 (Nat.le_trans hs42 (Nat.le_trans hs46 (Nat.le_trans hs49 (Nat.le_trans hs51 (Nat.le_trans hs55 (Nat.le_trans hs64 (Nat.le_trans hs68 (Nat.le_trans hs77 (Nat.le_trans hs81 (Nat.le_trans hs92 (Nat.le_trans hs98 (Nat.le_trans hs102 (Nat.le_trans hs118 (Nat.le_trans hs349 (Nat.le_trans hs354 (Nat.le_trans hs358 (Nat.le_trans hs361 (Nat.le_trans hs363 (Nat.le_trans hn420 (Nat.le_trans hs441 hs446))))))))))))))))))))) (Nat.le_of_eq hzO448))
      replace hX52 := ho.ext hX52 (Nat.le_trans (Nat.le_trans hs55 (Nat.le_trans hs64 (Nat.le_trans hs68 (Nat.le_trans hs77 (Nat.le_trans hs81 (Nat.le_trans hs92 (Nat.le_trans hs98 (Nat.le_trans hs102 (Nat.le_trans hs118 (Nat.le_trans hs349 (Nat.le_trans hs354 (Nat.le_trans hs358 (Nat.le_trans hs361 (Nat.le_trans hs363 (Nat.le_trans hn420 (Nat.le_trans hs441 hs446)))))))))))))))) (Nat.le_of_eq hzO448))
      replace hX121 := ho.ext hX121 (Nat.le_trans (Nat.le_trans hs349 (Nat.le_trans hs354 (Nat.le_trans hs358 (Nat.le_trans hs361 (Nat.le_trans hs363 (Nat.le_trans hn420 (Nat.le_trans hs441 hs446))))))) (Nat.le_of_eq hzO448))
      replace v344 := ho.va (Nat.ne_of_gt (Nat.lt_of_lt_of_le lt350 (Nat.le_trans (Nat.le_trans hs354 (Nat.le_trans hs358 (Nat.le_trans hs361 (Nat.le_trans hs363 (Nat.le_trans hn420 (Nat.le_trans hs441 hs446)))))) (Nat.le_of_eq hzO448)))) v344
      replace v345 := ho.va (Nat.ne_of_gt (Nat.lt_of_lt_of_le lt351 (Nat.le_trans (Nat.le_trans hs354 (Nat.le_trans hs358 (Nat.le_trans hs361 (Nat.le_trans hs363 (Nat.le_trans hn420 (Nat.le_trans hs441 hs446)))))) (Nat.le_of_eq hzO448)))) v345
      replace bO352_0 := ho.box (Nat.ne_of_gt (Nat.lt_of_lt_of_le lt355 (Nat.le_trans (Nat.le_trans hs358 (Nat.le_trans hs361 (Nat.le_trans hs363 (Nat.le_trans hn420 (Nat.le_trans hs441 hs446))))) (Nat.le_of_eq hzO448)))) bO352_0
      replace bO356_0 := ho.box (Nat.ne_of_gt (Nat.lt_of_lt_of_le lt359 (Nat.le_trans (Nat.le_trans hs361 (Nat.le_trans hs363 (Nat.le_trans hn420 (Nat.le_trans hs441 hs446)))) (Nat.le_of_eq hzO448)))) bO356_0
      replace v368 := ho.va (Nat.ne_of_gt (Nat.lt_of_lt_of_le lt427 (Nat.le_trans (Nat.le_trans hs441 hs446) (Nat.le_of_eq hzO448)))) v368
      replace v375 := ho.va (Nat.ne_of_gt (Nat.lt_of_lt_of_le lt428 (Nat.le_trans (Nat.le_trans hs441 hs446) (Nat.le_of_eq hzO448)))) v375
      replace bO380_0 := ho.box (Nat.ne_of_gt (Nat.lt_of_lt_of_le lt429 (Nat.le_trans (Nat.le_trans hs441 hs446) (Nat.le_of_eq hzO448)))) bO380_0
      replace v436 := ho.va (Nat.ne_of_gt (Nat.lt_of_lt_of_le lt442 (Nat.le_trans hs446 (Nat.le_of_eq hzO448)))) v436
      replace v437 := ho.va (Nat.ne_of_gt (Nat.lt_of_lt_of_le lt443 (Nat.le_trans hs446 (Nat.le_of_eq hzO448)))) v437
      replace bO444_0 := ho.box (Nat.ne_of_gt (Nat.lt_of_lt_of_le lt447 (Nat.le_of_eq hzO448))) bO444_0
      have hs455 : X452.heap.size ≤ X454.heap.size := Nat.le_of_eq ho.size.symm
      clear ho hk bO448_0
      have bO448_0 := hv0; clear hv0
      refine pl_take (.int .i64 0) rfl (by kernel_rfl) (by kernel_rfl) (by kernel_rfl) (by kernel_rfl) ?_
      refine pl_nil ?_
      refine qw_then ?_
      refine cw_clean [11, 12, 13, 21, 22, 23, 25, 26, 27, 28] (ws' := [(11, .pointer (some ⟨O40, 0, none⟩)), (12, .pointer (some ⟨O44, 0, none⟩)), (13, .int .i64 0), (21, .pointer (some ⟨O352, 0, none⟩)), (22, .pointer (some ⟨O356, 0, none⟩)), (23, .int .i64 0), (25, .int .i64 0), (26, .pointer (some ⟨O444, 0, none⟩)), (27, .pointer (some ⟨O448, 0, none⟩)), (28, .int .i64 0)]) (by kernel_rfl) (fun L => ?_)
      refine cw_seq ?_
      refine cw_seq ?_
      refine cw_plain ?_
      refine pl_take (.int .i64 0) rfl (by kernel_rfl) (by kernel_rfl) (by kernel_rfl) (by kernel_rfl) ?_
      refine pl_take (.bool false) rfl (by kernel_rfl) (by kernel_rfl) (by kernel_rfl) (by kernel_rfl) ?_
      refine pl_take (.bool false) rfl (by kernel_rfl) (by kernel_rfl) (by kernel_rfl) (by kernel_rfl) ?_
      refine pl_take (.int .i64 0) rfl (by kernel_rfl) (by kernel_rfl) (by kernel_rfl) (by kernel_rfl) ?_
      refine pl_take (.bool false) rfl (by kernel_rfl) (by kernel_rfl) (by kernel_rfl) (by kernel_rfl) ?_
      refine pl_take (.bool false) rfl (by kernel_rfl) (by kernel_rfl) (by kernel_rfl) (by kernel_rfl) ?_
      refine pl_take (.bool false) rfl (by kernel_rfl) (by kernel_rfl) (by kernel_rfl) (by kernel_rfl) ?_
      refine pl_take (.int .i64 0) rfl (by kernel_rfl) (by kernel_rfl) (by kernel_rfl) (by kernel_rfl) ?_
      refine pl_take (.bool false) rfl (by kernel_rfl) (by kernel_rfl) (by kernel_rfl) (by kernel_rfl) ?_
      refine pl_take (.bool false) rfl (by kernel_rfl) (by kernel_rfl) (by kernel_rfl) (by kernel_rfl) ?_
      refine pl_take (.bool false) rfl (by kernel_rfl) (by kernel_rfl) (by kernel_rfl) (by kernel_rfl) ?_
      refine pl_take (.int .i64 0) rfl (by kernel_rfl) (by kernel_rfl) (by kernel_rfl) (by kernel_rfl) ?_
      refine pl_take (.bool false) rfl (by kernel_rfl) (by kernel_rfl) (by kernel_rfl) (by kernel_rfl) ?_
      refine pl_take (.bool false) rfl (by kernel_rfl) (by kernel_rfl) (by kernel_rfl) (by kernel_rfl) ?_
      refine pl_nil ?_
      refine qw_then ?_
      refine cw_clean [11, 12, 21, 22, 26, 27, 132] (ws' := [(11, .pointer (some ⟨O40, 0, none⟩)), (12, .pointer (some ⟨O44, 0, none⟩)), (21, .pointer (some ⟨O352, 0, none⟩)), (22, .pointer (some ⟨O356, 0, none⟩)), (26, .pointer (some ⟨O444, 0, none⟩)), (27, .pointer (some ⟨O448, 0, none⟩)), (132, .bool false)]) (by kernel_rfl) (fun L => ?_)
      refine cw_f (by kernel_rfl) ?_
      refine cw_skip ?_
      refine qw_then ?_
      refine cw_seq ?_
      refine cw_plain ?_
      refine pl_take (.agg #[.slice (some ⟨B26, o27, none⟩) 24 k28]) rfl (by kernel_rfl) (by kernel_rfl) (by kernel_rfl) (ex_load rfl (by kernel_rfl) (ld25 ((BoxAt.ext hX52 bO40_0).1))) ?_
      refine pl_take (.agg #[.slice (some ⟨B338, o339, none⟩) 24 k340]) rfl (by kernel_rfl) (by kernel_rfl) (by kernel_rfl) (ex_load rfl (by kernel_rfl) (ld25 (bO352_0.1))) ?_
      refine pl_step rfl (by kernel_rfl) (by kernel_rfl) (by kernel_rfl) (sn_call (f := 32) (args := #[.agg #[.slice (some ⟨B26, o27, none⟩) 24 k28], .agg #[.slice (some ⟨B338, o339, none⟩) 24 k340]]) (by kernel_rfl) ((Contains_r _ _ _ (v32.ext hX52) (Ext.refl _) v344 (Ext.refl _) (Globe.left_sub v5.2 v5.2 (fun _ _ _ _ h => h) (Globe.wider_2 wid))).mono ?_))
      rintro e w456 ⟨rfl, hb⟩
      replace hE := hE.trans hb
      replace hX25 := hX25.trans hb
      replace hX52 := hX52.trans hb
      replace hX121 := hX121.trans hb
      replace v344 := v344.ext hb
      replace v345 := v345.ext hb
      replace bO352_0 := BoxAt.ext hb bO352_0
      replace bO356_0 := BoxAt.ext hb bO356_0
      replace v368 := v368.ext hb
      replace v375 := v375.ext hb
      replace bO380_0 := BoxAt.ext hb bO380_0
      replace v436 := v436.ext hb
      replace v437 := v437.ext hb
      replace bO444_0 := BoxAt.ext hb bO444_0
      replace bO448_0 := BoxAt.ext hb bO448_0
      have hs457 := hb.size
      clear hb
      refine ⟨_, rfl, ?_⟩
      refine pl_take (.bool true) rfl (by kernel_rfl) (by kernel_rfl) (by kernel_rfl) (by kernel_rfl) ?_
      refine pl_take (.agg #[.slice (some ⟨B29, o30, none⟩) 24 k31]) rfl (by kernel_rfl) (by kernel_rfl) (by kernel_rfl) (ex_load rfl (by kernel_rfl) (ld25 ((BoxAt.ext hX52 bO44_0).1))) ?_
      refine pl_take (.agg #[.slice (some ⟨B341, o342, none⟩) 24 k343]) rfl (by kernel_rfl) (by kernel_rfl) (by kernel_rfl) (ex_load rfl (by kernel_rfl) (ld25 (bO356_0.1))) ?_
      refine pl_step rfl (by kernel_rfl) (by kernel_rfl) (by kernel_rfl) (sn_call (f := 32) (args := #[.agg #[.slice (some ⟨B29, o30, none⟩) 24 k31], .agg #[.slice (some ⟨B341, o342, none⟩) 24 k343]]) (by kernel_rfl) ((Contains_r _ _ _ (v33.ext hX52) (Ext.refl _) v345 (Ext.refl _) (Globe.left_sub v5.2 v5.2 (fun _ _ _ _ h => h) (Globe.wider_1 wid))).mono ?_))
      rintro e w458 ⟨rfl, hb⟩
      replace hE := hE.trans hb
      replace hX25 := hX25.trans hb
      replace hX52 := hX52.trans hb
      replace hX121 := hX121.trans hb
      replace v344 := v344.ext hb
      replace v345 := v345.ext hb
      replace bO352_0 := BoxAt.ext hb bO352_0
      replace bO356_0 := BoxAt.ext hb bO356_0
      replace v368 := v368.ext hb
      replace v375 := v375.ext hb
      replace bO380_0 := BoxAt.ext hb bO380_0
      replace v436 := v436.ext hb
      replace v437 := v437.ext hb
      replace bO444_0 := BoxAt.ext hb bO444_0
      replace bO448_0 := BoxAt.ext hb bO448_0
      have hs459 := hb.size
      clear hb
      refine ⟨_, rfl, ?_⟩
      refine pl_take (.bool true) rfl (by kernel_rfl) (by kernel_rfl) (by kernel_rfl) (by kernel_rfl) ?_
      refine pl_take (.bool true) rfl (by kernel_rfl) (by kernel_rfl) (by kernel_rfl) (by kernel_rfl) ?_
      refine pl_take (.agg #[.slice (some ⟨B26, o27, none⟩) 24 k28]) rfl (by kernel_rfl) (by kernel_rfl) (by kernel_rfl) (ex_load rfl (by kernel_rfl) (ld25 ((BoxAt.ext hX52 bO40_0).1))) ?_
      refine pl_take (.agg #[.slice (some ⟨B430, o431, none⟩) 24 k432]) rfl (by kernel_rfl) (by kernel_rfl) (by kernel_rfl) (ex_load rfl (by kernel_rfl) (ld25 (bO444_0.1))) ?_
      refine pl_step rfl (by kernel_rfl) (by kernel_rfl) (by kernel_rfl) (sn_call (f := 32) (args := #[.agg #[.slice (some ⟨B26, o27, none⟩) 24 k28], .agg #[.slice (some ⟨B430, o431, none⟩) 24 k432]]) (by kernel_rfl) ((Contains_r _ _ _ (v32.ext hX52) (Ext.refl _) v436 (Ext.refl _) (Globe.left_sub v5.2 (Globe.meet_valid v5.2) Globe.meet_in (Globe.same_each _))).mono ?_))
      rintro e w460 ⟨rfl, hb⟩
      replace hE := hE.trans hb
      replace hX25 := hX25.trans hb
      replace hX52 := hX52.trans hb
      replace hX121 := hX121.trans hb
      replace v344 := v344.ext hb
      replace v345 := v345.ext hb
      replace bO352_0 := BoxAt.ext hb bO352_0
      replace bO356_0 := BoxAt.ext hb bO356_0
      replace v368 := v368.ext hb
      replace v375 := v375.ext hb
      replace bO380_0 := BoxAt.ext hb bO380_0
      replace v436 := v436.ext hb
      replace v437 := v437.ext hb
      replace bO444_0 := BoxAt.ext hb bO444_0
      replace bO448_0 := BoxAt.ext hb bO448_0
      have hs461 := hb.size
      clear hb
      refine ⟨_, rfl, ?_⟩
      refine pl_take (.bool true) rfl (by kernel_rfl) (by kernel_rfl) (by kernel_rfl) (by kernel_rfl) ?_
      refine pl_take (.bool true) rfl (by kernel_rfl) (by kernel_rfl) (by kernel_rfl) (by kernel_rfl) ?_
      refine pl_take (.agg #[.slice (some ⟨B29, o30, none⟩) 24 k31]) rfl (by kernel_rfl) (by kernel_rfl) (by kernel_rfl) (ex_load rfl (by kernel_rfl) (ld25 ((BoxAt.ext hX52 bO44_0).1))) ?_
      refine pl_take (.agg #[.slice (some ⟨B433, o434, none⟩) 24 k435]) rfl (by kernel_rfl) (by kernel_rfl) (by kernel_rfl) (ex_load rfl (by kernel_rfl) (ld25 (bO448_0.1))) ?_
      refine pl_step rfl (by kernel_rfl) (by kernel_rfl) (by kernel_rfl) (sn_call (f := 32) (args := #[.agg #[.slice (some ⟨B29, o30, none⟩) 24 k31], .agg #[.slice (some ⟨B433, o434, none⟩) 24 k435]]) (by kernel_rfl) ((Contains_r _ _ _ (v33.ext hX52) (Ext.refl _) v437 (Ext.refl _) (Globe.left_sub v5.2 (Globe.meet_valid v5.2) Globe.meet_in (Globe.same_each _))).mono ?_))
      rintro e w462 ⟨rfl, hb⟩
      replace hE := hE.trans hb
      replace hX25 := hX25.trans hb
      replace hX52 := hX52.trans hb
      replace hX121 := hX121.trans hb
      replace v344 := v344.ext hb
      replace v345 := v345.ext hb
      replace bO352_0 := BoxAt.ext hb bO352_0
      replace bO356_0 := BoxAt.ext hb bO356_0
      replace v368 := v368.ext hb
      replace v375 := v375.ext hb
      replace bO380_0 := BoxAt.ext hb bO380_0
      replace v436 := v436.ext hb
      replace v437 := v437.ext hb
      replace bO444_0 := BoxAt.ext hb bO444_0
      replace bO448_0 := BoxAt.ext hb bO448_0
      have hs463 := hb.size
      clear hb
      refine ⟨_, rfl, ?_⟩
      refine pl_take (.bool true) rfl (by kernel_rfl) (by kernel_rfl) (by kernel_rfl) (by kernel_rfl) ?_
      refine pl_take (.bool true) rfl (by kernel_rfl) (by kernel_rfl) (by kernel_rfl) (by kernel_rfl) ?_
      refine pl_take (.agg #[.slice (some ⟨B29, o30, none⟩) 24 k31]) rfl (by kernel_rfl) (by kernel_rfl) (by kernel_rfl) (ex_load rfl (by kernel_rfl) (ld25 ((BoxAt.ext hX52 bO44_0).1))) ?_
      refine pl_take (.agg #[.slice (some ⟨B26, o27, none⟩) 24 k28]) rfl (by kernel_rfl) (by kernel_rfl) (by kernel_rfl) (ex_load rfl (by kernel_rfl) (ld25 ((BoxAt.ext hX52 bO40_0).1))) ?_
      refine pl_step rfl (by kernel_rfl) (by kernel_rfl) (by kernel_rfl) (sn_call (f := 32) (args := #[.agg #[.slice (some ⟨B29, o30, none⟩) 24 k31], .agg #[.slice (some ⟨B26, o27, none⟩) 24 k28]]) (by kernel_rfl) ((Contains_r _ _ _ (v33.ext hX52) (Ext.refl _) (v32.ext hX52) (Ext.refl _) (Globe.left_sub v5.2 v5.2 (fun _ _ _ _ h => h) (Globe.ok_self hok21))).mono ?_))
      rintro e w464 ⟨rfl, hb⟩
      replace hE := hE.trans hb
      replace hX25 := hX25.trans hb
      replace hX52 := hX52.trans hb
      replace hX121 := hX121.trans hb
      replace v344 := v344.ext hb
      replace v345 := v345.ext hb
      replace bO352_0 := BoxAt.ext hb bO352_0
      replace bO356_0 := BoxAt.ext hb bO356_0
      replace v368 := v368.ext hb
      replace v375 := v375.ext hb
      replace bO380_0 := BoxAt.ext hb bO380_0
      replace v436 := v436.ext hb
      replace v437 := v437.ext hb
      replace bO444_0 := BoxAt.ext hb bO444_0
      replace bO448_0 := BoxAt.ext hb bO448_0
      have hs465 := hb.size
      clear hb
      refine ⟨_, rfl, ?_⟩
      refine pl_take (.bool true) rfl (by kernel_rfl) (by kernel_rfl) (by kernel_rfl) (by kernel_rfl) ?_
      refine pl_take (.bool true) rfl (by kernel_rfl) (by kernel_rfl) (by kernel_rfl) (by kernel_rfl) ?_
      refine pl_nil ?_
      refine qw_then ?_
      refine cw_clean [8] (ws' := [(8, .bool true)]) (by kernel_rfl) (fun L => ?_)
      refine cw_ret ?_
      refine qw_ret [.bool true] rfl ⟨(by kernel_rfl), trivial⟩ ?_
      exact ⟨rfl, hE⟩

end Go.Proofs.YtglfoglkdbbmmaaDoor

/- The statement CoverMore: for every input the law returns true, and every argument reads as it read before; the two tables of package math/bits that the row lists are tied to the program's text. -/
namespace Go.Proofs.YtglfoglkdbbmmaaDoor
open Go.ChangeShapes Go.WideShapes Go.ChangeAt Go.RowKit

set_option maxRecDepth 100000 in
theorem CoverMore_lifted (os : Os) (started : os.Started) (H : Type) (enc : TypeId × Value → H) :
    ReturnsInHanded {} Tryd.checked os 8 .any (fun w args => (Rows.coverMoreSpec.pre enc Tryd.prog Tryd.f8 [] false w args ∧ laidMetH Tryd.prog laidTabs w) ∧ sizedMet enc Tryd.prog Tryd.f8 (OpenSpec.ofChange Rows.coverMoreSpec) false w args)
      (Rows.coverMoreSpec.post enc Tryd.prog Tryd.f8 false true false false) := by
  refine returnsInHanded_of_change_and (C := Tryd.checked) (X := fun w _ => laidMetH Tryd.prog laidTabs w) (fun _ _ _ hh h => h.of_heap hh) own started (by kernel_rfl) Tryd.func8
    (ChangeSpec.witness_shaped (enc := enc) (C := Tryd.checked) (os := os) (X := fun w _ => laidMetH Tryd.prog laidTabs w) false (World.doorLaid Tryd.prog 19 os) #[.slice none 0 0, .slice none 0 0, .slice none 0 0, .int .i64 0] 8 rfl (World.shaped_of_RefB (by kernel_rfl) (by kernel_rfl)) (by kernel_rfl) (by kernel_rfl) (by kernel_rfl) (door_met os _)) ?_
  intro W base args ds gs before hval0 hW _ hsz hL _
  have hval : ∀ (j : Nat) t v, Tryd.f8.params[j]? = some t → args[j]? = some v → Value.okWide Tryd.prog W .any base t v := hval0
  have hW' := hW
  obtain ⟨p, q, hA0, hV, rfl, hfz, hnd⟩ := hW
  have hA : DataW.TrodAll enc Tryd.prog W 0 (fun _ => true) true Tryd.f8.params.toList args.toList ds p := hA0
  rw [Tryd.params8] at hA hval
  obtain ⟨v0, vs0, d0, ds0, p0, q0, hargs, rfl, rfl, h0, r0⟩ := trodAll_cons hA
  obtain ⟨v1, vs1, d1, ds1, p1, q1, rfl, rfl, rfl, h1, r1⟩ := trodAll_cons r0
  obtain ⟨v2, vs2, d2, ds2, p2, q2, rfl, rfl, rfl, h2, r2⟩ := trodAll_cons r1
  obtain ⟨v3, vs3, d3, ds3, p3, q3, rfl, rfl, rfl, h3, r3⟩ := trodAll_cons r2
  obtain ⟨rfl, rfl, rfl⟩ := trodAll_nil r3
  obtain rfl : args = #[v0, v1, v2, v3] := by cases args; simp_all
  obtain ⟨rfl, rfl⟩ := trodVars_none hV
  have k0 := h0
  have lt0 : ∀ x ∈ p0, x.block < W.heap.size := by obtain ⟨m, hm⟩ := k0; exact DataW.trod_lt m _ _ _ hm
  have op0 := open_quads (hval 0 _ v0 rfl rfl) h0
  have k1 := h1
  have lt1 : ∀ x ∈ p1, x.block < W.heap.size := by obtain ⟨m, hm⟩ := k1; exact DataW.trod_lt m _ _ _ hm
  have op1 := open_quads (hval 1 _ v1 rfl rfl) h1
  have k2 := h2
  have lt2 : ∀ x ∈ p2, x.block < W.heap.size := by obtain ⟨m, hm⟩ := k2; exact DataW.trod_lt m _ _ _ hm
  have op2 := open_quadsR (hval 2 _ v2 rfl rfl) h2 (fun n hn => of_decide_eq_true (List.all_eq_true.1 hsz n (DataW.weights_mem_each (j := 2) (by rw [Tryd.params8]; rfl) rfl n hn)))
  obtain ⟨a3, rfl, rfl, rfl, w3⟩ := open_int Tryd.underlying3 (hval 3 3 v3 rfl rfl) h3
  clear hA0 hval0
  refine (CoverMore_walk W v0 op0 v1 op1 v2 op2 a3 (isI_of_wf w3) (tab_of_laid hL)).mono fun e W' ⟨he, hE⟩ => ?_
  subst he
  have bel : Below W.heap.size W W' := hE
  exact ⟨_, rfl, _, _, _, [], _, [], hW', trodAll_mk1 (shut_bool Tryd.underlying4 _), (trodAll_cons_mk (Below.trod laidOut (by kernel_rfl) (of_decide_eq_true (by kernel_rfl)) k0 bel lt0) (trodAll_cons_mk (Below.trod laidOut (by kernel_rfl) (of_decide_eq_true (by kernel_rfl)) k1 bel lt1) (trodAll_cons_mk (Below.trod laidOut (by kernel_rfl) (of_decide_eq_true (by kernel_rfl)) k2 bel lt2) (trodAll_cons_mk (shut_int Tryd.underlying3 w3) trodAll_mk0)))), rfl, bel.frame _, fun h => by cases h⟩

theorem CoverMore_over : Rows.CoverMoreSaid :=
  OpenClaim.holds_of_wide 8 Tryd.f8 rfl rfl rfl rfl rfl rfl rfl ⟨rfl, rfl, rfl, rfl, rfl⟩ rfl rfl rfl rfl rfl (by kernel_rfl) Tryd.func8 (by kernel_rfl)
    (of_decide_eq_true (by kernel_rfl)) (by unfold Func.isWrapper; first | (rw [if_pos (by decide +kernel)]; kernel_rfl) | (rw [if_neg (by decide +kernel)]; exact ⟨rfl, rfl⟩))
    (fun os started H enc _ => CoverMore_lifted os started H enc)

/-- The tied card. -/
theorem CoverMore_holds : Rows.CoverMoreCardSaid :=
  Claim7.holds_tied_plain_at .later [] [.data, .data] true (true, "f3c7cfc24bd30fe2366dd98a5567a6f2f4e716248d39bc96b650dc6c6e3eb102") false
    CoverMore_over (fun _ h => by cases h) (by kernel_rfl) (fun _ h => by cases h) coverMore_row_tie rfl ⟨rfl, rfl⟩ (by kernel_rfl) rfl
    (fun f fn hf hfn => by
      obtain rfl : f = 8 := Option.some.inj ((show Tryd.prog.funcNamed "nadir/nadirlaw16.CoverMore" = some 8 by kernel_rfl).symm.trans hf) |>.symm
      obtain rfl : fn = Tryd.f8 := (Option.some.inj (Tryd.func8.symm.trans hfn)).symm
      exact ⟨by kernel_rfl, fun j t ht => by
        rw [Tryd.params8] at ht
        have hm : t ∈ [22, 22, 22, 3] := by simpa using Array.mem_of_getElem? ht
        have hall : ([22, 22, 22, 3].all fun u => !Tryd.prog.wantsStandIn u) = true := by kernel_rfl
        exact (show Tryd.prog.wantsStandIn t = false by simpa using List.all_eq_true.1 hall t hm)⟩)
    (by kernel_rfl)
#print axioms CoverMore_holds
end Go.Proofs.YtglfoglkdbbmmaaDoor
