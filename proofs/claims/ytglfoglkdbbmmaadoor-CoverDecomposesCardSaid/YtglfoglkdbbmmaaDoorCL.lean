/- Contract of the reference of package cover: Strips. -/
import Derived.Test.YtglfoglkdbbmmaaDoorCK
import Derived.ArgAppend
namespace Go.Proofs.YtglfoglkdbbmmaaDoor
open Go.RowKit
open Globe (outTo outTo_snoc outTo_nil outTo_spec)

/-- A slice of one's own, of strips with areas of one's own. -/
def StrOwn (n₀ : Nat) (v : Value) (w : World) (ss : List (List Int × List Int)) : Prop :=
  ∃ vals, w.ownsRow n₀ 28 2 v ss.length vals ∧ ∀ (j : Nat) s, ss[j]? = some s → ∃ B1 k1 B2 k2 : Nat, vals[j * 2]? = some (.slice (some ⟨B1, 0, none⟩) 24 k1) ∧ vals[j * 2 + 1]? = some (.slice (some ⟨B2, 0, none⟩) 24 k2) ∧ VA w B1 0 s.1 ∧ VA w B2 0 s.2
theorem StrOwn.ext {n₀ : Nat} {v : Value} {w w' : World} {ss : List (List Int × List Int)} (h : StrOwn n₀ v w ss) (hE : Ext w w') : StrOwn n₀ v w' ss := by
  obtain ⟨vals, h1, h2⟩ := h
  exact ⟨vals, own_ext h1 hE, fun j s hs => by obtain ⟨B1, k1, B2, k2, q1, q2, q3, q4⟩ := h2 j s hs; exact ⟨B1, k1, B2, k2, q1, q2, q3.ext hE, q4.ext hE⟩⟩
theorem StrOwn.strips {n₀ : Nat} {v : Value} {w : World} {ss : List (List Int × List Int)} (h : StrOwn n₀ v w ss) (hl : ss.length ≤ 140737488355328) : ∃ a c, v = .slice a ss.length c ∧ StripsAt w a ss.length ss := by
  obtain ⟨vals, h2, h3⟩ := h
  rcases h2.2 with ⟨q, q0⟩ | ⟨g, cap, cur, rfl, _, _⟩
  · exact ⟨none, 0, by rw [q, q0], rfl, hl, .inl q0⟩
  · refine ⟨some ⟨g, 0, none⟩, cap, rfl, rfl, hl, .inr ⟨g, 0, rfl, fun i s hs => ?_⟩⟩
    obtain ⟨B1, k1, B2, k2, q1, q2, q3, q4⟩ := h3 i s hs
    have hi := (List.getElem?_eq_some_iff.1 hs).1
    exact ⟨_, _, _, _, _, _, _, _, by rw [Nat.zero_add, h2.cellAt (i * 2) (by omega)]; exact q1, q3.aa, by rw [Nat.zero_add, h2.cellAt (i * 2 + 1) (by omega)]; exact q2, q4.aa⟩
theorem StrOwn.push {n₀ : Nat} {v v' : Value} {w w' : World} {ss : List (List Int × List Int)} (hh : StrOwn n₀ v w ss) {B1 k1 B2 k2 : Nat} {A B : List Int} {xs : List Value} (hrow : w.ownsRow n₀ 28 2 v ss.length xs)
    (hv1 : VA w B1 0 A) (hv2 : VA w B2 0 B) (n1 : v.ownBlock ≠ some B1) (n2 : v.ownBlock ≠ some B2) (hown : w'.ownsRow n₀ 28 2 v' (ss.length + 1) (xs ++ [.slice (some ⟨B1, 0, none⟩) 24 k1, .slice (some ⟨B2, 0, none⟩) 24 k2])) (hg : w.grownBy w' v.ownBlock) : StrOwn n₀ v' w' (ss ++ [(A, B)]) := by
  obtain ⟨vals, h2, h3⟩ := hh
  have hlx : xs.length = ss.length * 2 := hrow.1
  have hval : vals.length = ss.length * 2 := h2.1
  have same : ss ≠ [] → vals = xs := by
    intro hne
    have hpos := List.length_pos_iff.2 hne
    rcases h2.2 with ⟨_, q0⟩ | ⟨g, cap, cur, rfl, _, hc, _, _, _, ht⟩
    · omega
    · rcases hrow.2 with ⟨q, _⟩ | ⟨g', cap', cur', q, _, hc', _, _, _, ht'⟩
      · cases q
      · cases q; rw [hc] at hc'; cases hc'; rw [← ht, ← ht']
  have notown : ∀ {X : Nat} {L : List Int}, ss ≠ [] → VA w X 0 L → v.ownBlock ≠ some X := by
    intro X L hne hX hb
    have hpos := List.length_pos_iff.2 hne
    obtain ⟨C1, c1, C2, c2, q1, _, _, _⟩ := h3 0 _ (List.getElem?_eq_getElem hpos)
    rcases h2.2 with ⟨_, q0⟩ | ⟨g, cap, cur, rfl, _, _⟩
    · omega
    · have e1 := h2.cellAt 0 (by omega)
      have e2 := hX.1 0 (by omega)
      simp [Value.ownBlock] at hb
      subst hb
      rw [e1] at e2
      simp at q1
      rw [q1] at e2; cases e2
  refine ⟨xs ++ [.slice (some ⟨B1, 0, none⟩) 24 k1, .slice (some ⟨B2, 0, none⟩) 24 k2], by rw [List.length_append]; exact hown, fun j s hs => ?_⟩
  rcases Nat.lt_or_ge j ss.length with h | h
  · rw [List.getElem?_append_left h] at hs
    have hne : ss ≠ [] := by intro e; rw [e] at h; simp at h
    obtain ⟨C1, c1, C2, c2, q1, q2, q3, q4⟩ := h3 j s hs
    rw [same hne] at q1 q2
    exact ⟨C1, c1, C2, c2, by rw [List.getElem?_append_left (by omega)]; exact q1, by rw [List.getElem?_append_left (by omega)]; exact q2, q3.grownR hg (notown hne q3), q4.grownR hg (notown hne q4)⟩
  · have hj : j = ss.length := by
      have := (List.getElem?_eq_some_iff.1 hs).1
      rw [List.length_append] at this; simp at this; omega
    subst hj
    rw [List.getElem?_append_right (Nat.le_refl _), Nat.sub_self] at hs
    cases hs
    refine ⟨B1, k1, B2, k2, ?_, ?_, hv1.grownR hg n1, hv2.grownR hg n2⟩
    · rw [List.getElem?_append_right (by omega), hlx, Nat.sub_self]; rfl
    · rw [List.getElem?_append_right (by omega), hlx, show ss.length * 2 + 1 - ss.length * 2 = 1 by omega]; rfl

/-- The strips that integers determine. -/
def sh (q : Nat → Nat → Int) (i : Nat) : Nat → Nat → Int := fun r j => q (i + r) j
def stripN (q : Nat → Nat → Int) (t : Nat) : List Int × List Int := (areaL (sh q (t * 2)) 1, areaL (sh q (t * 2)) 2)
def stripsL (q : Nat → Nat → Int) (t : Nat) : List (List Int × List Int) := (List.range t).map (stripN q)
theorem stripsL_succ (q : Nat → Nat → Int) (t : Nat) : stripsL q (t + 1) = stripsL q t ++ [stripN q t] := by simp [stripsL, List.range_succ]
theorem stripsL_len (q : Nat → Nat → Int) (t : Nat) : (stripsL q t).length = t := by simp [stripsL]
theorem stripN_ok (q : Nat → Nat → Int) (t : Nat) : Globe.stripOk (stripN q t) = true := by
  unfold Globe.stripOk stripN
  rw [area_valid, Bool.true_and]
  refine Globe.contains_of (area_valid _ _) (area_valid _ _) fun x y _ _ h => ?_
  unfold areaL at h ⊢
  rw [(outTo_spec _ _ rfl arP_in).2, decide_eq_true_iff] at h ⊢
  have e : arP (sh q (t * 2)) (min 2 3) = arP (sh q (t * 2)) (min 1 3) ++ arY (sh q (t * 2)) 1 ((pickF (sh q (t * 2) 1 3) 4).toNat + 1) := arP_succ _ 1
  rw [e]
  exact List.mem_append_left _ h
theorem stripsL_ok (q : Nat → Nat → Int) {t : Nat} (h : t ≤ 9) : Globe.stripsOk (stripsL q t) = true := by
  refine Globe.stripsOk_t.2 ⟨by rw [stripsL_len]; omega, fun s hs => ?_⟩
  simp only [stripsL, List.mem_map] at hs
  obtain ⟨i, _, rfl⟩ := hs
  exact stripN_ok q i
theorem QAt.sub {w : World} {b off n : Nat} {q : Nat → Nat → Int} (h : ∀ i, i < n → ∀ j, j < 4 → w.cell? ⟨b, off + i * 4 + j, none⟩ = some (.int .i64 (q i j)) ∧ IsI (q i j)) {i m : Nat} (hm : i + m ≤ n) : QAt w (some ⟨b, off + i * 4, none⟩) m (sh q i) :=
  .inr ⟨b, off + i * 4, rfl, fun r hr j hj => by
    have := h (i + r) (by omega) j hj
    rw [show off + (i + r) * 4 + j = off + i * 4 + r * 4 + j by omega] at this
    exact this⟩
/-- What Strips returns. -/
def RetS (w : World) (ss : List (List Int × List Int)) (e : Ending) (w' : World) : Prop :=
  ∃ (a : Option Addr) (c : Nat), e = .returned (.slice a ss.length c) ∧ StripsAt w' a ss.length ss ∧ Ext w w'

set_option maxRecDepth 100000 in
set_option maxHeartbeats 8000000 in
theorem Strips_c {w0 : World} {a : Option Addr} {n c : Nat} {q : Nat → Nat → Int} (w : World) (h : QAt w0 a n q) (hE0 : Ext w0 w) (hnc : n ≤ c) (hc : c ≤ 9223372036854775807) :
    Calls Tryd.prog 12 #[.slice a n c] w (RetS w (stripsL q (min (n / 2) 9))) := by
  have H := Lib.hid (h.ext hE0); clear h hE0
  obtain ⟨i9, hi, hz0, hz1, hz2⟩ := info_parts (P := Tryd.prog) (e := 28) (z := .agg #[.slice none 0 0, .slice none 0 0]) (size := 2) (bytes := 48) (by kernel_rfl)
  have Hi := Lib.hid (And.intro hi (And.intro hz0 (And.intro hz1 hz2))); clear hi hz0 hz1 hz2
  go_enter Tryd.func12, Tryd.ntmps12
  go_wp2_with fail
  go_loopw [3, 4] (fun v p wr => ∃ (t : Nat) (a1 : Option Addr) (c1 : Nat), t ≤ min (n / 2) 9 ∧ p = .int .i64 ((t * 2 : Nat) : Int) ∧ v = .slice a1 t c1 ∧ Hid (StrOwn w.heap.size (.slice a1 t c1) wr (stripsL q t)) ∧ Ext w wr) (fun _ p _ => 20 - (intOf p).toNat)
  case atStart => exact ⟨0, none, 0, by omega, rfl, rfl, ⟨[], World.ownsRow_nil _ _ _ _, fun j s hs => by simp [stripsL] at hs⟩, Ext.refl _⟩
  case round =>
    obtain ⟨t, a1, c1, ht, rfl, rfl, Hs, hE⟩ := hrel
    by_cases hlt : t * 2 + 1 < n
    · by_cases h9 : t < 9
      · obtain ⟨b, off, rfl, hq⟩ : ∃ b off, a = some ⟨b, off, none⟩ ∧ ∀ i, i < n → ∀ j, j < 4 → w.cell? ⟨b, off + i * 4 + j, none⟩ = some (.int .i64 (q i j)) ∧ IsI (q i j) := H.out.resolve_left (by omega)
        have HQ := Lib.hid hq; clear hq
        obtain ⟨I, hI⟩ : ∃ I, I = t * 2 := ⟨_, rfl⟩
        rw [← hI] at hlt ⊢
        have HI := Lib.hid hI
        have i0 : (0 : Int) ≤ (I : Int) := by omega
        have i1 : (I : Int) + 1 < (n : Int) := by omega
        have i2 : (n : Int) ≤ (c : Int) := by omega
        have i3 : (c : Int) ≤ 9223372036854775807 := by omega
        have i4 : (I : Int) ≤ 100 := by omega
        have i5 : ¬ c = I := by omega
        have i6 : (t : Int) < 9 := by omega
        have j1 : (0 : Int) ≤ (I : Int) + 1 := by omega
        have j2 : (I : Int) + 1 ≤ (c : Int) := by omega
        have j3 : (0 : Int) ≤ (I : Int) + 2 := by omega
        have j4 : (I : Int) + 2 ≤ (c : Int) := by omega
        have k4 : IntKind.i64.wrap ((I : Int) + 1) = (I : Int) + 1 := by rw [IntKind.wrap_i64]; omega
        have k10 : IntKind.i64.wrap ((I : Int) + 2) = (I : Int) + 2 := by rw [IntKind.wrap_i64]; omega
        have J5 := Lib.hid (show (I : Int) ≤ (I : Int) + 2 by omega)
        have J6 := Lib.hid (show ((I : Int) + 2).toNat - I = 2 by omega)
        have K4 := Lib.hid k4; have K10 := Lib.hid k10; clear k4 k10 hI
        obtain ⟨V, rfl⟩ : ∃ V, V = wr := ⟨_, rfl⟩
        go_wp2_with fail
        -- <<strips
        refine wg_begin [(some 17, [3], []), (some 18, [0], []), (some 19, [4], []), (some 20, [4], []), (some 21, [20], [3]), (some 22, [18, 19, 21], [1, 2, 4]), (some 23, [22], [5]), (some 24, [0], []), (some 25, [4], []), (some 26, [4], []), (some 27, [26], [9]), (some 28, [24, 25, 27], [7, 8, 10]), (some 29, [28], [11, 6]), (some 30, [23, 29], [6, 12]), (some 31, [30], [13]), (some 32, [17, 31], [0, 14, 12]), (some 3, [32], [15, 15, 0, 1, 2, 3, 4, 5, 6, 7, 8, 9, 10, 11, 12, 13, 14, 15])] (fun _ => True) (by kernel_rfl) (by kernel_rfl) (by kernel_rfl) (by kernel_rfl) (by intro c d v a w h; cases d <;> first | exact h | (exact nomatch h.1) | (dsimp +zetaDelta only [Exit.then, Exit.inBlock] at h ⊢; exact h)) (trivial) (fun ops Q L hL hR hK hHeld => ?_); replace hL := Lib.hid hL; have hW1 := @evalW_tmp; have hW2 := @evalW_const; have hW3 := @evalW_func; have hW4 := @look_cons; have hW5 := @look_nil
        have r3 := wg_read hL.out 3 rfl
        have r0 := wg_read hL.out 0 rfl
        have r4 := wg_read hL.out 4 rfl
        (refine wg_take 0 (v := ?_) hR rfl (by kernel_rfl) (by kernel_rfl) ?_ (by with_reducible assumption) ?_; rotate_left; (focus (intro w hSw; (try dsimp only at hSw); go_simp; (try with_reducible rfl))); (dsimp only [putW]))
        (refine wg_take 1 (v := ?_) hR rfl (by kernel_rfl) (by kernel_rfl) ?_ (by with_reducible assumption) ?_; rotate_left; (focus (intro w hSw; (try dsimp only at hSw); go_simp; (try with_reducible rfl))); (dsimp only [putW]))
        (refine wg_take 2 (v := ?_) hR rfl (by kernel_rfl) (by kernel_rfl) ?_ (by with_reducible assumption) ?_; rotate_left; (focus (intro w hSw; (try dsimp only at hSw); go_simp; (try with_reducible rfl))); (dsimp only [putW]))
        (refine wg_take 3 (v := ?_) hR rfl (by kernel_rfl) (by kernel_rfl) ?_ (by with_reducible assumption) ?_; rotate_left; (focus (intro w hSw; (try dsimp only at hSw); go_simp; (try with_reducible rfl))); (dsimp only [putW]))
        (refine wg_take 4 (v := ?_) hR rfl (by kernel_rfl) (by kernel_rfl) ?_ (by with_reducible assumption) ?_; rotate_left; (focus (intro w hSw; (try dsimp only at hSw); have k0 := K4.out; go_simp; (try with_reducible rfl))); (dsimp only [putW]))
        (refine wg_take 5 (v := ?_) hR rfl (by kernel_rfl) (by kernel_rfl) ?_ (by with_reducible assumption) ?_; rotate_left; (focus (intro w hSw; (try dsimp only at hSw); go_simp; (try with_reducible rfl))); (dsimp only [putW]))
        (refine wg_take 7 (v := ?_) hR rfl (by kernel_rfl) (by kernel_rfl) ?_ (by with_reducible assumption) ?_; rotate_left; (focus (intro w hSw; (try dsimp only at hSw); go_simp; (try with_reducible rfl))); (dsimp only [putW]))
        (refine wg_take 8 (v := ?_) hR rfl (by kernel_rfl) (by kernel_rfl) ?_ (by with_reducible assumption) ?_; rotate_left; (focus (intro w hSw; (try dsimp only at hSw); go_simp; (try with_reducible rfl))); (dsimp only [putW]))
        (refine wg_take 9 (v := ?_) hR rfl (by kernel_rfl) (by kernel_rfl) ?_ (by with_reducible assumption) ?_; rotate_left; (focus (intro w hSw; (try dsimp only at hSw); go_simp; (try with_reducible rfl))); (dsimp only [putW]))
        (refine wg_take 10 (v := ?_) hR rfl (by kernel_rfl) (by kernel_rfl) ?_ (by with_reducible assumption) ?_; rotate_left; (focus (intro w hSw; (try dsimp only at hSw); have k0 := K10.out; go_simp; (try with_reducible rfl))); (dsimp only [putW]))
        (refine wg_take 11 (v := ?_) hR rfl (by kernel_rfl) (by kernel_rfl) ?_ (by with_reducible assumption) ?_; rotate_left; (focus (intro w hSw; (try dsimp only at hSw); have j5 := J5.out; have j6 := J6.out; go_simp; (try with_reducible rfl))); (dsimp only [putW]))
        (refine wg_step 6 hR rfl (by kernel_rfl) (by kernel_rfl) ?_ (by kernel_rfl); refine wg_call (f := 11) (args := ?_) ?_ ?_; rotate_left; (focus (go_simp; first | done | (with_reducible rfl) | (refine ⟨?_, ?_⟩ <;> with_reducible rfl))); (go_at_call 11; refine (Area_c (c - I) _ (QAt.sub (m := 1) HQ.out (by omega)) (hE.trans (Ext.drew (Ext.refl _))) (by omega)).mono ?_; rintro e w4 ⟨B1, k1, rfl, hB1, hv1, hb4⟩); refine ⟨_, rfl, trivial, fun hHeld => ?_⟩; (dsimp only [putW]))
        (refine wg_step 12 hR rfl (by kernel_rfl) (by kernel_rfl) ?_ (by kernel_rfl); refine wg_call (f := 11) (args := ?_) ?_ ?_; rotate_left; (focus (go_simp; first | done | (with_reducible rfl) | (refine ⟨?_, ?_⟩ <;> with_reducible rfl))); (go_at_call 11; refine (Area_c (c - I) _ (QAt.sub (m := 2) HQ.out (by omega)) (hE.trans ((Ext.drew (Ext.refl _)).trans hb4)) (by omega)).mono ?_; rintro e w5 ⟨B2, k2, rfl, hB2, hv2, hb5⟩; have hE5 : Ext V w5 := (Ext.drew (Ext.refl _)).trans (hb4.trans hb5); have Hs5 := Lib.hid (Hs.out.ext hE5)); refine ⟨_, rfl, trivial, fun hHeld => ?_⟩; (dsimp only [putW]))
        (refine wg_take 13 (v := ?_) hR rfl (by kernel_rfl) (by kernel_rfl) ?_ (by with_reducible assumption) ?_; rotate_left; (focus (intro w hSw; (try dsimp only at hSw); go_simp; (try with_reducible rfl))); (dsimp only [putW]))
        (refine wg_step 14 hR rfl (by kernel_rfl) (by kernel_rfl) ?_ (by kernel_rfl); refine wg_eff (v := ?_) (w' := ?_) ?_ ?_ ?_; rotate_left; rotate_left; (focus (go_simp; first | done | (with_reducible rfl) | (refine ⟨?_, ?_⟩ <;> with_reducible rfl))); (focus (exact trivial)); intro hHeld; (dsimp only [putW]))
        (refine wg_step 15 hR rfl (by kernel_rfl) (by kernel_rfl) ?_ (by kernel_rfl); (obtain ⟨vals, hrow, hpc⟩ := Hs5.out; rw [stripsL_len] at hrow; have hs5 := (hE.trans hE5).size; obtain ⟨v', w6, hrun, hown, hg6, -⟩ := run_append_own (P := Tryd.prog) (w5.alloc (.cells #[.slice (some ⟨B1, 0, none⟩) 24 k1, .slice (some ⟨B2, 0, none⟩) 24 k2] 28)) w.heap.size 26 26 28 i9 (.agg #[.slice none 0 0, .slice none 0 0]) 2 48 Tryd.underlying26 Hi.out.1 Hi.out.2.1 Hi.out.2.2.1 Hi.out.2.2.2 rfl (by decide) (.slice a1 t c1) t vals (own_ext hrow (Ext.alloc (Ext.refl _) _)) ⟨w5.heap.size, 0, none⟩ 1 1 [.slice (some ⟨B1, 0, none⟩) 24 k1, .slice (some ⟨B2, 0, none⟩) 24 k2] rfl (cell_2_new _ _ _ _) (by simp [Value.oneCell']) (by unfold maxLen; omega) (by omega) (by simp; omega); obtain ⟨g', cap', rfl⟩ := ownsRow_succ hown; refine wg_eff (v := .slice (some ⟨g', 0, none⟩) (t + 1) cap') (w' := w6) ?_ ?_ ?_; (focus (simp [execOp, resolve, invoke, builtin, hW1, hW2, hW4, hW5, hrun, Result.andThen])); (focus (exact trivial)); intro hHeld; (dsimp only [putW])))
        (refine wg_take 16 (v := ?_) hR rfl (by kernel_rfl) (by kernel_rfl) ?_ (by with_reducible assumption) ?_; rotate_left; (focus (intro w hSw; (try dsimp only at hSw); go_simp; (try with_reducible rfl))); (dsimp only [putW]))
        refine wg_fin hR hK [(3, 0), (13, 16), (0, 15), (0, 14), (0, 13), (0, 12), (0, 11), (0, 5), (0, 10), (0, 9), (0, 8), (0, 7), (0, 6), (0, 4), (0, 3), (0, 2), (0, 1)] (by kernel_rfl) (by kernel_rfl) (by dsimp only [mg, gsOf, valAt]) ?_; clear hW1 hW2 hW3 hW4 hW5 hR hK hL
        clear r3
        clear r0
        clear r4
        -- >>
        have hlv := hv1.ext hb5
        have hE6 : Ext V (w5.alloc (.cells #[.slice (some ⟨B1, 0, none⟩) 24 k1, .slice (some ⟨B2, 0, none⟩) 24 k2] 28)) := Ext.alloc hE5 _
        have hVs := hE.size
        obtain ⟨vals0, hown0, -⟩ := Hs.out
        have hpush := StrOwn.push (Hs.out.ext hE6) (own_ext (by rw [stripsL_len]; exact hrow) (Ext.alloc (Ext.refl _) _)) (hlv.ext (Ext.alloc (Ext.refl _) _)) (hv2.ext (Ext.alloc (Ext.refl _) _)) (own_ne2 hown0 (by simp at hB1; omega)) (own_ne2 hown0 (by have := hb4.size; simp at hB2 this; omega)) (by rw [stripsL_len]; exact hown) hg6
        have HP := Lib.hid hpush
        have HE7 := Lib.hid (Ext.own (hE.trans hE6) (own_ext hrow (Ext.alloc (Ext.refl _) _)) hg6)
        clear hpush hown0 hlv hown hg6 hrun hrow hpc hv1 hv2 hb4 hb5 hB1 hB2
        go_wp2_with fail
        go_roundw
        case rel => exact ⟨t + 1, _, _, by have := HI.out; omega, by rw [HI.out]; congr 1; omega, rfl, by rw [stripsL_succ, show stripN q t = (areaL (sh q I) 1, areaL (sh q I) 2) by rw [HI.out]; rfl]; exact HP.out, HE7.out⟩
        case measure => simp [intOf]; have := HI.out; omega
      · have hm : min (n / 2) 9 = t := by omega
        have i1 : (t : Int) * 2 + 1 < (n : Int) := by omega
        have i6 : ¬ (t : Int) < 9 := by omega
        rw [hm]
        go_wp2_with fail
        go_ret
        obtain ⟨aa, ca, e, hS⟩ := Hs.out.strips (by rw [stripsL_len]; omega)
        rw [stripsL_len] at e hS
        cases e
        exact ⟨_, _, by rw [stripsL_len]; rfl, by rw [stripsL_len]; exact hS, hE⟩
    · have hm : min (n / 2) 9 = t := by omega
      have i1 : ¬ (t : Int) * 2 + 1 < (n : Int) := by omega
      rw [hm]
      go_wp2_with fail
      go_ret
      obtain ⟨aa, ca, e, hS⟩ := Hs.out.strips (by rw [stripsL_len]; omega)
      rw [stripsL_len] at e hS
      cases e
      exact ⟨_, _, by rw [stripsL_len]; rfl, by rw [stripsL_len]; exact hS, hE⟩

end Go.Proofs.YtglfoglkdbbmmaaDoor
