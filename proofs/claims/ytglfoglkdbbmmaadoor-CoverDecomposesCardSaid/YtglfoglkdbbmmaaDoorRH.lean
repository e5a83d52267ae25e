/- Contracts of the reference of package globe: Empty, put, Same. -/
import Derived.Test.YtglfoglkdbbmmaaDoorGB
import Derived.Test.YtglfoglkdbbmmaaDoorM0
import Derived.Test.YtglfoglkdbbmmaaDoorWM
import Derived.Test.YtglfoglkdbbmmaaDoorWR
namespace Go.Proofs.YtglfoglkdbbmmaaDoor
open Go.RowKit

theorem rEmpty_c (w : World) : Calls Tryd.prog 36 #[] w (RetA w Globe.zeroL) := by
  have hmk := make24
  go_enter Tryd.func36, Tryd.ntmps36
  go_wp2
  refine bodyPost_ret (v := .agg #[.slice (some ⟨w.heap.size + 1, 0, none⟩) 24 24]) (by simp [results, Tryd.results36, go_sem]) rfl ⟨w.heap.size + 1, rfl, by omega, ?_, by (repeat' (first | (with_reducible assumption) | (with_reducible exact Ext.refl _) | (with_reducible refine Ext.alloc ?_ _) | (with_reducible refine Ext.drew ?_) | (with_reducible refine Ext.drewN ?_ _) | (with_reducible refine Ext.setCell ?_ ?_ _) | (with_reducible refine Ext.trans ?_ (by assumption)) | go_size))⟩
  have := RowsAt.new (w.alloc (.cells #[.slice (some ⟨w.heap.size + 1, 0, none⟩) 24 24] 25)) Globe.zeroL 3 rfl
  rwa [World.size_alloc] at this

theorem modN_cases (x : Int) : (x.tmod 48 < 0 ∧ x.tmod 48 + 48 = (modN x : Int)) ∨ (0 ≤ x.tmod 48 ∧ x.tmod 48 = (modN x : Int)) := by
  unfold modN
  by_cases h : 0 ≤ x
  · rw [Int.tmod_eq_emod_of_nonneg h]; omega
  · obtain ⟨m, rfl⟩ : ∃ m : Int, x = -m := ⟨-x, by omega⟩
    rw [Int.neg_tmod, Int.tmod_eq_emod_of_nonneg (by omega)]; omega
theorem tmod_bd (x : Int) : -47 ≤ x.tmod 48 ∧ x.tmod 48 ≤ 47 := (modN_go x).2

set_option maxHeartbeats 1000000 in
theorem put_c (B c : Nat) (L : List Int) (x : Int) (y : Nat) (w : World) (h : RowsAt w B L) (hv : Globe.validL L = true) (hy : y < 24) :
    Calls Tryd.prog 81 #[.agg #[.slice (some ⟨B, 0, none⟩) 24 c], .int .i64 x, .int .i64 (y : Int)] w fun e w' => (∃ v, e = .returned v) ∧ RowsAt w' B (Globe.putL L (modN x) y) ∧ w.grownBy w' (some B) := by
  have hm := modN_lt x
  have hBl := h.lt
  obtain ⟨K, hK⟩ : ∃ K, K = modN x := ⟨_, rfl⟩
  rw [← hK] at hm ⊢
  have hR := Globe.rowN_lt hv y
  have d3 : w.cell? ⟨B, y, none⟩ = some (.int .i64 (Globe.rowN L y : Nat)) := by rw [← Globe.rowN_cast hv]; exact h.cell hy
  have d4 := h.free hy
  obtain ⟨s0, s1, s2⟩ := p2_shl (n := K) (by omega)
  have s3 : bits .or .i64 (Globe.rowN L y : Nat) (p2 K : Nat) = ((Globe.rowN L y ||| p2 K : Nat) : Int) := or_i64 _ _ (by omega) (by omega)
  have y0 : (0 : Int) ≤ (y : Int) := by omega
  have y1 : (y : Int) < 24 := by omega
  have hput : L.set y ((Globe.rowN L y ||| p2 K : Nat) : Int) = Globe.putL L K y := rfl
  rw [← hput]
  clear s1 s2 hput hv
  have H := Lib.hid h; clear h
  generalize Globe.rowN L y ||| p2 K = RO at *
  rcases modN_cases x with ⟨m1, m2⟩ | ⟨m1, m2⟩
  all_goals
    obtain ⟨t0, t1⟩ := tmod_bd x
    rw [← hK] at m2
    clear hK
    go_enter Tryd.func81, Tryd.ntmps81
    go_wp2_with fail
    -- <<put
    refine wp_region_held_drew (S := fun w' => w'.cell? ⟨w.heap.size, 0, none⟩ = some (.slice (some ⟨B, 0, none⟩) 24 c)) (by kernel_rfl) (by simp [go_sem]) (fun hHeld => ?_)
    (refine rg_take 0 (v := ?_) rfl (by kernel_rfl) (by kernel_rfl) (by kernel_rfl) (fun _ _ _ h => h) (by kernel_rfl) ?_ (by with_reducible assumption) ?_; rotate_left; (focus (intro w hSw; (try dsimp only at hSw); go_simp; (try with_reducible rfl))); (try simp only [Act.put, List.setIfInBounds_toArray, List.set_cons_zero, List.set_cons_succ]))
    (refine rg_take 1 (v := ?_) rfl (by kernel_rfl) (by kernel_rfl) (by kernel_rfl) (fun _ _ _ h => h) (by kernel_rfl) ?_ (by with_reducible assumption) ?_; rotate_left; (focus (intro w hSw; (try dsimp only at hSw); go_simp; (try with_reducible rfl))); (try simp only [Act.put, List.setIfInBounds_toArray, List.set_cons_zero, List.set_cons_succ]))
    (refine rg_take 2 (v := ?_) rfl (by kernel_rfl) (by kernel_rfl) (by kernel_rfl) (fun _ _ _ h => h) (by kernel_rfl) ?_ (by with_reducible assumption) ?_; rotate_left; (focus (intro w hSw; (try dsimp only at hSw); go_simp; (try with_reducible rfl))); (try simp only [Act.put, List.setIfInBounds_toArray, List.set_cons_zero, List.set_cons_succ]))
    (refine rg_take 3 (v := ?_) rfl (by kernel_rfl) (by kernel_rfl) (by kernel_rfl) (fun _ _ _ h => h) (by kernel_rfl) ?_ (by with_reducible assumption) ?_; rotate_left; (focus (intro w hSw; (try dsimp only at hSw); go_simp; (try with_reducible rfl))); (try simp only [Act.put, List.setIfInBounds_toArray, List.set_cons_zero, List.set_cons_succ]))
    (refine rg_take 4 (v := ?_) rfl (by kernel_rfl) (by kernel_rfl) (by kernel_rfl) (fun _ _ _ h => h) (by kernel_rfl) ?_ (by with_reducible assumption) ?_; rotate_left; (focus (intro w hSw; (try dsimp only at hSw); go_simp; (try with_reducible rfl))); (try simp only [Act.put, List.setIfInBounds_toArray, List.set_cons_zero, List.set_cons_succ]))
    (refine rg_take 5 (v := ?_) rfl (by kernel_rfl) (by kernel_rfl) (by kernel_rfl) (fun _ _ _ h => h) (by kernel_rfl) ?_ (by with_reducible assumption) ?_; rotate_left; (focus (intro w hSw; (try dsimp only at hSw); go_simp; (try with_reducible rfl))); (try simp only [Act.put, List.setIfInBounds_toArray, List.set_cons_zero, List.set_cons_succ]))
    (refine rg_take 6 (v := ?_) rfl (by kernel_rfl) (by kernel_rfl) (by kernel_rfl) (fun _ _ _ h => h) (by kernel_rfl) ?_ (by with_reducible assumption) ?_; rotate_left; (focus (intro w hSw; (try dsimp only at hSw); go_simp; (try with_reducible rfl))); (try simp only [Act.put, List.setIfInBounds_toArray, List.set_cons_zero, List.set_cons_succ]))
    (refine rg_take 8 (v := ?_) rfl (by kernel_rfl) (by kernel_rfl) (by kernel_rfl) (fun _ _ _ h => h) (by kernel_rfl) ?_ (by with_reducible assumption) ?_; rotate_left; (focus (intro w hSw; (try dsimp only at hSw); go_simp; (try with_reducible rfl))); (try simp only [Act.put, List.setIfInBounds_toArray, List.set_cons_zero, List.set_cons_succ]))
    (refine rg_take 9 (v := ?_) rfl (by kernel_rfl) (by kernel_rfl) (by kernel_rfl) (fun _ _ _ h => h) (by kernel_rfl) ?_ (by with_reducible assumption) ?_; rotate_left; (focus (intro w hSw; (try dsimp only at hSw); go_simp; (try with_reducible rfl))); (try simp only [Act.put, List.setIfInBounds_toArray, List.set_cons_zero, List.set_cons_succ]))
    refine rg_step 7 rfl (by kernel_rfl) (by kernel_rfl) (fun K hK => ?_)
    (go_simp; skip; refine hK.out _ _ (hHeld) (fun hHeld => ?_); clear hK K; (try simp only [Act.put, List.setIfInBounds_toArray, List.set_cons_zero, List.set_cons_succ]))
    (refine rg_take 10 (v := ?_) rfl (by kernel_rfl) (by kernel_rfl) (by kernel_rfl) (fun _ _ _ h => h) (by kernel_rfl) ?_ (by with_reducible assumption) ?_; rotate_left; (focus (intro w hSw; (try dsimp only at hSw); go_simp; (try with_reducible rfl))); (try simp only [Act.put, List.setIfInBounds_toArray, List.set_cons_zero, List.set_cons_succ]))
    (refine rg_take 11 (v := ?_) rfl (by kernel_rfl) (by kernel_rfl) (by kernel_rfl) (fun _ _ _ h => h) (by kernel_rfl) ?_ (by with_reducible assumption) ?_; rotate_left; (focus (intro w hSw; (try dsimp only at hSw); go_simp; (try with_reducible rfl))); (try simp only [Act.put, List.setIfInBounds_toArray, List.set_cons_zero, List.set_cons_succ]))
    refine rg_step 12 rfl (by kernel_rfl) (by kernel_rfl) (fun K hK => ?_)
    (go_simp; skip; refine hK.out _ _ (by simp [go_sem]) (fun hHeld => ?_); clear hK K; (try simp only [Act.put, List.setIfInBounds_toArray, List.set_cons_zero, List.set_cons_succ]))
    refine wpAnyH_done (by kernel_rfl) ?_ _
    go_wp2
    go_end0
    exact ⟨⟨_, rfl⟩, ((H.out.set hy _).ext (Ext.alloc (Ext.refl _) _)).drew, grown_set (p := ⟨B, y, none⟩) rfl (Below.drew (Below.alloc (Below.refl _ _) (Nat.le_refl _) _))⟩
    -- >>

theorem ne_of_at {l1 l2 : List Int} {k : Nat} (h : Globe.nth l1 k ≠ Globe.nth l2 k) : decide (l1 = l2) = false := by
  rw [decide_eq_false_iff_not]; intro e; exact h (by rw [e])
set_option maxHeartbeats 1000000 in
theorem rSame_c {w1 w2 : World} {a1 : Option Addr} {l1 : List Int} {n1 : Nat} (c1 : Nat) {v1 : Bool} {a2 : Option Addr} {l2 : List Int} {n2 : Nat} (c2 : Nat) {v2 : Bool} (w : World) (h1 : AA w1 a1 l1 n1 v1) (e1 : Ext w1 w) (h2 : AA w2 a2 l2 n2 v2) (e2 : Ext w2 w) :
    Calls Tryd.prog 21 #[.agg #[.slice a1 n1 c1], .agg #[.slice a2 n2 c2]] w fun e w' => e = .returned (.bool (decide (l1 = l2))) ∧ Ext w w' := by
  replace h1 := h1.ext e1
  replace h2 := h2.ext e2
  clear e1 e2
  obtain ⟨i1, hn1, hl1, -⟩ := h1
  obtain ⟨i2, hn2, hl2, -⟩ := h2
  by_cases hne : n1 = n2
  · subst hne
    rcases Nat.eq_zero_or_pos n1 with h0 | h0
    · subst h0
      obtain rfl := List.length_eq_zero_iff.1 hn1
      obtain rfl := List.length_eq_zero_iff.1 hn2
      clear i1 i2 hn1 hn2 hl1 hl2
      go_enter Tryd.func21, Tryd.ntmps21
      go_wp2_with fail
      refine wp_loop_rounds 1 ?_
      rw [rounds_succ]
      go_wp2_with fail
      go_ret
      exact ⟨rfl, by (repeat' (first | (with_reducible assumption) | (with_reducible exact Ext.refl _) | (with_reducible refine Ext.alloc ?_ _) | (with_reducible refine Ext.drew ?_) | (with_reducible refine Ext.drewN ?_ _) | (with_reducible refine Ext.setCell ?_ ?_ _) | (with_reducible refine Ext.trans ?_ (by assumption)) | go_size))⟩
    · have e1 : ∃ b off, a1 = some ⟨b, off, none⟩ ∧ ∀ i, i < n1 → w.cell? ⟨b, off + i, none⟩ = some (.int .i64 (Globe.nth l1 i)) := by
        rcases i1 with rfl | ⟨b, off, rfl, h⟩
        · simp at hn1; omega
        · exact ⟨b, off, rfl, fun i hi => h i (by omega)⟩
      have e2 : ∃ b off, a2 = some ⟨b, off, none⟩ ∧ ∀ i, i < n1 → w.cell? ⟨b, off + i, none⟩ = some (.int .i64 (Globe.nth l2 i)) := by
        rcases i2 with rfl | ⟨b, off, rfl, h⟩
        · simp at hn2; omega
        · exact ⟨b, off, rfl, fun i hi => h i (by omega)⟩
      obtain ⟨b1, o1, rfl, r1⟩ := e1
      obtain ⟨b2, o2, rfl, r2⟩ := e2
      have R1 := Lib.hid r1; clear r1
      have R2 := Lib.hid r2; clear r2
      have Hn1 := Lib.hid hn1; clear hn1
      have Hn2 := Lib.hid hn2; clear hn2
      clear i1 i2 hl2
      go_enter Tryd.func21, Tryd.ntmps21
      go_wp2_with fail
      refine wp_name (fun V => Ext w V ∧ V.cell? ⟨w.heap.size, 0, none⟩ = some (.slice (some ⟨b1, o1, none⟩) n1 c1) ∧ V.cell? ⟨w.heap.size + 1, 0, none⟩ = some (.slice (some ⟨b2, o2, none⟩) n1 c2)) ⟨by (repeat' (first | (with_reducible assumption) | (with_reducible exact Ext.refl _) | (with_reducible refine Ext.alloc ?_ _) | (with_reducible refine Ext.drew ?_) | (with_reducible refine Ext.drewN ?_ _) | (with_reducible refine Ext.setCell ?_ ?_ _) | (with_reducible refine Ext.trans ?_ (by assumption)) | go_size)), by simp [go_sem], by simp [go_sem]⟩ ?_
      rintro V ⟨hV, k1, k2⟩
      go_loopw [5] (fun p wr => ∃ k : Nat, k ≤ n1 ∧ p = .int .i64 k ∧ Hid (∀ j, j < k → Globe.nth l1 j = Globe.nth l2 j) ∧ Ext V wr) (fun p _ => n1 - (intOf p).toNat)
      case atStart => exact ⟨0, by omega, rfl, fun j hj => by omega, Ext.refl _⟩
      case round =>
        obtain ⟨k, hk, rfl, Hp, hE⟩ := hrel
        replace k1 := hE.cell k1
        replace k2 := hE.cell k2
        by_cases hlt : k < n1
        · have d1 : wr.cell? ⟨b1, o1 + k, none⟩ = some (.int .i64 (Globe.nth l1 k)) := hE.cell (hV.cell (R1.out k hlt))
          have d2 : wr.cell? ⟨b2, o2 + k, none⟩ = some (.int .i64 (Globe.nth l2 k)) := hE.cell (hV.cell (R2.out k hlt))
          have kk0 : (0 : Int) ≤ (k : Int) := by omega
          have kk1 : (k : Int) < (n1 : Int) := by omega
          generalize hx : Globe.nth l1 k = x at *
          generalize hy : Globe.nth l2 k = y at *
          have Hx := Lib.hid hx; clear hx
          have Hy := Lib.hid hy; clear hy
          by_cases hxy : x = y
          · subst hxy
            go_wp2_with fail
            go_quiet (fail)
            go_wp2_with fail
            go_roundw
            case rel => exact ⟨k + 1, by omega, by go_num, fun j hj => by
              rcases Nat.lt_or_ge j k with h | h
              · exact Hp.out j h
              · rw [show j = k by omega, Hx.out, Hy.out], by (repeat' (first | (with_reducible assumption) | (with_reducible exact Ext.refl _) | (with_reducible refine Ext.alloc ?_ _) | (with_reducible refine Ext.drew ?_) | (with_reducible refine Ext.drewN ?_ _) | (with_reducible refine Ext.setCell ?_ ?_ _) | (with_reducible refine Ext.trans ?_ (by assumption)) | go_size))⟩
            case measure => simp [intOf]; omega
          · go_wp2_with fail
            go_quiet (fail)
            go_wp2_with fail
            go_ret
            exact ⟨ret_bool (ne_of_at (k := k) (by rw [Hx.out, Hy.out]; exact hxy)).symm, by (repeat' (first | (with_reducible assumption) | (with_reducible exact Ext.refl _) | (with_reducible refine Ext.alloc ?_ _) | (with_reducible refine Ext.drew ?_) | (with_reducible refine Ext.drewN ?_ _) | (with_reducible refine Ext.setCell ?_ ?_ _) | (with_reducible refine Ext.trans ?_ (by assumption)) | go_size))⟩
        · obtain rfl : k = n1 := by omega
          go_wp2_with fail
          go_ret
          exact ⟨ret_bool (by rw [eq_comm, decide_eq_true_eq]; exact Globe.ext_nth (by rw [Hn1.out, Hn2.out]) fun j hj => Hp.out j (by rw [← Hn1.out]; exact hj)), by (repeat' (first | (with_reducible assumption) | (with_reducible exact Ext.refl _) | (with_reducible refine Ext.alloc ?_ _) | (with_reducible refine Ext.drew ?_) | (with_reducible refine Ext.drewN ?_ _) | (with_reducible refine Ext.setCell ?_ ?_ _) | (with_reducible refine Ext.trans ?_ (by assumption)) | go_size))⟩
  · have hd : decide (l1 = l2) = false := by
      rw [decide_eq_false_iff_not]; intro e; subst e; exact hne (by omega)
    have hni : ¬ (n1 : Int) = (n2 : Int) := by omega
    have Hd := Lib.hid hd; clear hd
    clear i1 i2 hn1 hn2
    go_enter Tryd.func21, Tryd.ntmps21
    go_wp2_with fail
    go_ret
    exact ⟨ret_bool (by rw [Hd.out]), by (repeat' (first | (with_reducible assumption) | (with_reducible exact Ext.refl _) | (with_reducible refine Ext.alloc ?_ _) | (with_reducible refine Ext.drew ?_) | (with_reducible refine Ext.drewN ?_ _) | (with_reducible refine Ext.setCell ?_ ?_ _) | (with_reducible refine Ext.trans ?_ (by assumption)) | go_size))⟩

end Go.Proofs.YtglfoglkdbbmmaaDoor
