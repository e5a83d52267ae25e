/- Contracts of package globe: Box. -/
import Derived.Test.YtnfknekbbdfdfaaDoorG7
import Derived.Test.YtnfknekbbdfdfaaDoorWM
import Derived.Test.YtnfknekbbdfdfaaDoorWR
namespace Go.Proofs.YtnfknekbbdfdfaaDoor
open Go.RowKit

/-- Whether a box fits. -/
def boxB (x y wide high : Int) : Bool := Globe.vcB x y && Globe.inB wide 1 48 && Globe.inB high 1 (24 - y)
theorem boxB_t {x y wide high : Int} : boxB x y wide high = true ↔ (0 ≤ x ∧ x ≤ 47 ∧ 0 ≤ y ∧ y ≤ 23) ∧ (1 ≤ wide ∧ wide ≤ 48) ∧ 1 ≤ high ∧ high ≤ 24 - y := by
  unfold boxB; rw [Bool.and_eq_true, Bool.and_eq_true, Globe.vcB_t, Globe.inB_t, Globe.inB_t, and_assoc]
theorem box_zero (cx cy wide : Nat) : Globe.boxL cx cy wide 0 = Globe.zeroL := by
  have : ∀ y, (if cy ≤ y ∧ y < cy + 0 then Globe.rotN (2 ^ wide - 1) cx else 0) = 0 := fun y => if_neg (by omega)
  unfold Globe.boxL
  simp only [this]
  rfl
theorem box_succ {cx cy wide k : Nat} (h : cy + k < 24) : (Globe.boxL cx cy wide k).set (cy + k) (Globe.rotN (p2 wide - 1) cx : Nat) = Globe.boxL cx cy wide (k + 1) := by
  have hl : ∀ m, (Globe.boxL cx cy wide m).length = 24 := fun m => Globe.rowsF_len _
  refine Globe.ext_nth (by rw [List.length_set, hl, hl]) fun j hj => ?_
  rw [List.length_set, hl] at hj
  rw [Globe.nth_set _ (by rw [hl]; exact h)]
  unfold Globe.boxL p2
  rw [Globe.nth_rowsF _ hj, Globe.nth_rowsF _ hj]
  by_cases e : cy + k = j
  · rw [if_pos e, if_pos (by omega)]
  · rw [if_neg e]
    by_cases c : cy ≤ j ∧ j < cy + k
    · rw [if_pos c, if_pos (by omega)]
    · rw [if_neg c, if_neg (by omega)]

set_option maxHeartbeats 2000000 in
theorem Box_y (x y wide high : Nat) (w : World) (hx : x < 48) (hy : y < 24) (hw1 : 1 ≤ wide) (hw : wide ≤ 48) (hh1 : 1 ≤ high) (hh : y + high ≤ 24) :
    Calls Tryd.prog 19 #[.agg #[.int .i64 (x : Int), .int .i64 (y : Int)], .int .i64 (wide : Int), .int .i64 (high : Int)] w (RetAE w (Globe.boxL x y wide high)) := by
  have hvc : Globe.vcB (x : Int) (y : Int) = true := Globe.vcB_t.2 (by omega)
  have hi1 : Globe.inB (wide : Int) 1 48 = true := Globe.inB_t.2 (by omega)
  have hi2 : Globe.inB (high : Int) 1 (24 - y) = true := Globe.inB_t.2 (by omega)
  go_enter Tryd.func19, Tryd.ntmps19
  go_wp2_with (first | (go_at_call 15; refine (ValidCell_v _ _ _ hvc).mono ?_; rintro e w1 ⟨rfl, hb⟩; have hc := hb.cellE; have hf := hb.frozenE; have hz := hb.size; have ha := alloc_keeps w1; (try simp only [World.size_alloc] at hc hf hz); (try simp only [World.size_setCell] at hc hf hz); (try simp only [World.size_drew] at hc hf hz)) | (go_at_call 50; refine (isIn_c _ _ _ _).mono ?_; rintro e w' ⟨rfl, rfl⟩) | (go_at_call 46; refine (Empty_c _).mono ?_; rintro e w2 ⟨B, rfl, hB, hr, hb2⟩))
  obtain ⟨O, hO⟩ : ∃ O, O = w2.heap.size := ⟨_, rfl⟩
  have hBO : B < O := by have := hr.lt; omega
  have hwB : w.heap.size + 1 + 1 ≤ B := by omega
  clear hvc hi1 hi2
  refine wp_name (fun V => V.cell? ⟨w.heap.size, 0, none⟩ = some (.int .i64 (x : Int)) ∧ V.cell? ⟨w.heap.size, 1, none⟩ = some (.int .i64 (y : Int)) ∧ BoxAt V (w.heap.size + 1) 0 (.slice none 0 0) ∧ Fill w O B (Globe.boxL x y wide 0) V) ⟨?_, ?_, ?_, ?_⟩ ?_
  · (repeat' (first | (with_reducible assumption) | (simp [go_sem]; done) | (with_reducible refine Ext.cell (Ext.alloc (Ext.refl _) _) ?_) | (with_reducible refine Ext.cell (by with_reducible assumption) ?_)))
  · (repeat' (first | (with_reducible assumption) | (simp [go_sem]; done) | (with_reducible refine Ext.cell (Ext.alloc (Ext.refl _) _) ?_) | (with_reducible refine Ext.cell (by with_reducible assumption) ?_)))
  · (repeat' (first | (with_reducible assumption) | (exact ⟨by simp [go_sem], by simp [go_sem]⟩) | (with_reducible refine BoxAt.ext (Ext.alloc (Ext.refl _) _) ?_) | (with_reducible refine BoxAt.ext (by with_reducible assumption) ?_)))
  · exact ⟨by rw [box_zero]; exact hr.ext (by (repeat' (first | (with_reducible assumption) | (with_reducible exact Ext.refl _) | (with_reducible refine Ext.alloc ?_ _) | (with_reducible refine Ext.drew ?_) | (with_reducible refine Ext.drewN ?_ _) | (with_reducible refine Ext.setCell ?_ ?_ _) | (with_reducible refine Ext.trans ?_ (by assumption)) | go_size))), by rw [hO]; simp [go_sem], by (repeat' (first | (with_reducible assumption) | (with_reducible exact Ext.refl _) | (with_reducible refine Ext.alloc ?_ _) | (with_reducible refine Ext.drew ?_) | (with_reducible refine Ext.drewN ?_ _) | (with_reducible refine Ext.setCell ?_ ?_ _) | (with_reducible refine Ext.trans ?_ (by assumption)) | go_size))⟩
  rintro V ⟨c3, c4, c6, hF⟩
  rw [← hO]
  clear hO hr hb2 hB
  clear hc hf hz ha hb
  go_loopw [29] (fun p wr => ∃ k : Nat, k ≤ high ∧ p = .int .i64 k ∧ wr.cell? ⟨w.heap.size, 0, none⟩ = some (.int .i64 (x : Int)) ∧ wr.cell? ⟨w.heap.size, 1, none⟩ = some (.int .i64 (y : Int)) ∧ BoxAt wr (w.heap.size + 1) 0 (.slice none 0 0) ∧ Fill w O B (Globe.boxL x y wide k) wr) (fun p _ => high - (intOf p).toNat)
  case atStart => exact ⟨0, by omega, rfl, c3, c4, c6, hF⟩
  case round =>
    clear c3 c4 c6 hF
    obtain ⟨k, hk, rfl, c3, c4, c6, hr, cO, hE⟩ := hrel
    have hOl := World.block_lt_of_cell? wr _ cO
    by_cases hlt : k < high
    · have hyk : y + k < 24 := by omega
      obtain ⟨s0, s1, s2⟩ := p2_shl hw
      obtain ⟨R, hR⟩ : ∃ R, R = p2 wide - 1 := ⟨_, rfl⟩
      have HR := Lib.hid hR
      have s3 : IntKind.i64.wrap ((p2 wide : Int) - 1) = (R : Int) := by rw [IntKind.wrap_i64]; omega
      have t0 : IntKind.i64.wrap ((y : Int) + (k : Int)) = (y : Int) + (k : Int) := by rw [IntKind.wrap_i64]; omega
      have t1 : (0 : Int) ≤ (y : Int) + (k : Int) := by omega
      have t2 : (y : Int) + (k : Int) < 24 := by omega
      have t3 : ((y : Int) + (k : Int)).toNat = y + k := by omega
      have d3 := hr.cell hyk
      have d4 := hr.free hyk
      have hp : R < 281474976710656 := by omega
      clear hR
      have S0 := Lib.hid s0
      have S3 := Lib.hid s3
      have T0 := Lib.hid t0
      have T3 := Lib.hid t3
      have hkb : (k : Int) < 48 := by omega
      clear s0 s1 s2 s3 t0 t3
      go_wp2_with fail
      refine wp_region_held_drew (S := fun w' => w'.cell? ⟨w.heap.size, 0, none⟩ = some (.int .i64 (x : Int)) ∧ w'.cell? ⟨w.heap.size, 1, none⟩ = some (.int .i64 (y : Int)) ∧ w'.cell? ⟨O, 0, none⟩ = some (.slice (some ⟨B, 0, none⟩) 24 24)) (by kernel_rfl) ⟨c3, c4, cO⟩ (fun hHeld => ?_)
      (refine rg_take 0 (v := ?_) rfl (by kernel_rfl) (by kernel_rfl) (by kernel_rfl) (fun _ _ _ h => h) (by kernel_rfl) ?_ (by with_reducible assumption) ?_; rotate_left; (focus (intro w hSw; (try dsimp only at hSw); go_simp; (try with_reducible rfl))); (try simp only [Act.put, List.setIfInBounds_toArray, List.set_cons_zero, List.set_cons_succ]))
      (refine rg_take 1 (v := ?_) rfl (by kernel_rfl) (by kernel_rfl) (by kernel_rfl) (fun _ _ _ h => h) (by kernel_rfl) ?_ (by with_reducible assumption) ?_; rotate_left; (focus (intro w hSw; (try dsimp only at hSw); go_simp; (try with_reducible rfl))); (try simp only [Act.put, List.setIfInBounds_toArray, List.set_cons_zero, List.set_cons_succ]))
      (refine rg_take 2 (v := ?_) rfl (by kernel_rfl) (by kernel_rfl) (by kernel_rfl) (fun _ _ _ h => h) (by kernel_rfl) ?_ (by with_reducible assumption) ?_; rotate_left; (focus (intro w hSw; (try dsimp only at hSw); go_simp; (try with_reducible rfl))); (try simp only [Act.put, List.setIfInBounds_toArray, List.set_cons_zero, List.set_cons_succ]))
      (refine rg_take 3 (v := ?_) rfl (by kernel_rfl) (by kernel_rfl) (by kernel_rfl) (fun _ _ _ h => h) (by kernel_rfl) ?_ (by with_reducible assumption) ?_; rotate_left; (focus (intro w hSw; (try dsimp only at hSw); go_simp; (try with_reducible rfl))); (try simp only [Act.put, List.setIfInBounds_toArray, List.set_cons_zero, List.set_cons_succ]))
      (refine rg_take 4 (v := ?_) rfl (by kernel_rfl) (by kernel_rfl) (by kernel_rfl) (fun _ _ _ h => h) (by kernel_rfl) ?_ (by with_reducible assumption) ?_; rotate_left; (focus (intro w hSw; (try dsimp only at hSw); go_simp; (try with_reducible rfl))); (try simp only [Act.put, List.setIfInBounds_toArray, List.set_cons_zero, List.set_cons_succ]))
      (refine rg_take 5 (v := ?_) rfl (by kernel_rfl) (by kernel_rfl) (by kernel_rfl) (fun _ _ _ h => h) (by kernel_rfl) ?_ (by with_reducible assumption) ?_; rotate_left; (focus (intro w hSw; (try dsimp only at hSw); have t0 := T0.out; go_simp; (try with_reducible rfl))); (try simp only [Act.put, List.setIfInBounds_toArray, List.set_cons_zero, List.set_cons_succ]))
      (refine rg_take 6 (v := ?_) rfl (by kernel_rfl) (by kernel_rfl) (by kernel_rfl) (fun _ _ _ h => h) (by kernel_rfl) ?_ (by with_reducible assumption) ?_; rotate_left; (focus (intro w hSw; (try dsimp only at hSw); go_simp; (try with_reducible rfl))); (try simp only [Act.put, List.setIfInBounds_toArray, List.set_cons_zero, List.set_cons_succ]))
      (refine rg_take 7 (v := ?_) rfl (by kernel_rfl) (by kernel_rfl) (by kernel_rfl) (fun _ _ _ h => h) (by kernel_rfl) ?_ (by with_reducible assumption) ?_; rotate_left; (focus (intro w hSw; (try dsimp only at hSw); have s0 := S0.out; go_simp; (try with_reducible rfl))); (try simp only [Act.put, List.setIfInBounds_toArray, List.set_cons_zero, List.set_cons_succ]))
      (refine rg_take 8 (v := ?_) rfl (by kernel_rfl) (by kernel_rfl) (by kernel_rfl) (fun _ _ _ h => h) (by kernel_rfl) ?_ (by with_reducible assumption) ?_; rotate_left; (focus (intro w hSw; (try dsimp only at hSw); have s3 := S3.out; go_simp; (try with_reducible rfl))); (try simp only [Act.put, List.setIfInBounds_toArray, List.set_cons_zero, List.set_cons_succ]))
      (refine rg_take 9 (v := ?_) rfl (by kernel_rfl) (by kernel_rfl) (by kernel_rfl) (fun _ _ _ h => h) (by kernel_rfl) ?_ (by with_reducible assumption) ?_; rotate_left; (focus (intro w hSw; (try dsimp only at hSw); go_simp; (try with_reducible rfl))); (try simp only [Act.put, List.setIfInBounds_toArray, List.set_cons_zero, List.set_cons_succ]))
      (refine rg_take 10 (v := ?_) rfl (by kernel_rfl) (by kernel_rfl) (by kernel_rfl) (fun _ _ _ h => h) (by kernel_rfl) ?_ (by with_reducible assumption) ?_; rotate_left; (focus (intro w hSw; (try dsimp only at hSw); go_simp; (try with_reducible rfl))); (try simp only [Act.put, List.setIfInBounds_toArray, List.set_cons_zero, List.set_cons_succ]))
      (refine rg_step 11 rfl (by kernel_rfl) (by kernel_rfl) (fun K hK => ?_); go_simp; (go_at_call 51; ((with_reducible refine (turned_c _ _ _ hp hx).mono ?_); rintro e w' ⟨rfl, n, rfl⟩)); refine hK.out _ _ (⟨hHeld.1, hHeld.2.1, hHeld.2.2⟩) (fun hHeld => ?_); clear hK K; (try simp only [Act.put, List.setIfInBounds_toArray, List.set_cons_zero, List.set_cons_succ]))
      (refine rg_take 12 (v := ?_) rfl (by kernel_rfl) (by kernel_rfl) (by kernel_rfl) (fun _ _ _ h => h) (by kernel_rfl) ?_ (by with_reducible assumption) ?_; rotate_left; (focus (intro w hSw; (try dsimp only at hSw); have t3 := T3.out; go_simp; (try with_reducible rfl))); (try simp only [Act.put, List.setIfInBounds_toArray, List.set_cons_zero, List.set_cons_succ]))
      refine rg_step 13 rfl (by kernel_rfl) (by kernel_rfl) (fun K hK => ?_)
      go_simp
      refine hK.out _ _ ⟨by simp [go_sem, c3], by simp [go_sem, c4], by simp [go_sem, cO]⟩ (fun hHeld => ?_)
      (try simp only [Act.put, List.setIfInBounds_toArray, List.set_cons_zero, List.set_cons_succ])
      refine wpAnyH_done (by kernel_rfl) ?_ _
      go_wp2
      go_roundw
      case rel =>
        refine ⟨k + 1, by omega, by go_num, hHeld.1, hHeld.2.1, (c6.drewN _).other (p := ⟨B, y + k, none⟩) (by show B ≠ _; omega) _, ?_, hHeld.2.2, by (repeat' (first | (with_reducible assumption) | (with_reducible exact Ext.refl _) | (with_reducible refine Ext.alloc ?_ _) | (with_reducible refine Ext.drew ?_) | (with_reducible refine Ext.drewN ?_ _) | (with_reducible refine Ext.setCell ?_ ?_ _) | (with_reducible refine Ext.trans ?_ (by assumption)) | go_size))⟩
        have := (hr.drewN (1 + n)).set hyk (Globe.rotN R x : Nat)
        rwa [HR.out, box_succ hyk, ← HR.out] at this
      case measure => simp [intOf]; omega
    · obtain rfl : k = high := by omega
      obtain ⟨c6, f6⟩ := c6
      go_wp2_with fail
      refine bodyPost_ret (v := .tuple #[.agg #[.slice (some ⟨B, 0, none⟩) 24 24], .int .i64 0]) (by simp [results, Tryd.results19, go_sem, c6]) rfl ⟨B, rfl, by omega, hr.other (by show w.heap.size + 1 ≠ _; omega) _, by (repeat' (first | (with_reducible assumption) | (with_reducible exact Ext.refl _) | (with_reducible refine Ext.alloc ?_ _) | (with_reducible refine Ext.drew ?_) | (with_reducible refine Ext.drewN ?_ _) | (with_reducible refine Ext.setCell ?_ ?_ _) | (with_reducible refine Ext.trans ?_ (by assumption)) | go_size))⟩
set_option maxHeartbeats 2000000 in
theorem Box_n (x y wide high : Int) (w : World) (hv : boxB x y wide high = false) :
    Calls Tryd.prog 19 #[.agg #[.int .i64 x, .int .i64 y], .int .i64 wide, .int .i64 high] w (RetErr w 50) := by
  unfold boxB at hv
  cases h1 : Globe.vcB x y
  · clear hv
    go_enter Tryd.func19, Tryd.ntmps19
    go_wp2_with (first | (go_at_call 15; refine (ValidCell_v _ _ _ h1).mono ?_; rintro e w1 ⟨rfl, hb⟩; have hc := hb.cellE; have hf := hb.frozenE; have hz := hb.size; have ha := alloc_keeps w1; (try simp only [World.size_alloc] at hc hf hz); (try simp only [World.size_setCell] at hc hf hz); (try simp only [World.size_drew] at hc hf hz)) | (go_at_call 50; refine (isIn_c _ _ _ _).mono ?_; rintro e w' ⟨rfl, rfl⟩))
    ((try simp only [Exit.inBlock, Exit.then]); refine bodyPost_ret (v := .tuple #[.agg #[.slice none 0 0], .int .i64 50]) (by simp [results, Tryd.results19, go_sem, *]) rfl ?_)
    exact ⟨rfl, by (repeat' (first | (with_reducible assumption) | (with_reducible exact Ext.refl _) | (with_reducible refine Ext.alloc ?_ _) | (with_reducible refine Ext.drew ?_) | (with_reducible refine Ext.drewN ?_ _) | (with_reducible refine Ext.setCell ?_ ?_ _) | (with_reducible refine Ext.trans ?_ (by assumption)) | go_size))⟩
  · obtain ⟨y0, y1⟩ : 0 ≤ y ∧ y ≤ 23 := ⟨(Globe.vcB_t.1 h1).2.2.1, (Globe.vcB_t.1 h1).2.2.2⟩
    cases h2 : Globe.inB wide 1 48
    · clear hv
      go_enter Tryd.func19, Tryd.ntmps19
      go_wp2_with (first | (go_at_call 15; refine (ValidCell_v _ _ _ h1).mono ?_; rintro e w1 ⟨rfl, hb⟩; have hc := hb.cellE; have hf := hb.frozenE; have hz := hb.size; have ha := alloc_keeps w1; (try simp only [World.size_alloc] at hc hf hz); (try simp only [World.size_setCell] at hc hf hz); (try simp only [World.size_drew] at hc hf hz)) | (go_at_call 50; refine (isIn_c _ _ _ _).mono ?_; rintro e w' ⟨rfl, rfl⟩))
      ((try simp only [Exit.inBlock, Exit.then]); refine bodyPost_ret (v := .tuple #[.agg #[.slice none 0 0], .int .i64 50]) (by simp [results, Tryd.results19, go_sem, *]) rfl ?_)
      exact ⟨rfl, by (repeat' (first | (with_reducible assumption) | (with_reducible exact Ext.refl _) | (with_reducible refine Ext.alloc ?_ _) | (with_reducible refine Ext.drew ?_) | (with_reducible refine Ext.drewN ?_ _) | (with_reducible refine Ext.setCell ?_ ?_ _) | (with_reducible refine Ext.trans ?_ (by assumption)) | go_size))⟩
    · have h3 : Globe.inB high 1 (24 - y) = false := by simpa [h1, h2] using hv
      clear hv
      go_enter Tryd.func19, Tryd.ntmps19
      go_wp2_with (first | (go_at_call 15; refine (ValidCell_v _ _ _ h1).mono ?_; rintro e w1 ⟨rfl, hb⟩; have hc := hb.cellE; have hf := hb.frozenE; have hz := hb.size; have ha := alloc_keeps w1; (try simp only [World.size_alloc] at hc hf hz); (try simp only [World.size_setCell] at hc hf hz); (try simp only [World.size_drew] at hc hf hz)) | (go_at_call 50; refine (isIn_c _ _ _ _).mono ?_; rintro e w' ⟨rfl, rfl⟩))
      ((try simp only [Exit.inBlock, Exit.then]); refine bodyPost_ret (v := .tuple #[.agg #[.slice none 0 0], .int .i64 50]) (by simp [results, Tryd.results19, go_sem, *]) rfl ?_)
      exact ⟨rfl, by (repeat' (first | (with_reducible assumption) | (with_reducible exact Ext.refl _) | (with_reducible refine Ext.alloc ?_ _) | (with_reducible refine Ext.drew ?_) | (with_reducible refine Ext.drewN ?_ _) | (with_reducible refine Ext.setCell ?_ ?_ _) | (with_reducible refine Ext.trans ?_ (by assumption)) | go_size))⟩
theorem Box_v (x y wide high : Int) (w : World) (hv : boxB x y wide high = true) :
    Calls Tryd.prog 19 #[.agg #[.int .i64 x, .int .i64 y], .int .i64 wide, .int .i64 high] w (RetV w (Globe.boxL x.toNat y.toNat wide.toNat high.toNat)) := by
  obtain ⟨⟨h0, h1, h2, h3⟩, ⟨h4, h5⟩, h6, h7⟩ := boxB_t.1 hv
  have := Box_y x.toNat y.toNat wide.toNat high.toNat w (by omega) (by omega) (by omega) (by omega) (by omega) (by omega)
  rw [Int.toNat_of_nonneg h0, Int.toNat_of_nonneg h2, Int.toNat_of_nonneg (by omega), Int.toNat_of_nonneg (by omega)] at this
  exact this.mono fun _ _ h => h.v (Globe.box_valid _ _ _ _)
theorem Box_c (x y wide high : Int) (w : World) :
    Calls Tryd.prog 19 #[.agg #[.int .i64 x, .int .i64 y], .int .i64 wide, .int .i64 high] w (RetAny w (boxB x y wide high) (Globe.boxL x.toNat y.toNat wide.toNat high.toNat) 50) := by
  cases hv : boxB x y wide high
  · exact (Box_n x y wide high w hv).mono fun _ _ h => RetAny.no h
  · exact (Box_v x y wide high w hv).mono fun _ _ h => h.any

end Go.Proofs.YtnfknekbbdfdfaaDoor
