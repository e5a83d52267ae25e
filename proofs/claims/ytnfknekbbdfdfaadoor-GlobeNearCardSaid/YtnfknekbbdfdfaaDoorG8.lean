/- Contracts of package globe: Has, Near, Same. -/
import Derived.Test.YtnfknekbbdfdfaaDoorG7
import Derived.Test.YtnfknekbbdfdfaaDoorWR
import Derived.Test.YtnfknekbbdfdfaaDoorMN
namespace Go.Proofs.YtnfknekbbdfdfaaDoor
open Go.RowKit

theorem bit_and1' (R x : Nat) (h : R < 4611686018427387904) : bits .and .i64 ((R : Int) / 2 ^ x) 1 = if R.testBit x then 1 else 0 := bit_and1 R x h

set_option maxHeartbeats 1000000 in
theorem Has_y (b o c : Nat) (l : List Int) (x y : Nat) (w : World) (h : ∀ i, i < 24 → w.cell? ⟨b, o + i, none⟩ = some (.int .i64 (Globe.nth l i))) (hv : Globe.validL l = true) (hx : x < 48) (hy : y < 24) :
    Calls Tryd.prog 31 #[.agg #[.slice (some ⟨b, o, none⟩) 24 c], .agg #[.int .i64 (x : Int), .int .i64 (y : Int)]] w fun e w' => e = .returned (.bool (Globe.hasL l x y)) ∧ Ext w w' := by
  have hR := Globe.rowN_lt hv y
  have hbl := IntsAt.lt h
  have hc : w.cell? ⟨b, o + y, none⟩ = some (.int .i64 (Globe.rowN l y : Nat)) := by rw [← Globe.rowN_cast hv]; exact h y hy
  have H := Lib.hid h; clear h
  have Hv := Lib.hid hv; clear hv
  have hb1 := bit_and1 (Globe.rowN l y) x (by omega)
  rw [Globe.rowN_bit] at hb1
  generalize Globe.rowN l y = R at *
  have hvc : Globe.vcB (x : Int) (y : Int) = true := Globe.vcB_t.2 (by omega)
  have y0 : (0 : Int) ≤ (y : Int) := by omega
  have y1 : (y : Int) < 24 := by omega
  have x0 : (0 : Int) ≤ (x : Int) := by omega
  cases hbit : Globe.hasL l x y
  all_goals
    rw [hbit] at hb1
    simp only [if_true, Bool.false_eq_true, if_false] at hb1
    clear hbit
    go_enter Tryd.func31, Tryd.ntmps31
    go_wp2_with fail
    go_region_held3 (fun w' => Ext w w' ∧ w'.cell? ⟨w.heap.size, 0, none⟩ = some (.slice (some ⟨b, o, none⟩) 24 c) ∧ w'.cell? ⟨w.heap.size + 1, 0, none⟩ = some (.int .i64 (x : Int)) ∧ w'.cell? ⟨w.heap.size + 1, 1, none⟩ = some (.int .i64 (y : Int)) ∧ w'.cell? ⟨b, o + y, none⟩ = some (.int .i64 (R : Int)))
      ((first | ((repeat' (with_reducible apply And.intro)) <;> (first | (with_reducible assumption) | (simp [go_sem]; done) | ((repeat' (first | (with_reducible assumption) | (with_reducible exact Ext.refl _) | (with_reducible refine Ext.alloc ?_ _) | (with_reducible refine Ext.drew ?_) | (with_reducible refine Ext.drewN ?_ _) | (with_reducible refine Ext.setCell ?_ ?_ _) | (with_reducible refine Ext.trans ?_ (by assumption)) | go_size)); done) | (refine Ext.cell ?_ (by with_reducible assumption); (repeat' (first | (with_reducible assumption) | (with_reducible exact Ext.refl _) | (with_reducible refine Ext.alloc ?_ _) | (with_reducible refine Ext.drew ?_) | (with_reducible refine Ext.drewN ?_ _) | (with_reducible refine Ext.setCell ?_ ?_ _) | (with_reducible refine Ext.trans ?_ (by assumption)) | go_size)); done))) | (rcases (show Ext w _ ∧ _ from by with_reducible assumption) with ⟨_, _, _, _, _⟩; (repeat' (with_reducible apply And.intro)) <;> (first | (with_reducible assumption) | ((repeat' (first | (with_reducible assumption) | (with_reducible exact Ext.refl _) | (with_reducible refine Ext.alloc ?_ _) | (with_reducible refine Ext.drew ?_) | (with_reducible refine Ext.drewN ?_ _) | (with_reducible refine Ext.setCell ?_ ?_ _) | (with_reducible refine Ext.trans ?_ (by assumption)) | go_size)); done) | (refine Ext.cell ?_ (by with_reducible assumption); (repeat' (first | (with_reducible assumption) | (with_reducible exact Ext.refl _) | (with_reducible refine Ext.alloc ?_ _) | (with_reducible refine Ext.drew ?_) | (with_reducible refine Ext.drewN ?_ _) | (with_reducible refine Ext.setCell ?_ ?_ _) | (with_reducible refine Ext.trans ?_ (by assumption)) | go_size)); done)))))
      (first | (go_at_call 22; refine (Valid_y _ _ _ _ _ (fun i hi => Ext.cell (And.left (a := Ext w _) (by assumption)) (H.out i hi)) Hv.out).mono ?_; rintro e w1 ⟨rfl, hb⟩) | (go_at_call 15; refine (ValidCell_v _ _ _ (by assumption)).mono ?_; rintro e w1 ⟨rfl, hb⟩))
    go_wp2
    rcases (show Ext w _ ∧ _ from by with_reducible assumption) with ⟨hE, -⟩
    go_ret
    exact ⟨rfl, by (repeat' (first | (with_reducible assumption) | (with_reducible exact Ext.refl _) | (with_reducible refine Ext.alloc ?_ _) | (with_reducible refine Ext.drew ?_) | (with_reducible refine Ext.drewN ?_ _) | (with_reducible refine Ext.setCell ?_ ?_ _) | (with_reducible refine Ext.trans ?_ (by assumption)) | go_size))⟩
set_option maxHeartbeats 1000000 in
theorem Has_n (a : Option Addr) (l : List Int) (n c : Nat) (x y : Int) (w : World) (h : IntsAt w a l) (hn : l.length = n) (hl : n ≤ 140737488355328) (hv : (Globe.validL l && Globe.vcB x y) = false) :
    Calls Tryd.prog 31 #[.agg #[.slice a n c], .agg #[.int .i64 x, .int .i64 y]] w fun e w' => e = .returned (.bool false) ∧ Ext w w' := by
  have H := Lib.hid h; clear h
  have Hn := Lib.hid hn; clear hn
  cases hq : Globe.validL l
  · clear hv
    go_enter Tryd.func31, Tryd.ntmps31
    go_wp2_with fail
    refine wp_region_held_drew (S := fun w' => Ext w w' ∧ w'.cell? ⟨w.heap.size, 0, none⟩ = some (.slice a n c)) (by kernel_rfl) ⟨by (repeat' (first | (with_reducible assumption) | (with_reducible exact Ext.refl _) | (with_reducible refine Ext.alloc ?_ _) | (with_reducible refine Ext.drew ?_) | (with_reducible refine Ext.drewN ?_ _) | (with_reducible refine Ext.setCell ?_ ?_ _) | (with_reducible refine Ext.trans ?_ (by assumption)) | go_size)), by simp [go_sem]⟩ (fun hHeld => ?_)
    (refine rg_take 0 (v := ?_) rfl (by kernel_rfl) (by kernel_rfl) (by kernel_rfl) (fun _ _ _ h => h) (by kernel_rfl) ?_ (by with_reducible assumption) ?_; rotate_left; (focus (intro w hSw; (try dsimp only at hSw); go_simp; (try with_reducible rfl))); (try simp only [Act.put, List.setIfInBounds_toArray, List.set_cons_zero, List.set_cons_succ]))
    (refine rg_step 1 rfl (by kernel_rfl) (by kernel_rfl) (fun K hK => ?_); go_simp; (go_at_call 22; refine (Valid_v _ _ _ _ _ (H.out.ext hHeld.1) Hn.out hl hq).mono ?_; rintro e w1 ⟨rfl, hb⟩); refine hK.out _ _ (⟨hHeld.1.trans hb, hb.cell hHeld.2⟩) (fun hHeld => ?_); clear hK K; (try simp only [Act.put, List.setIfInBounds_toArray, List.set_cons_zero, List.set_cons_succ]))
    (refine rg_take 2 (v := ?_) rfl (by kernel_rfl) (by kernel_rfl) (by kernel_rfl) (fun _ _ _ h => h) (by kernel_rfl) ?_ (by with_reducible assumption) ?_; rotate_left; (focus (intro w hSw; (try dsimp only at hSw); go_simp; (try with_reducible rfl))); (try simp only [Act.put, List.setIfInBounds_toArray, List.set_cons_zero, List.set_cons_succ]))
    (refine rg_skip 3 rfl (by kernel_rfl) (by kernel_rfl) (by kernel_rfl) (fun _ _ _ h => h) (by kernel_rfl) (by with_reducible assumption) ?_; (try simp only [Act.put, List.setIfInBounds_toArray, List.set_cons_zero, List.set_cons_succ]))
    (refine rg_skip 4 rfl (by kernel_rfl) (by kernel_rfl) (by kernel_rfl) (fun _ _ _ h => h) (by kernel_rfl) (by with_reducible assumption) ?_; (try simp only [Act.put, List.setIfInBounds_toArray, List.set_cons_zero, List.set_cons_succ]))
    (refine rg_take 5 (v := ?_) rfl (by kernel_rfl) (by kernel_rfl) (by kernel_rfl) (fun _ _ _ h => h) (by kernel_rfl) ?_ (by with_reducible assumption) ?_; rotate_left; (focus (intro w hSw; (try dsimp only at hSw); go_simp; (try with_reducible rfl))); (try simp only [Act.put, List.setIfInBounds_toArray, List.set_cons_zero, List.set_cons_succ]))
    (refine rg_take 6 (v := ?_) rfl (by kernel_rfl) (by kernel_rfl) (by kernel_rfl) (fun _ _ _ h => h) (by kernel_rfl) ?_ (by with_reducible assumption) ?_; rotate_left; (focus (intro w hSw; (try dsimp only at hSw); go_simp; (try with_reducible rfl))); (try simp only [Act.put, List.setIfInBounds_toArray, List.set_cons_zero, List.set_cons_succ]))
    (refine rg_skip 7 rfl (by kernel_rfl) (by kernel_rfl) (by kernel_rfl) (fun _ _ _ h => h) (by kernel_rfl) (by with_reducible assumption) ?_; (try simp only [Act.put, List.setIfInBounds_toArray, List.set_cons_zero, List.set_cons_succ]))
    (refine rg_skip 8 rfl (by kernel_rfl) (by kernel_rfl) (by kernel_rfl) (fun _ _ _ h => h) (by kernel_rfl) (by with_reducible assumption) ?_; (try simp only [Act.put, List.setIfInBounds_toArray, List.set_cons_zero, List.set_cons_succ]))
    (refine rg_skip 9 rfl (by kernel_rfl) (by kernel_rfl) (by kernel_rfl) (fun _ _ _ h => h) (by kernel_rfl) (by with_reducible assumption) ?_; (try simp only [Act.put, List.setIfInBounds_toArray, List.set_cons_zero, List.set_cons_succ]))
    (refine rg_skip 10 rfl (by kernel_rfl) (by kernel_rfl) (by kernel_rfl) (fun _ _ _ h => h) (by kernel_rfl) (by with_reducible assumption) ?_; (try simp only [Act.put, List.setIfInBounds_toArray, List.set_cons_zero, List.set_cons_succ]))
    (refine rg_skip 11 rfl (by kernel_rfl) (by kernel_rfl) (by kernel_rfl) (fun _ _ _ h => h) (by kernel_rfl) (by with_reducible assumption) ?_; (try simp only [Act.put, List.setIfInBounds_toArray, List.set_cons_zero, List.set_cons_succ]))
    (refine rg_skip 12 rfl (by kernel_rfl) (by kernel_rfl) (by kernel_rfl) (fun _ _ _ h => h) (by kernel_rfl) (by with_reducible assumption) ?_; (try simp only [Act.put, List.setIfInBounds_toArray, List.set_cons_zero, List.set_cons_succ]))
    (refine rg_skip 13 rfl (by kernel_rfl) (by kernel_rfl) (by kernel_rfl) (fun _ _ _ h => h) (by kernel_rfl) (by with_reducible assumption) ?_; (try simp only [Act.put, List.setIfInBounds_toArray, List.set_cons_zero, List.set_cons_succ]))
    (refine rg_skip 14 rfl (by kernel_rfl) (by kernel_rfl) (by kernel_rfl) (fun _ _ _ h => h) (by kernel_rfl) (by with_reducible assumption) ?_; (try simp only [Act.put, List.setIfInBounds_toArray, List.set_cons_zero, List.set_cons_succ]))
    (refine rg_skip 15 rfl (by kernel_rfl) (by kernel_rfl) (by kernel_rfl) (fun _ _ _ h => h) (by kernel_rfl) (by with_reducible assumption) ?_; (try simp only [Act.put, List.setIfInBounds_toArray, List.set_cons_zero, List.set_cons_succ]))
    (refine rg_skip 16 rfl (by kernel_rfl) (by kernel_rfl) (by kernel_rfl) (fun _ _ _ h => h) (by kernel_rfl) (by with_reducible assumption) ?_; (try simp only [Act.put, List.setIfInBounds_toArray, List.set_cons_zero, List.set_cons_succ]))
    (refine rg_skip 17 rfl (by kernel_rfl) (by kernel_rfl) (by kernel_rfl) (fun _ _ _ h => h) (by kernel_rfl) (by with_reducible assumption) ?_; (try simp only [Act.put, List.setIfInBounds_toArray, List.set_cons_zero, List.set_cons_succ]))
    (refine rg_take 18 (v := ?_) rfl (by kernel_rfl) (by kernel_rfl) (by kernel_rfl) (fun _ _ _ h => h) (by kernel_rfl) ?_ (by with_reducible assumption) ?_; rotate_left; (focus (intro w hSw; (try dsimp only at hSw); go_simp; (try with_reducible rfl))); (try simp only [Act.put, List.setIfInBounds_toArray, List.set_cons_zero, List.set_cons_succ]))
    (refine rg_take 19 (v := ?_) rfl (by kernel_rfl) (by kernel_rfl) (by kernel_rfl) (fun _ _ _ h => h) (by kernel_rfl) ?_ (by with_reducible assumption) ?_; rotate_left; (focus (intro w hSw; (try dsimp only at hSw); go_simp; (try with_reducible rfl))); (try simp only [Act.put, List.setIfInBounds_toArray, List.set_cons_zero, List.set_cons_succ]))
    refine wpAnyH_done (by kernel_rfl) ?_ _
    go_wp2
    go_ret
    exact ⟨rfl, hHeld.1⟩
  · rw [hq] at hv
    replace hv : Globe.vcB x y = false := by simpa using hv
    obtain ⟨b, o, rfl, hr⟩ := H.out.rows (Globe.len_of_valid hq)
    go_enter Tryd.func31, Tryd.ntmps31
    go_wp2_with fail
    refine wp_region_held_drew (S := fun w' => Ext w w' ∧ w'.cell? ⟨w.heap.size, 0, none⟩ = some (.slice (some ⟨b, o, none⟩) n c) ∧ w'.cell? ⟨w.heap.size + 1, 0, none⟩ = some (.int .i64 x) ∧ w'.cell? ⟨w.heap.size + 1, 1, none⟩ = some (.int .i64 y)) (by kernel_rfl) ⟨by (repeat' (first | (with_reducible assumption) | (with_reducible exact Ext.refl _) | (with_reducible refine Ext.alloc ?_ _) | (with_reducible refine Ext.drew ?_) | (with_reducible refine Ext.drewN ?_ _) | (with_reducible refine Ext.setCell ?_ ?_ _) | (with_reducible refine Ext.trans ?_ (by assumption)) | go_size)), by simp [go_sem], by simp [go_sem], by simp [go_sem]⟩ (fun hHeld => ?_)
    (refine rg_take 0 (v := ?_) rfl (by kernel_rfl) (by kernel_rfl) (by kernel_rfl) (fun _ _ _ h => h) (by kernel_rfl) ?_ (by with_reducible assumption) ?_; rotate_left; (focus (intro w hSw; (try dsimp only at hSw); go_simp; (try with_reducible rfl))); (try simp only [Act.put, List.setIfInBounds_toArray, List.set_cons_zero, List.set_cons_succ]))
    (refine rg_step 1 rfl (by kernel_rfl) (by kernel_rfl) (fun K hK => ?_); go_simp; (go_at_call 22; refine (Valid_v _ _ _ _ _ (H.out.ext hHeld.1) Hn.out hl hq).mono ?_; rintro e w1 ⟨rfl, hb⟩); refine hK.out _ _ (⟨hHeld.1.trans hb, hb.cell hHeld.2.1, hb.cell hHeld.2.2.1, hb.cell hHeld.2.2.2⟩) (fun hHeld => ?_); clear hK K; (try simp only [Act.put, List.setIfInBounds_toArray, List.set_cons_zero, List.set_cons_succ]))
    (refine rg_take 2 (v := ?_) rfl (by kernel_rfl) (by kernel_rfl) (by kernel_rfl) (fun _ _ _ h => h) (by kernel_rfl) ?_ (by with_reducible assumption) ?_; rotate_left; (focus (intro w hSw; (try dsimp only at hSw); go_simp; (try with_reducible rfl))); (try simp only [Act.put, List.setIfInBounds_toArray, List.set_cons_zero, List.set_cons_succ]))
    (refine rg_take 3 (v := ?_) rfl (by kernel_rfl) (by kernel_rfl) (by kernel_rfl) (fun _ _ _ h => h) (by kernel_rfl) ?_ (by with_reducible assumption) ?_; rotate_left; (focus (intro w hSw; (try dsimp only at hSw); go_simp; (try with_reducible rfl))); (try simp only [Act.put, List.setIfInBounds_toArray, List.set_cons_zero, List.set_cons_succ]))
    (refine rg_step 4 rfl (by kernel_rfl) (by kernel_rfl) (fun K hK => ?_); go_simp; (go_at_call 15; refine (ValidCell_v _ _ _ hv).mono ?_; rintro e w1 ⟨rfl, hb⟩); refine hK.out _ _ (⟨hHeld.1.trans hb, hb.cell hHeld.2.1, hb.cell hHeld.2.2.1, hb.cell hHeld.2.2.2⟩) (fun hHeld => ?_); clear hK K; (try simp only [Act.put, List.setIfInBounds_toArray, List.set_cons_zero, List.set_cons_succ]))
    (refine rg_take 5 (v := ?_) rfl (by kernel_rfl) (by kernel_rfl) (by kernel_rfl) (fun _ _ _ h => h) (by kernel_rfl) ?_ (by with_reducible assumption) ?_; rotate_left; (focus (intro w hSw; (try dsimp only at hSw); go_simp; (try with_reducible rfl))); (try simp only [Act.put, List.setIfInBounds_toArray, List.set_cons_zero, List.set_cons_succ]))
    (refine rg_take 6 (v := ?_) rfl (by kernel_rfl) (by kernel_rfl) (by kernel_rfl) (fun _ _ _ h => h) (by kernel_rfl) ?_ (by with_reducible assumption) ?_; rotate_left; (focus (intro w hSw; (try dsimp only at hSw); go_simp; (try with_reducible rfl))); (try simp only [Act.put, List.setIfInBounds_toArray, List.set_cons_zero, List.set_cons_succ]))
    (refine rg_skip 7 rfl (by kernel_rfl) (by kernel_rfl) (by kernel_rfl) (fun _ _ _ h => h) (by kernel_rfl) (by with_reducible assumption) ?_; (try simp only [Act.put, List.setIfInBounds_toArray, List.set_cons_zero, List.set_cons_succ]))
    (refine rg_skip 8 rfl (by kernel_rfl) (by kernel_rfl) (by kernel_rfl) (fun _ _ _ h => h) (by kernel_rfl) (by with_reducible assumption) ?_; (try simp only [Act.put, List.setIfInBounds_toArray, List.set_cons_zero, List.set_cons_succ]))
    (refine rg_skip 9 rfl (by kernel_rfl) (by kernel_rfl) (by kernel_rfl) (fun _ _ _ h => h) (by kernel_rfl) (by with_reducible assumption) ?_; (try simp only [Act.put, List.setIfInBounds_toArray, List.set_cons_zero, List.set_cons_succ]))
    (refine rg_skip 10 rfl (by kernel_rfl) (by kernel_rfl) (by kernel_rfl) (fun _ _ _ h => h) (by kernel_rfl) (by with_reducible assumption) ?_; (try simp only [Act.put, List.setIfInBounds_toArray, List.set_cons_zero, List.set_cons_succ]))
    (refine rg_skip 11 rfl (by kernel_rfl) (by kernel_rfl) (by kernel_rfl) (fun _ _ _ h => h) (by kernel_rfl) (by with_reducible assumption) ?_; (try simp only [Act.put, List.setIfInBounds_toArray, List.set_cons_zero, List.set_cons_succ]))
    (refine rg_skip 12 rfl (by kernel_rfl) (by kernel_rfl) (by kernel_rfl) (fun _ _ _ h => h) (by kernel_rfl) (by with_reducible assumption) ?_; (try simp only [Act.put, List.setIfInBounds_toArray, List.set_cons_zero, List.set_cons_succ]))
    (refine rg_skip 13 rfl (by kernel_rfl) (by kernel_rfl) (by kernel_rfl) (fun _ _ _ h => h) (by kernel_rfl) (by with_reducible assumption) ?_; (try simp only [Act.put, List.setIfInBounds_toArray, List.set_cons_zero, List.set_cons_succ]))
    (refine rg_skip 14 rfl (by kernel_rfl) (by kernel_rfl) (by kernel_rfl) (fun _ _ _ h => h) (by kernel_rfl) (by with_reducible assumption) ?_; (try simp only [Act.put, List.setIfInBounds_toArray, List.set_cons_zero, List.set_cons_succ]))
    (refine rg_skip 15 rfl (by kernel_rfl) (by kernel_rfl) (by kernel_rfl) (fun _ _ _ h => h) (by kernel_rfl) (by with_reducible assumption) ?_; (try simp only [Act.put, List.setIfInBounds_toArray, List.set_cons_zero, List.set_cons_succ]))
    (refine rg_skip 16 rfl (by kernel_rfl) (by kernel_rfl) (by kernel_rfl) (fun _ _ _ h => h) (by kernel_rfl) (by with_reducible assumption) ?_; (try simp only [Act.put, List.setIfInBounds_toArray, List.set_cons_zero, List.set_cons_succ]))
    (refine rg_skip 17 rfl (by kernel_rfl) (by kernel_rfl) (by kernel_rfl) (fun _ _ _ h => h) (by kernel_rfl) (by with_reducible assumption) ?_; (try simp only [Act.put, List.setIfInBounds_toArray, List.set_cons_zero, List.set_cons_succ]))
    (refine rg_take 18 (v := ?_) rfl (by kernel_rfl) (by kernel_rfl) (by kernel_rfl) (fun _ _ _ h => h) (by kernel_rfl) ?_ (by with_reducible assumption) ?_; rotate_left; (focus (intro w hSw; (try dsimp only at hSw); go_simp; (try with_reducible rfl))); (try simp only [Act.put, List.setIfInBounds_toArray, List.set_cons_zero, List.set_cons_succ]))
    (refine rg_take 19 (v := ?_) rfl (by kernel_rfl) (by kernel_rfl) (by kernel_rfl) (fun _ _ _ h => h) (by kernel_rfl) ?_ (by with_reducible assumption) ?_; rotate_left; (focus (intro w hSw; (try dsimp only at hSw); go_simp; (try with_reducible rfl))); (try simp only [Act.put, List.setIfInBounds_toArray, List.set_cons_zero, List.set_cons_succ]))
    refine wpAnyH_done (by kernel_rfl) ?_ _
    go_wp2
    go_ret
    exact ⟨rfl, hHeld.1⟩
/-- Whether any list of rows is a valid area with the cell. -/
def hasB (l : List Int) (x y : Int) : Bool := Globe.validL l && Globe.vcB x y && Globe.hasL l x.toNat y.toNat
theorem hasB_nat {l : List Int} (h : Globe.validL l = true) {x y : Nat} (hx : x < 48) (hy : y < 24) : hasB l x y = Globe.hasL l x y := by
  unfold hasB; rw [h, Globe.vcB_t.2 (by omega)]; simp
theorem Has_c (a : Option Addr) (l : List Int) (n c : Nat) (x y : Int) (w : World) (h : IntsAt w a l) (hn : l.length = n) (hl : n ≤ 140737488355328) :
    Calls Tryd.prog 31 #[.agg #[.slice a n c], .agg #[.int .i64 x, .int .i64 y]] w fun e w' => e = .returned (.bool (hasB l x y)) ∧ Ext w w' := by
  cases hq : Globe.validL l && Globe.vcB x y
  · have := Has_n a l n c x y w h hn hl hq
    unfold hasB; rw [hq]; exact this
  · obtain ⟨hv, hc⟩ := Bool.and_eq_true_iff.1 hq
    obtain ⟨h0, h1, h2, h3⟩ := Globe.vcB_t.1 hc
    have hn2 := Globe.len_of_valid hv
    obtain ⟨b, o, rfl, hr⟩ := h.rows hn2
    obtain rfl : n = 24 := by omega
    have := Has_y b o c l x.toNat y.toNat w hr hv (by omega) (by omega)
    rw [Int.toNat_of_nonneg h0, Int.toNat_of_nonneg h2] at this
    unfold hasB; rw [hq]; exact this

end Go.Proofs.YtnfknekbbdfdfaaDoor
