/- Part 4 of what the proof of ProductMatchesReference stands on. -/
import Derived.Test.YtajdohcgjgknmaaGreatDoorV3ProductMatchesReference
namespace Go.Proofs.YtajdohcgjgknmaaGreatDoor
open Go.RowKit
set_option maxHeartbeats 1000000 in
theorem Has_y (b o c : Nat) (l : List Int) (x y : Nat) (w : World) (h : ∀ i, i < 24 → w.cell? ⟨b, o + i, none⟩ = some (.int .i64 (Globe.nth l i))) (hv : Globe.validL l = true) (hx : x < 48) (hy : y < 24) :
  Calls Tryz.prog 20 #[.agg #[.slice (some ⟨b, o, none⟩) 24 c], .agg #[.int .i64 x, .int .i64 y]] w fun e w' => e = .returned (.bool (Globe.hasL l x y)) ∧ Ext w w' := by
 have hR := Globe.rowN_lt hv y
 have hbl := IntsAt.lt h
 have hc : w.cell? ⟨b, o + y, none⟩ = some (.int .i64 (Globe.rowN l y : Nat)) := by rw [← Globe.rowN_cast hv]; exact h y hy
 have H := Lib.hid h; clear h
 have Hv := Lib.hid hv; clear hv
 have hb1 := bit_and1 (Globe.rowN l y) x (by omega)
 rw [Globe.rowN_bit] at hb1
 generalize Globe.rowN l y = R at *
 have hvc : Globe.vcB (x : Int) (y : Int) = true := Globe.vcB_t.2 (by omega)
 have y0 : (0 : Int) ≤ (y : Int) := by omega
 have y1 : (y : Int) < 24 := by omega
 have x0 : (0 : Int) ≤ (x : Int) := by omega
 cases hbit : Globe.hasL l x y
 all_goals
  rw [hbit] at hb1
  simp only [if_true, Bool.false_eq_true, if_false] at hb1
  clear hbit
  go_enter Tryz.func20, Tryz.ntmps20
  go_wp2_with fail
  go_region_held3 (fun w' => Ext w w' ∧ w'.cell? ⟨w.heap.size, 0, none⟩ = some (.slice (some ⟨b, o, none⟩) 24 c) ∧ w'.cell? ⟨w.heap.size + 1, 0, none⟩ = some (.int .i64 x) ∧ w'.cell? ⟨w.heap.size + 1, 1, none⟩ = some (.int .i64 y) ∧ w'.cell? ⟨b, o + y, none⟩ = some (.int .i64 R))
   ((first | ((repeat' (with_reducible apply And.intro)) <;> (first | (with_reducible assumption) | (simp [go_sem]; done) | ((repeat' (first | (with_reducible assumption) | (with_reducible exact Ext.refl _) | (with_reducible refine Ext.alloc ?_ _) | (with_reducible refine Ext.drew ?_) | (with_reducible refine Ext.drewN ?_ _) | (with_reducible refine Ext.setCell ?_ ?_ _) | (with_reducible refine Ext.trans ?_ (by assumption)) | go_size)); done) | (refine Ext.cell ?_ (by with_reducible assumption); (repeat' (first | (with_reducible assumption) | (with_reducible exact Ext.refl _) | (with_reducible refine Ext.alloc ?_ _) | (with_reducible refine Ext.drew ?_) | (with_reducible refine Ext.drewN ?_ _) | (with_reducible refine Ext.setCell ?_ ?_ _) | (with_reducible refine Ext.trans ?_ (by assumption)) | go_size)); done))) | (rcases (show Ext w _ ∧ _ from by with_reducible assumption) with ⟨_, _, _, _, _⟩; (repeat' (with_reducible apply And.intro)) <;> (first | (with_reducible assumption) | ((repeat' (first | (with_reducible assumption) | (with_reducible exact Ext.refl _) | (with_reducible refine Ext.alloc ?_ _) | (with_reducible refine Ext.drew ?_) | (with_reducible refine Ext.drewN ?_ _) | (with_reducible refine Ext.setCell ?_ ?_ _) | (with_reducible refine Ext.trans ?_ (by assumption)) | go_size)); done) | (refine Ext.cell ?_ (by with_reducible assumption); (repeat' (first | (with_reducible assumption) | (with_reducible exact Ext.refl _) | (with_reducible refine Ext.alloc ?_ _) | (with_reducible refine Ext.drew ?_) | (with_reducible refine Ext.drewN ?_ _) | (with_reducible refine Ext.setCell ?_ ?_ _) | (with_reducible refine Ext.trans ?_ (by assumption)) | go_size)); done)))))
   (first | (go_at_call 50; refine (Valid_y _ _ _ _ _ (fun i hi => Ext.cell (And.left (a := Ext w _) (by assumption)) (H.out i hi)) Hv.out).mono ?_; rintro e w1 ⟨rfl, hb⟩) | (go_at_call 72; refine (ValidCell_v _ _ _ (by assumption)).mono ?_; rintro e w1 ⟨rfl, hb⟩))
  go_wp2
  rcases (show Ext w _ ∧ _ from by with_reducible assumption) with ⟨hE, -⟩
  go_ret
  exact ⟨rfl, by (repeat' (first | (with_reducible assumption) | (with_reducible exact Ext.refl _) | (with_reducible refine Ext.alloc ?_ _) | (with_reducible refine Ext.drew ?_) | (with_reducible refine Ext.drewN ?_ _) | (with_reducible refine Ext.setCell ?_ ?_ _) | (with_reducible refine Ext.trans ?_ (by assumption)) | go_size))⟩
set_option maxHeartbeats 1000000 in
theorem Has_n (a : Option Addr) (l : List Int) (n c : Nat) (x y : Int) (w : World) (h : IntsAt w a l) (hn : l.length = n) (hl : n ≤ 140737488355328) (hv : (Globe.validL l && Globe.vcB x y) = false) :
    Calls Tryz.prog 20 #[.agg #[.slice a n c], .agg #[.int .i64 x, .int .i64 y]] w fun e w' => e = .returned (.bool false) ∧ Ext w w' := by
  have H := Lib.hid h; clear h
  have Hn := Lib.hid hn; clear hn
  cases hq : Globe.validL l
  · clear hv
    go_enter Tryz.func20, Tryz.ntmps20
    go_wp2_with fail
    refine wp_region_held_drew (S := fun w' => Ext w w' ∧ w'.cell? ⟨w.heap.size, 0, none⟩ = some (.slice a n c)) (by kernel_rfl) ⟨by (repeat' (first | (with_reducible assumption) | (with_reducible exact Ext.refl _) | (with_reducible refine Ext.alloc ?_ _) | (with_reducible refine Ext.drew ?_) | (with_reducible refine Ext.drewN ?_ _) | (with_reducible refine Ext.setCell ?_ ?_ _) | (with_reducible refine Ext.trans ?_ (by assumption)) | go_size)), by simp [go_sem]⟩ (fun hHeld => ?_)
    (refine rg_take 0 (v := ?_) rfl (by kernel_rfl) (by kernel_rfl) (by kernel_rfl) (fun _ _ _ h => h) (by kernel_rfl) ?_ (by with_reducible assumption) ?_; rotate_left; (focus (intro w hSw; (try dsimp only at hSw); go_simp; (try with_reducible rfl))); (try simp only [Act.put, List.setIfInBounds_toArray, List.set_cons_zero, List.set_cons_succ]))
    (refine rg_step 1 rfl (by kernel_rfl) (by kernel_rfl) (fun K hK => ?_); go_simp; (go_at_call 50; refine (Valid_v _ _ _ _ _ (H.out.ext hHeld.1) Hn.out hl hq).mono ?_; rintro e w1 ⟨rfl, hb⟩); refine hK.out _ _ (⟨hHeld.1.trans hb, hb.cell hHeld.2⟩) (fun hHeld => ?_); clear hK K; (try simp only [Act.put, List.setIfInBounds_toArray, List.set_cons_zero, List.set_cons_succ]))
    (refine rg_take 2 (v := ?_) rfl (by kernel_rfl) (by kernel_rfl) (by kernel_rfl) (fun _ _ _ h => h) (by kernel_rfl) ?_ (by with_reducible assumption) ?_; rotate_left; (focus (intro w hSw; (try dsimp only at hSw); go_simp; (try with_reducible rfl))); (try simp only [Act.put, List.setIfInBounds_toArray, List.set_cons_zero, List.set_cons_succ]))
    (refine rg_skip 3 rfl (by kernel_rfl) (by kernel_rfl) (by kernel_rfl) (fun _ _ _ h => h) (by kernel_rfl) (by with_reducible assumption) ?_; (try simp only [Act.put, List.setIfInBounds_toArray, List.set_cons_zero, List.set_cons_succ]))
    (refine rg_skip 4 rfl (by kernel_rfl) (by kernel_rfl) (by kernel_rfl) (fun _ _ _ h => h) (by kernel_rfl) (by with_reducible assumption) ?_; (try simp only [Act.put, List.setIfInBounds_toArray, List.set_cons_zero, List.set_cons_succ]))
    (refine rg_take 5 (v := ?_) rfl (by kernel_rfl) (by kernel_rfl) (by kernel_rfl) (fun _ _ _ h => h) (by kernel_rfl) ?_ (by with_reducible assumption) ?_; rotate_left; (focus (intro w hSw; (try dsimp only at hSw); go_simp; (try with_reducible rfl))); (try simp only [Act.put, List.setIfInBounds_toArray, List.set_cons_zero, List.set_cons_succ]))
    (refine rg_take 6 (v := ?_) rfl (by kernel_rfl) (by kernel_rfl) (by kernel_rfl) (fun _ _ _ h => h) (by kernel_rfl) ?_ (by with_reducible assumption) ?_; rotate_left; (focus (intro w hSw; (try dsimp only at hSw); go_simp; (try with_reducible rfl))); (try simp only [Act.put, List.setIfInBounds_toArray, List.set_cons_zero, List.set_cons_succ]))
    (refine rg_skip 7 rfl (by kernel_rfl) (by kernel_rfl) (by kernel_rfl) (fun _ _ _ h => h) (by kernel_rfl) (by with_reducible assumption) ?_; (try simp only [Act.put, List.setIfInBounds_toArray, List.set_cons_zero, List.set_cons_succ]))
    (refine rg_skip 8 rfl (by kernel_rfl) (by kernel_rfl) (by kernel_rfl) (fun _ _ _ h => h) (by kernel_rfl) (by with_reducible assumption) ?_; (try simp only [Act.put, List.setIfInBounds_toArray, List.set_cons_zero, List.set_cons_succ]))
    (refine rg_skip 9 rfl (by kernel_rfl) (by kernel_rfl) (by kernel_rfl) (fun _ _ _ h => h) (by kernel_rfl) (by with_reducible assumption) ?_; (try simp only [Act.put, List.setIfInBounds_toArray, List.set_cons_zero, List.set_cons_succ]))
    (refine rg_skip 10 rfl (by kernel_rfl) (by kernel_rfl) (by kernel_rfl) (fun _ _ _ h => h) (by kernel_rfl) (by with_reducible assumption) ?_; (try simp only [Act.put, List.setIfInBounds_toArray, List.set_cons_zero, List.set_cons_succ]))
    (refine rg_skip 11 rfl (by kernel_rfl) (by kernel_rfl) (by kernel_rfl) (fun _ _ _ h => h) (by kernel_rfl) (by with_reducible assumption) ?_; (try simp only [Act.put, List.setIfInBounds_toArray, List.set_cons_zero, List.set_cons_succ]))
    (refine rg_skip 12 rfl (by kernel_rfl) (by kernel_rfl) (by kernel_rfl) (fun _ _ _ h => h) (by kernel_rfl) (by with_reducible assumption) ?_; (try simp only [Act.put, List.setIfInBounds_toArray, List.set_cons_zero, List.set_cons_succ]))
    (refine rg_skip 13 rfl (by kernel_rfl) (by kernel_rfl) (by kernel_rfl) (fun _ _ _ h => h) (by kernel_rfl) (by with_reducible assumption) ?_; (try simp only [Act.put, List.setIfInBounds_toArray, List.set_cons_zero, List.set_cons_succ]))
    (refine rg_skip 14 rfl (by kernel_rfl) (by kernel_rfl) (by kernel_rfl) (fun _ _ _ h => h) (by kernel_rfl) (by with_reducible assumption) ?_; (try simp only [Act.put, List.setIfInBounds_toArray, List.set_cons_zero, List.set_cons_succ]))
    (refine rg_skip 15 rfl (by kernel_rfl) (by kernel_rfl) (by kernel_rfl) (fun _ _ _ h => h) (by kernel_rfl) (by with_reducible assumption) ?_; (try simp only [Act.put, List.setIfInBounds_toArray, List.set_cons_zero, List.set_cons_succ]))
    (refine rg_skip 16 rfl (by kernel_rfl) (by kernel_rfl) (by kernel_rfl) (fun _ _ _ h => h) (by kernel_rfl) (by with_reducible assumption) ?_; (try simp only [Act.put, List.setIfInBounds_toArray, List.set_cons_zero, List.set_cons_succ]))
    (refine rg_skip 17 rfl (by kernel_rfl) (by kernel_rfl) (by kernel_rfl) (fun _ _ _ h => h) (by kernel_rfl) (by with_reducible assumption) ?_; (try simp only [Act.put, List.setIfInBounds_toArray, List.set_cons_zero, List.set_cons_succ]))
    (refine rg_take 18 (v := ?_) rfl (by kernel_rfl) (by kernel_rfl) (by kernel_rfl) (fun _ _ _ h => h) (by kernel_rfl) ?_ (by with_reducible assumption) ?_; rotate_left; (focus (intro w hSw; (try dsimp only at hSw); go_simp; (try with_reducible rfl))); (try simp only [Act.put, List.setIfInBounds_toArray, List.set_cons_zero, List.set_cons_succ]))
    (refine rg_take 19 (v := ?_) rfl (by kernel_rfl) (by kernel_rfl) (by kernel_rfl) (fun _ _ _ h => h) (by kernel_rfl) ?_ (by with_reducible assumption) ?_; rotate_left; (focus (intro w hSw; (try dsimp only at hSw); go_simp; (try with_reducible rfl))); (try simp only [Act.put, List.setIfInBounds_toArray, List.set_cons_zero, List.set_cons_succ]))
    refine wpAnyH_done (by kernel_rfl) ?_ _
    go_wp2
    go_ret
    exact ⟨rfl, hHeld.1⟩
  · rw [hq] at hv
    replace hv : Globe.vcB x y = false := by simpa using hv
    obtain ⟨b, o, rfl, hr⟩ := H.out.rows (Globe.len_of_valid hq)
    go_enter Tryz.func20, Tryz.ntmps20
    go_wp2_with fail
    refine wp_region_held_drew (S := fun w' => Ext w w' ∧ w'.cell? ⟨w.heap.size, 0, none⟩ = some (.slice (some ⟨b, o, none⟩) n c) ∧ w'.cell? ⟨w.heap.size + 1, 0, none⟩ = some (.int .i64 x) ∧ w'.cell? ⟨w.heap.size + 1, 1, none⟩ = some (.int .i64 y)) (by kernel_rfl) ⟨by (repeat' (first | (with_reducible assumption) | (with_reducible exact Ext.refl _) | (with_reducible refine Ext.alloc ?_ _) | (with_reducible refine Ext.drew ?_) | (with_reducible refine Ext.drewN ?_ _) | (with_reducible refine Ext.setCell ?_ ?_ _) | (with_reducible refine Ext.trans ?_ (by assumption)) | go_size)), by simp [go_sem], by simp [go_sem], by simp [go_sem]⟩ (fun hHeld => ?_)
    (refine rg_take 0 (v := ?_) rfl (by kernel_rfl) (by kernel_rfl) (by kernel_rfl) (fun _ _ _ h => h) (by kernel_rfl) ?_ (by with_reducible assumption) ?_; rotate_left; (focus (intro w hSw; (try dsimp only at hSw); go_simp; (try with_reducible rfl))); (try simp only [Act.put, List.setIfInBounds_toArray, List.set_cons_zero, List.set_cons_succ]))
    (refine rg_step 1 rfl (by kernel_rfl) (by kernel_rfl) (fun K hK => ?_); go_simp; (go_at_call 50; refine (Valid_v _ _ _ _ _ (H.out.ext hHeld.1) Hn.out hl hq).mono ?_; rintro e w1 ⟨rfl, hb⟩); refine hK.out _ _ (⟨hHeld.1.trans hb, hb.cell hHeld.2.1, hb.cell hHeld.2.2.1, hb.cell hHeld.2.2.2⟩) (fun hHeld => ?_); clear hK K; (try simp only [Act.put, List.setIfInBounds_toArray, List.set_cons_zero, List.set_cons_succ]))
    (refine rg_take 2 (v := ?_) rfl (by kernel_rfl) (by kernel_rfl) (by kernel_rfl) (fun _ _ _ h => h) (by kernel_rfl) ?_ (by with_reducible assumption) ?_; rotate_left; (focus (intro w hSw; (try dsimp only at hSw); go_simp; (try with_reducible rfl))); (try simp only [Act.put, List.setIfInBounds_toArray, List.set_cons_zero, List.set_cons_succ]))
    (refine rg_take 3 (v := ?_) rfl (by kernel_rfl) (by kernel_rfl) (by kernel_rfl) (fun _ _ _ h => h) (by kernel_rfl) ?_ (by with_reducible assumption) ?_; rotate_left; (focus (intro w hSw; (try dsimp only at hSw); go_simp; (try with_reducible rfl))); (try simp only [Act.put, List.setIfInBounds_toArray, List.set_cons_zero, List.set_cons_succ]))
    (refine rg_step 4 rfl (by kernel_rfl) (by kernel_rfl) (fun K hK => ?_); go_simp; (go_at_call 72; refine (ValidCell_v _ _ _ hv).mono ?_; rintro e w1 ⟨rfl, hb⟩); refine hK.out _ _ (⟨hHeld.1.trans hb, hb.cell hHeld.2.1, hb.cell hHeld.2.2.1, hb.cell hHeld.2.2.2⟩) (fun hHeld => ?_); clear hK K; (try simp only [Act.put, List.setIfInBounds_toArray, List.set_cons_zero, List.set_cons_succ]))
    (refine rg_take 5 (v := ?_) rfl (by kernel_rfl) (by kernel_rfl) (by kernel_rfl) (fun _ _ _ h => h) (by kernel_rfl) ?_ (by with_reducible assumption) ?_; rotate_left; (focus (intro w hSw; (try dsimp only at hSw); go_simp; (try with_reducible rfl))); (try simp only [Act.put, List.setIfInBounds_toArray, List.set_cons_zero, List.set_cons_succ]))
    (refine rg_take 6 (v := ?_) rfl (by kernel_rfl) (by kernel_rfl) (by kernel_rfl) (fun _ _ _ h => h) (by kernel_rfl) ?_ (by with_reducible assumption) ?_; rotate_left; (focus (intro w hSw; (try dsimp only at hSw); go_simp; (try with_reducible rfl))); (try simp only [Act.put, List.setIfInBounds_toArray, List.set_cons_zero, List.set_cons_succ]))
    (refine rg_skip 7 rfl (by kernel_rfl) (by kernel_rfl) (by kernel_rfl) (fun _ _ _ h => h) (by kernel_rfl) (by with_reducible assumption) ?_; (try simp only [Act.put, List.setIfInBounds_toArray, List.set_cons_zero, List.set_cons_succ]))
    (refine rg_skip 8 rfl (by kernel_rfl) (by kernel_rfl) (by kernel_rfl) (fun _ _ _ h => h) (by kernel_rfl) (by with_reducible assumption) ?_; (try simp only [Act.put, List.setIfInBounds_toArray, List.set_cons_zero, List.set_cons_succ]))
    (refine rg_skip 9 rfl (by kernel_rfl) (by kernel_rfl) (by kernel_rfl) (fun _ _ _ h => h) (by kernel_rfl) (by with_reducible assumption) ?_; (try simp only [Act.put, List.setIfInBounds_toArray, List.set_cons_zero, List.set_cons_succ]))
    (refine rg_skip 10 rfl (by kernel_rfl) (by kernel_rfl) (by kernel_rfl) (fun _ _ _ h => h) (by kernel_rfl) (by with_reducible assumption) ?_; (try simp only [Act.put, List.setIfInBounds_toArray, List.set_cons_zero, List.set_cons_succ]))
    (refine rg_skip 11 rfl (by kernel_rfl) (by kernel_rfl) (by kernel_rfl) (fun _ _ _ h => h) (by kernel_rfl) (by with_reducible assumption) ?_; (try simp only [Act.put, List.setIfInBounds_toArray, List.set_cons_zero, List.set_cons_succ]))
    (refine rg_skip 12 rfl (by kernel_rfl) (by kernel_rfl) (by kernel_rfl) (fun _ _ _ h => h) (by kernel_rfl) (by with_reducible assumption) ?_; (try simp only [Act.put, List.setIfInBounds_toArray, List.set_cons_zero, List.set_cons_succ]))
    (refine rg_skip 13 rfl (by kernel_rfl) (by kernel_rfl) (by kernel_rfl) (fun _ _ _ h => h) (by kernel_rfl) (by with_reducible assumption) ?_; (try simp only [Act.put, List.setIfInBounds_toArray, List.set_cons_zero, List.set_cons_succ]))
    (refine rg_skip 14 rfl (by kernel_rfl) (by kernel_rfl) (by kernel_rfl) (fun _ _ _ h => h) (by kernel_rfl) (by with_reducible assumption) ?_; (try simp only [Act.put, List.setIfInBounds_toArray, List.set_cons_zero, List.set_cons_succ]))
    (refine rg_skip 15 rfl (by kernel_rfl) (by kernel_rfl) (by kernel_rfl) (fun _ _ _ h => h) (by kernel_rfl) (by with_reducible assumption) ?_; (try simp only [Act.put, List.setIfInBounds_toArray, List.set_cons_zero, List.set_cons_succ]))
    (refine rg_skip 16 rfl (by kernel_rfl) (by kernel_rfl) (by kernel_rfl) (fun _ _ _ h => h) (by kernel_rfl) (by with_reducible assumption) ?_; (try simp only [Act.put, List.setIfInBounds_toArray, List.set_cons_zero, List.set_cons_succ]))
    (refine rg_skip 17 rfl (by kernel_rfl) (by kernel_rfl) (by kernel_rfl) (fun _ _ _ h => h) (by kernel_rfl) (by with_reducible assumption) ?_; (try simp only [Act.put, List.setIfInBounds_toArray, List.set_cons_zero, List.set_cons_succ]))
    (refine rg_take 18 (v := ?_) rfl (by kernel_rfl) (by kernel_rfl) (by kernel_rfl) (fun _ _ _ h => h) (by kernel_rfl) ?_ (by with_reducible assumption) ?_; rotate_left; (focus (intro w hSw; (try dsimp only at hSw); go_simp; (try with_reducible rfl))); (try simp only [Act.put, List.setIfInBounds_toArray, List.set_cons_zero, List.set_cons_succ]))
    (refine rg_take 19 (v := ?_) rfl (by kernel_rfl) (by kernel_rfl) (by kernel_rfl) (fun _ _ _ h => h) (by kernel_rfl) ?_ (by with_reducible assumption) ?_; rotate_left; (focus (intro w hSw; (try dsimp only at hSw); go_simp; (try with_reducible rfl))); (try simp only [Act.put, List.setIfInBounds_toArray, List.set_cons_zero, List.set_cons_succ]))
    refine wpAnyH_done (by kernel_rfl) ?_ _
    go_wp2
    go_ret
    exact ⟨rfl, hHeld.1⟩
def hasB (l : List Int) (x y : Int) : Bool := Globe.validL l && Globe.vcB x y && Globe.hasL l x.toNat y.toNat
theorem hasB_nat {l : List Int} (h : Globe.validL l = true) {x y : Nat} (hx : x < 48) (hy : y < 24) : hasB l x y = Globe.hasL l x y := by
 unfold hasB; rw [h, Globe.vcB_t.2 (by omega)]; simp
theorem Has_c (a : Option Addr) (l : List Int) (n c : Nat) (x y : Int) (w : World) (h : IntsAt w a l) (hn : l.length = n) (hl : n ≤ 140737488355328) :
    Calls Tryz.prog 20 #[.agg #[.slice a n c], .agg #[.int .i64 x, .int .i64 y]] w fun e w' => e = .returned (.bool (hasB l x y)) ∧ Ext w w' := by
  cases hq : Globe.validL l && Globe.vcB x y
  · have := Has_n a l n c x y w h hn hl hq
    unfold hasB; rw [hq]; exact this
  · obtain ⟨hv, hc⟩ := Bool.and_eq_true_iff.1 hq
    obtain ⟨h0, h1, h2, h3⟩ := Globe.vcB_t.1 hc
    have hn2 := Globe.len_of_valid hv
    obtain ⟨b, o, rfl, hr⟩ := h.rows hn2
    obtain rfl : n = 24 := by omega
    have := Has_y b o c l x.toNat y.toNat w hr hv (by omega) (by omega)
    rw [Int.toNat_of_nonneg h0, Int.toNat_of_nonneg h2] at this
    unfold hasB; rw [hq]; exact this
end Go.Proofs.YtajdohcgjgknmaaGreatDoor

namespace Go.Proofs.YtajdohcgjgknmaaGreatDoor
set_option maxRecDepth 1000000
set_option maxHeartbeats 4000000
set_option synthInstance.maxHeartbeats 0
set_option synthInstance.maxSize 9999
open Go.RowKit
theorem Prod.find_next {l : List Prod.Pc} {i : Nat} {p : Prod.Pc} {q : Prod.Pc → Bool} (h : (l.take i).find? q = none) (hp : l[i]? = some p) (hn : q p = false) : (l.take (i + 1)).find? q = none := by
 rw [List.take_add_one, hp, List.find?_append, h]; simp [hn]
theorem Prod.find_found {l : List Prod.Pc} {i : Nat} {p : Prod.Pc} {q : Prod.Pc → Bool} (h : (l.take i).find? q = none) (hp : l[i]? = some p) (hy : q p = true) : l.find? q = some p := by
 have e : l = l.take i ++ (p :: l.drop (i + 1)) := by
  obtain ⟨hi, rfl⟩ := List.getElem?_eq_some_iff.1 hp
  rw [← List.drop_eq_getElem_cons hi, List.take_append_drop]
 rw [e, List.find?_append, h]; simp [hy]
theorem Has_q {a : Option Addr} {l : List Int} {n : Nat} {b r : Bool} (c : Nat) {x y : Int} {w0 : World} (w : World) (h : AA w0 a l n b) (hE : Ext w0 w) (hr : hasB l x y = r) : Calls Tryz.prog 20 #[.agg #[.slice a n c], .agg #[.int .i64 x, .int .i64 y]] w fun e w' => e = .returned (.bool r) ∧ Ext w w' := hr ▸ Has_c a l n c x y w (h.1.ext hE) h.2.1 h.2.2.1
theorem giving1_c {x : Prod.Pc} {a : Option Addr} {k c B : Nat} {u v : Int} {w0 : World} (w : World) (hA : AA w0 a x.rw k (Globe.validL x.rw)) (e0 : Ext w0 w) (cB : w.cell? ⟨B, 0, none⟩ = some (iv u)) (cB1 : w.cell? ⟨B, 1, none⟩ = some (iv v)) : Calls Tryz.prog 111 #[.agg #[iv x.im, iv x.t, .bool x.cl, .slice a k c], pw B 0] w fun e w' => e = .returned (.bool (hasB x.rw u v)) ∧ Ext w w' := by
 replace hA := hA.ext e0;refine calls_cw 8 [(1, pw B 0), (0, .agg #[iv x.im, iv x.t, .bool x.cl, .slice a k c])] Tryz.func111 rfl Tryz.ntmps111 (by kernel_rfl) (by kernel_rfl) (fun L => ?_);have hE := Ext.refl w;refine zc (zp (pS (sw 49 #[iv x.im, iv x.t, .bool x.cl, .slice a k c] ?_)));intro O1 X2 hzO1 hyO1 hb hbx;have ⟨bO1_0, bO1_1, bO1_2, bO1_3⟩ := bq4 hbx;replace hE := hE.trans hb;have hs3 := hb.size;have lt4 := bO1_0.lt;refine pT (.bool false) ?_;refine pl_nil (qw_then ?_);refine cw_seq ?_;have hX5 := Ext.refl X2;refine zp (pT (pw O1 3) ?_);refine pU (.agg #[.slice a k c]) (xl (ld33 (bO1_3.1))) ?_;refine pU (.agg #[iv u, iv v]) (xl (ld65 ((hE.cell cB)) ((hE.cell cB1)))) ?_;rcases Bool.eq_false_or_eq_true (hasB x.rw u v) with hb6 | hb6
 ·
  refine pS (sc 20 #[.agg #[.slice a k c], .agg #[iv u, iv v]] ((Has_q (r := true) _ _ (hA) hE hb6).mono ?_));rintro e w7 ⟨rfl, hb⟩;replace hE := hE.trans hb;have hs8 := hb.size;refine ⟨_, rfl, pT (.bool true) ?_⟩;refine zn (cw_ret (qw_ret [.bool true] rfl ⟨(by kernel_rfl), trivial⟩ ?_));exact ⟨rb (hb6).symm, hE⟩
 ·
  refine pS (sc 20 #[.agg #[.slice a k c], .agg #[iv u, iv v]] ((Has_q (r := false) _ _ (hA) hE hb6).mono ?_));rintro e w9 ⟨rfl, hb⟩;replace hE := hE.trans hb;have hs10 := hb.size;refine ⟨_, rfl, pT (.bool false) ?_⟩;refine zn (cw_ret (qw_ret [.bool false] rfl ⟨(by kernel_rfl), trivial⟩ ?_));exact ⟨rb (hb6).symm, hE⟩
theorem giving1_r {x : Prod.Pc} {a : Option Addr} {k c B : Nat} {u v : Int} {w0 : World} {r f : Bool} (w : World) (hA : AA w0 a x.rw k f) (e0 : Ext w0 w) (cB : w.cell? ⟨B, 0, none⟩ = some (.int .i64 u)) (cB1 : w.cell? ⟨B, 1, none⟩ = some (.int .i64 v)) (hr : hasB x.rw u v = r) : Calls Tryz.prog 111 #[.agg #[.int .i64 x.im, .int .i64 x.t, .bool x.cl, .slice a k c], .pointer (some ⟨B, 0, none⟩)] w fun e w' => e = .returned (.bool r) ∧ Ext w w' := hr ▸ giving1_c w (aa_q hA) e0 cB cB1
theorem IndexG_c {w0 w1 : World} {a : Option Addr} {n : Nat} {l : List Prod.Pc} {B : Nat} {u v : Int} (c : Nat) (w : World) (h : PcsAt w0 a n l) (e0 : Ext w0 w) (cB : w1.cell? ⟨B, 0, none⟩ = some (iv u)) (cB1 : w1.cell? ⟨B, 1, none⟩ = some (iv v)) (e1 : Ext w1 w) : Calls Tryz.prog 104 #[.slice a n c, .func (.func 111) #[] #[pw B 0]] w fun e w' => ∃ z : Int, e = .returned (iv z) ∧ ((z = -1 ∧ l.find? (fun p => hasB p.rw u v) = none) ∨ ∃ (i : Nat) (p : Prod.Pc), z = (i : Int) ∧ i < n ∧ l[i]? = some p ∧ l.find? (fun p => hasB p.rw u v) = some p) ∧ Ext w w' := by
 replace cB := e1.cell cB;replace cB1 := e1.cell cB1;replace h := h.ext e0;have hnb := h.max;have hln := h.len;clear e0 e1;refine calls_cw 19 [(1, .func (.func 111) #[] #[pw B 0]), (0, .slice a n c)] Tryz.func104 rfl Tryz.ntmps104 (by kernel_rfl) (by kernel_rfl) (fun L => ?_);have hE := Ext.refl w;refine zc (zp (pT (iv 0) ?_));refine zn (zc (zc (zp (pD (.slice a n c) (iv n) ?_))));refine pT (iv 0) ?_;refine zn (cw_block ?_);refine cw_loop [0, 1, 7, 8] (fun ws' wr m => ∃ i : Nat, ws' = [(0, .slice a n c), (1, .func (.func 111) #[] #[pw B 0]), (7, iv n), (8, iv i)] ∧ m = n - i ∧ w.heap.size ≤ wr.heap.size ∧ Ext w wr ∧ i ≤ n ∧ (l.take i).find? (fun p => hasB p.rw u v) = none) (ws0 := [(0, .slice a n c), (1, .func (.func 111) #[] #[pw B 0]), (7, iv n), (8, iv 0)]) (by kernel_rfl) _ ⟨0, rfl, rfl, Nat.le_refl _, hE, by omega, rfl⟩ ?_;clear hE;rintro m3 L ws w2 ⟨i, rfl, rfl, Be, hE, hi, hno⟩
 by_cases hlt : i < n
 ·
  obtain ⟨b4, o5, p, Ba, k7, c8, rfl, B6, B4, B3, B7, Bb, B2⟩ := h.at hlt;refine zc (zp (pU (.bool true) (ed (((i : Nat) : Int) < ((n : Nat) : Int)) (by omega)) ?_));refine zn (zc (zt ?_));refine cw_skip (zq (zc (cw_block ?_)));refine zc (zp (pD (iv i) (iv i) ?_));refine zn (zc (zp (pD (.func (.func 111) #[] #[pw B 0]) (sv b4 o5 n c) ?_)));refine pT (iv i) ?_;refine pU (pw b4 (o5 + i * 4)) (xi (sv b4 o5 n c) (iv i) (ix30 (k := i) (by omega))) ?_;refine pU (.agg #[iv p.im, iv p.t, .bool p.cl, .slice Ba k7 c8]) (xl (ld49 ((hE.cell B4)) ((hE.cell B3)) ((hE.cell B7)) ((hE.cell Bb)))) ?_;rcases Bool.eq_false_or_eq_true (hasB p.rw u v) with B0 | B0
  ·
   refine pS (sc 111 #[.agg #[iv p.im, iv p.t, .bool p.cl, .slice Ba k7 c8], pw B 0] ((giving1_r (x := p) (r := true) _ (B2) hE ((hE.cell cB)) ((hE.cell cB1)) B0).mono ?_));rintro e Bg ⟨rfl, hb⟩;replace hE := hE.trans hb;have Bf := hb.size;refine ⟨_, rfl, ?_⟩;refine zn (zt ?_);refine zc (zp (pD (iv i) (iv i) ?_));refine zn (cK [4] (fun L => ?_));refine cw_ret (qw_block_ret (qw_then_ret (qw_then_ret (qw_block_ret (qw_then_ret (qw_ret [iv i] rfl ⟨(by kernel_rfl), trivial⟩ ?_))))));exact ⟨_, rfl, .inr ⟨i, p, rfl, hlt, B6, Prod.find_found hno B6 B0⟩, hE⟩
  ·
   refine pS (sc 111 #[.agg #[iv p.im, iv p.t, .bool p.cl, .slice Ba k7 c8], pw B 0] ((giving1_r (x := p) (r := false) _ (B2) hE ((hE.cell cB)) ((hE.cell cB1)) B0).mono ?_));rintro e Bh ⟨rfl, hb⟩;replace hE := hE.trans hb;have Bc := hb.size;refine ⟨_, rfl, ?_⟩;refine zn (zf ?_);refine cw_skip (qw_block (zq (zp (pU (iv ((i + 1 : Nat) : Int)) (ew (by omega) (by omega)) ?_))));refine pT (iv ((i + 1 : Nat) : Int)) ?_;refine pl_nil (zr [0, 1, 7, 8] _ ?_ ⟨(i + 1), rfl, rfl, (T Be Bc), hE, by omega, Prod.find_next hno B6 B0⟩);omega
 ·
  have hin : i = n := by omega
  refine zc (zp (pU (.bool false) (en (((i : Nat) : Int) < ((n : Nat) : Int)) (by omega)) ?_));refine zn (zc (zf ?_));refine cw_exit (qw_then_exit (qw_then_exit (qw_block_out (zq (zc (zp (pT (iv (-1 : Int)) ?_)))))));refine zn (cw_ret (qw_ret [iv (-1 : Int)] rfl ⟨(by kernel_rfl), trivial⟩ ?_));exact ⟨_, rfl, .inl ⟨rfl, by rw [hin, List.take_of_length_le (Nat.le_of_eq hln)] at hno; exact hno⟩, hE⟩
theorem IndexG_y {w0 w1 : World} {a : Option Addr} {n : Nat} {l : List Prod.Pc} {B : Nat} {u v : Int} {p : Prod.Pc} (c : Nat) (w : World) (h : PcsAt w0 a n l) (e0 : Ext w0 w) (cB : w1.cell? ⟨B, 0, none⟩ = some (.int .i64 u)) (cB1 : w1.cell? ⟨B, 1, none⟩ = some (.int .i64 v)) (e1 : Ext w1 w) (hf : l.find? (fun p => hasB p.rw u v) = some p) : Calls Tryz.prog 104 #[.slice a n c, .func (.func 111) #[] #[.pointer (some ⟨B, 0, none⟩)]] w fun e w' => ∃ i : Nat, e = .returned (.int .i64 i) ∧ i < n ∧ l[i]? = some p ∧ Ext w w' :=
 (IndexG_c c w h e0 cB cB1 e1).mono fun _ _ ⟨z, he, hz, hE⟩ => by
  rcases hz with ⟨_, q⟩ | ⟨i, q, rfl, h1, h2, h3⟩
  · rw [hf] at q; cases q
  · rw [hf] at h3; cases h3; exact ⟨i, he, h1, h2, hE⟩
theorem IndexG_n {w0 w1 : World} {a : Option Addr} {n : Nat} {l : List Prod.Pc} {B : Nat} {u v : Int} (c : Nat) (w : World) (h : PcsAt w0 a n l) (e0 : Ext w0 w) (cB : w1.cell? ⟨B, 0, none⟩ = some (.int .i64 u)) (cB1 : w1.cell? ⟨B, 1, none⟩ = some (.int .i64 v)) (e1 : Ext w1 w) (hf : l.find? (fun p => hasB p.rw u v) = none) : Calls Tryz.prog 104 #[.slice a n c, .func (.func 111) #[] #[.pointer (some ⟨B, 0, none⟩)]] w fun e w' => e = .returned (.int .i64 (-1)) ∧ Ext w w' :=
 (IndexG_c c w h e0 cB cB1 e1).mono fun _ _ ⟨z, he, hz, hE⟩ => by
  rcases hz with ⟨rfl, _⟩ | ⟨i, q, rfl, h1, h2, h3⟩
  · exact ⟨he, hE⟩
  · rw [hf] at h3; cases h3
theorem giving_y {w1 w2 : World} {id ver : Int} {ar : List Int} {ps : List Prod.Pc} {a1 a : Option Addr} {n1 n : Nat} (c1 : Nat) {c : Nat} {u v : Int} {p : Prod.Pc} (w : World) (hnc : n ≤ c) (hA : AA w1 a1 ar n1 (Globe.validL ar)) (e1 : Ext w1 w) (hP : PcsAt w2 a n ps) (e2 : Ext w2 w) (hT : Tab w) (hf : ps.find? (fun p => hasB p.rw u v) = some p) : Calls Tryz.prog 71 #[.agg #[iv id, iv ver, .slice a1 n1 c1, .slice a n c], .agg #[iv u, iv v]] w fun e w' => ∃ (ar : Option Addr) (k c : Nat), e = .returned (.tuple #[.agg #[iv p.im, iv p.t, .bool p.cl, .slice ar k c], .bool true]) ∧ AA w' ar p.rw k (Globe.validL p.rw) ∧ Ext w w' := by
 replace hP := hP.ext e2;have hnb := hP.max;have hln := hP.len;clear e1 e2;refine calls_cw 19 [(1, .agg #[iv u, iv v]), (0, .agg #[iv id, iv ver, .slice a1 n1 c1, .slice a n c])] Tryz.func71 rfl Tryz.ntmps71 (by kernel_rfl) (by kernel_rfl) (fun L => ?_);have hE := Ext.refl w;refine zc (zp (pS (sw 53 #[iv id, iv ver, .slice a1 n1 c1, .slice a n c] ?_)));intro O1 X2 Bz C6 hb hbx;have ⟨B2, Bb, Bc, B0⟩ := bq4 hbx;replace hE := hE.trans hb;have C4 := hb.size;have C1 := B2.lt;refine pS (sw 65 #[iv u, iv v] ?_);intro O5 X6 C5 C0 hb hbx;have ⟨B4, Be⟩ := bq2 hbx;refine mv2 hb hE B0 fun hE B0=>?_;have Bu := hb.size;have C9 := B4.lt;refine pS (sw 49 #[iv 0, iv 0, .bool false, .slice none 0 0] ?_);intro O9 Cc Bg Cb hb hbx;have ⟨B3, B7, Ba, B6⟩ := bq4 hbx;refine mv4 hb hE B0 B4 Be fun hE B0 B4 Be=>?_;have C8 := hb.size;have C3 := B3.lt;refine pT (.bool false) ?_;refine zn (zc (zp (pT (pw O1 3) ?_)));refine pU (.slice a n c) (xl (ld30 (B0.1))) ?_;refine pT (.func (.func 111) #[] #[pw O5 0]) ?_;refine pS (sc 104 #[.slice a n c, .func (.func 111) #[] #[pw O5 0]] ((IndexG_y _ _ (hP) hE (B4.1) (Be.1) (Ext.refl _) hf).mono ?_));rintro e Ca ⟨i, rfl, hin, hix, hb⟩;refine mv6 hb hE B0 B3 B7 Ba B6 fun hE B0 B3 B7 Ba B6=>?_;have C2 := hb.size;refine ⟨_, rfl, pT (iv i) ?_⟩;refine zn (zc (zc (zp (pT (iv i) ?_))));refine pU (.bool false) (en (((i : Nat) : Int) < (0 : Int)) (by omega)) ?_;refine zn (zf ?_);refine cw_skip (zq (cw_seq ?_));obtain ⟨Bp, Bq, p0, Bf, Bi, Bh, rfl, Bm, Br, Bo, Bl, Bj, Bk⟩ := hP.at hin;obtain rfl : p0 = p := Option.some.inj (Bm.symm.trans hix);refine zp (pT (pw O1 3) ?_);refine pU (sv Bp Bq n c) (xl (ld30 (B0.1))) ?_;refine pT (iv i) ?_;refine pU (pw Bp (Bq + i * 4)) (xi (sv Bp Bq n c) (iv i) (ix30 (k := i) (by omega))) ?_;refine pU (.agg #[iv p0.im, iv p0.t, .bool p0.cl, .slice Bf Bi Bh]) (xl (ld49 ((hE.cell Br)) ((hE.cell Bo)) ((hE.cell Bl)) ((hE.cell Bj)))) ?_;refine pP (zG O9 (iv p0.im) (iv p0.t) (.bool p0.cl) (.slice Bf Bi Bh) (st49 B3.1 B3.2 B7.1 B7.2 Ba.1 Ba.2 B6.1 B6.2) B3 B7 Ba B6 ?_);intro C7 ho B3 B7 Ba B6 hk;replace hE := ho.ext hE (T (T C4 Bu) (Nat.le_of_eq Bg));have q9 := ho.bx O1 (by omega);clear q9;have q9 := ho.bx O5 (by omega);clear q9;have Bx := Nat.le_of_eq ho.size.symm;clear ho hk;refine pT (.bool true) ?_;refine zn (cK [4,5] (fun L => ?_));refine cw_ret (qw_ret [.agg #[iv p0.im, iv p0.t, .bool p0.cl, .slice Bf Bi Bh], .bool true] rfl ⟨⟨_, by kernel_rfl, res_ld (ld49 (B3.1) (B7.1) (Ba.1) (B6.1))⟩, (by kernel_rfl), trivial⟩ ?_);exact ⟨_, _, _, rfl, (Bk).ext hE, hE⟩
theorem giving_n {w1 w2 : World} {id ver : Int} {ar : List Int} {ps : List Prod.Pc} {a1 a : Option Addr} {n1 n : Nat} (c1 : Nat) {c : Nat} {u v : Int} (w : World) (hnc : n ≤ c) (hA : AA w1 a1 ar n1 (Globe.validL ar)) (e1 : Ext w1 w) (hP : PcsAt w2 a n ps) (e2 : Ext w2 w) (hT : Tab w) (hf : ps.find? (fun p => hasB p.rw u v) = none) : Calls Tryz.prog 71 #[.agg #[iv id, iv ver, .slice a1 n1 c1, .slice a n c], .agg #[iv u, iv v]] w fun e w' => e = .returned (.tuple #[.agg #[iv 0, iv 0, .bool false, .slice none 0 0], .bool false]) ∧ Ext w w' := by
 replace hP := hP.ext e2;have hnb := hP.max;have hln := hP.len;clear e1 e2;refine calls_cw 19 [(1, .agg #[iv u, iv v]), (0, .agg #[iv id, iv ver, .slice a1 n1 c1, .slice a n c])] Tryz.func71 rfl Tryz.ntmps71 (by kernel_rfl) (by kernel_rfl) (fun L => ?_);have hE := Ext.refl w;refine zc (zp (pS (sw 53 #[iv id, iv ver, .slice a1 n1 c1, .slice a n c] ?_)));intro O1 X2 Bl Bt hb hbx;have ⟨B2, Bb, Bc, B0⟩ := bq4 hbx;replace hE := hE.trans hb;have Br := hb.size;have Bo := B2.lt;refine pS (sw 65 #[iv u, iv v] ?_);intro O5 X6 Bs Bm hb hbx;have ⟨B4, Be⟩ := bq2 hbx;refine mv2 hb hE B0 fun hE B0=>?_;have Bi := hb.size;have Bw := B4.lt;refine pS (sw 49 #[iv 0, iv 0, .bool false, .slice none 0 0] ?_);intro O9 C1 Bf C0 hb hbx;have ⟨B3, B7, Ba, B6⟩ := bq4 hbx;refine mv4 hb hE B0 B4 Be fun hE B0 B4 Be=>?_;have Bv := hb.size;have Bq := B3.lt;refine pT (.bool false) ?_;refine zn (zc (zp (pT (pw O1 3) ?_)));refine pU (.slice a n c) (xl (ld30 (B0.1))) ?_;refine pT (.func (.func 111) #[] #[pw O5 0]) ?_;refine pS (sc 104 #[.slice a n c, .func (.func 111) #[] #[pw O5 0]] ((IndexG_n _ _ (hP) hE (B4.1) (Be.1) (Ext.refl _) hf).mono ?_));rintro e Bz ⟨rfl, hb⟩;refine mv5 hb hE B3 B7 Ba B6 fun hE B3 B7 Ba B6=>?_;have Bp := hb.size;refine ⟨_, rfl, pT (iv (-1 : Int)) ?_⟩;refine zn (zc (zc (zp (pD (iv (-1 : Int)) (.bool true) ?_))));refine zn (zt ?_);refine zc (zp (pT (.agg #[iv 0, iv 0, .bool false, .slice none 0 0]) ?_));refine pP (zG O9 (iv 0) (iv 0) (.bool false) (.slice none 0 0) (st49 B3.1 B3.2 B7.1 B7.2 Ba.1 Ba.2 B6.1 B6.2) B3 B7 Ba B6 ?_);intro Bu ho B3 B7 Ba B6 hk;replace hE := ho.ext hE (T (T Br Bi) (Nat.le_of_eq Bf));have q9 := ho.bx O1 (by omega);clear q9;have q9 := ho.bx O5 (by omega);clear q9;have Bx := Nat.le_of_eq ho.size.symm;clear ho hk;refine pT (.bool false) ?_;refine zn (cw_ret (qw_then_ret (qw_ret [.agg #[iv 0, iv 0, .bool false, .slice none 0 0], .bool false] rfl ⟨⟨_, by kernel_rfl, res_ld (ld49 (B3.1) (B7.1) (Ba.1) (B6.1))⟩, (by kernel_rfl), trivial⟩ ?_)));exact ⟨rfl, hE⟩
theorem From_y {w1 w2 : World} {id ver : Int} {ar : List Int} {ps : List Prod.Pc} {a1 a : Option Addr} {n1 n : Nat} (c1 : Nat) {c : Nat} {u v : Int} {p : Prod.Pc} (w : World) (hnc : n ≤ c) (hA : AA w1 a1 ar n1 (Globe.validL ar)) (e1 : Ext w1 w) (hP : PcsAt w2 a n ps) (e2 : Ext w2 w) (hT : Tab w) (hv : Prod.validP id ver ar ps = true) (hf : ps.find? (fun p => hasB p.rw u v) = some p) : Calls Tryz.prog 19 #[.agg #[iv id, iv ver, .slice a1 n1 c1, .slice a n c], .agg #[iv u, iv v]] w fun e w' => e = .returned (.tuple #[iv p.im, .bool true]) ∧ Ext w w' := by
 replace hA := hA.ext e1;replace hP := hP.ext e2;have hnb := hP.max;have hln := hP.len;clear e1 e2;refine calls_cw 20 [(1, .agg #[iv u, iv v]), (0, .agg #[iv id, iv ver, .slice a1 n1 c1, .slice a n c])] Tryz.func19 rfl Tryz.ntmps19 (by kernel_rfl) (by kernel_rfl) (fun L => ?_);have hE := Ext.refl w;refine zc (zp (pS (sw 53 #[iv id, iv ver, .slice a1 n1 c1, .slice a n c] ?_)));intro O1 X2 Bt C2 hb hbx;have ⟨B0, B3, B4, B2⟩ := bq4 hbx;replace hE := hE.trans hb;have C0 := hb.size;have Bx := B0.lt;refine pS (sw 65 #[iv u, iv v] ?_);intro O5 X6 C1 Bw hb hbx;have ⟨B6, Ba⟩ := bq2 hbx;refine mv5 hb hE B0 B3 B4 B2 fun hE B0 B3 B4 B2=>?_;have Bp := hb.size;have C5 := B6.lt;refine pD (iv 0) (.bool false) ?_;refine zn (zc (zc (zp (pU (.agg #[iv id, iv ver, .slice a1 n1 c1, .slice a n c]) (xl (ld53 (B0.1) (B3.1) (B4.1) (B2.1))) ?_))));refine pS (sc 28 #[.agg #[iv id, iv ver, .slice a1 n1 c1, .slice a n c]] ((pValid_r (id := id) (ver := ver) (r := true) _ _ (by omega) (aa_q (hA)) hE (hP) hE (hT.ext hE) hv).mono ?_));rintro e w9 ⟨rfl, hb⟩;refine mv7 hb hE B0 B3 B4 B2 B6 Ba fun hE B0 B3 B4 B2 B6 Ba=>?_;have Bi := hb.size;refine ⟨_, rfl, pT (.bool false) ?_⟩;refine zn (zf ?_);refine cw_skip (zq (zc (zp (pU (.agg #[iv id, iv ver, .slice a1 n1 c1, .slice a n c]) (xl (ld53 (B0.1) (B3.1) (B4.1) (B2.1))) ?_))));refine pU (.agg #[iv u, iv v]) (xl (ld65 (B6.1) (Ba.1))) ?_;refine pS (sc 71 #[.agg #[iv id, iv ver, .slice a1 n1 c1, .slice a n c], .agg #[iv u, iv v]] ((giving_y (id := id) (ver := ver) _ _ (by omega) (aa_q (hA)) hE (hP) hE (hT.ext hE) hf).mono ?_));rintro e C7 ⟨Bg, Bk, Bj, rfl, Bu, hb⟩;replace hE := hE.trans hb;have Bh := hb.size;refine ⟨_, rfl, pD (.tuple #[.agg #[iv p.im, iv p.t, .bool p.cl, .slice Bg Bk Bj], .bool true]) (.agg #[iv p.im, iv p.t, .bool p.cl, .slice Bg Bk Bj]) ?_⟩;refine pT (.bool true) ?_;refine pS (sw 49 #[iv 0, iv 0, .bool false, .slice none 0 0] ?_);intro Bl Bz Bf Bs hb hbx;have ⟨B7, Bc, Be, Bb⟩ := bq4 hbx;replace hE := hE.trans hb;have C6 := hb.size;have C4 := B7.lt;refine pP (zG Bl (iv p.im) (iv p.t) (.bool p.cl) (.slice Bg Bk Bj) (st49 B7.1 B7.2 Bc.1 Bc.2 Be.1 Be.2 Bb.1 Bb.2) B7 Bc Be Bb ?_);intro Bv ho B7 Bc Be Bb hk;replace hE := ho.ext hE (by omega);have q9 := ho.bx O1 (by omega);clear q9;have q9 := ho.bx O5 (by omega);clear q9;have C3 := Nat.le_of_eq ho.size.symm;clear ho hk;refine pT (.bool true) ?_;refine zn (cK [6,7] (fun L => ?_));refine zc (zp (pT (pw Bl 0) ?_));refine pU (iv p.im) (xl (ld3 (B7.1))) ?_;refine pD (.bool true) (iv p.im) ?_;refine pT (.bool true) ?_;refine zn (cw_ret (qw_ret [iv p.im, .bool true] rfl ⟨(by kernel_rfl), (by kernel_rfl), trivial⟩ ?_));exact ⟨rfl, hE⟩
theorem From_n {w1 w2 : World} {id ver : Int} {ar : List Int} {ps : List Prod.Pc} {a1 a : Option Addr} {n1 n : Nat} (c1 : Nat) {c : Nat} {u v : Int} (w : World) (hnc : n ≤ c) (hA : AA w1 a1 ar n1 (Globe.validL ar)) (e1 : Ext w1 w) (hP : PcsAt w2 a n ps) (e2 : Ext w2 w) (hT : Tab w) (hv : Prod.validP id ver ar ps = true) (hf : ps.find? (fun p => hasB p.rw u v) = none) : Calls Tryz.prog 19 #[.agg #[iv id, iv ver, .slice a1 n1 c1, .slice a n c], .agg #[iv u, iv v]] w fun e w' => e = .returned (.tuple #[iv 0, .bool false]) ∧ Ext w w' := by
 replace hA := hA.ext e1;replace hP := hP.ext e2;have hnb := hP.max;have hln := hP.len;clear e1 e2;refine calls_cw 20 [(1, .agg #[iv u, iv v]), (0, .agg #[iv id, iv ver, .slice a1 n1 c1, .slice a n c])] Tryz.func19 rfl Tryz.ntmps19 (by kernel_rfl) (by kernel_rfl) (fun L => ?_);have hE := Ext.refl w;refine zc (zp (pS (sw 53 #[iv id, iv ver, .slice a1 n1 c1, .slice a n c] ?_)));intro O1 X2 Bq Bz hb hbx;have ⟨B0, B3, B4, B2⟩ := bq4 hbx;replace hE := hE.trans hb;have Bw := hb.size;have Bt := B0.lt;refine pS (sw 65 #[iv u, iv v] ?_);intro O5 X6 Bx Bs hb hbx;have ⟨B6, Ba⟩ := bq2 hbx;refine mv5 hb hE B0 B3 B4 B2 fun hE B0 B3 B4 B2=>?_;have Bl := hb.size;have C1 := B6.lt;refine pD (iv 0) (.bool false) ?_;refine zn (zc (zc (zp (pU (.agg #[iv id, iv ver, .slice a1 n1 c1, .slice a n c]) (xl (ld53 (B0.1) (B3.1) (B4.1) (B2.1))) ?_))));refine pS (sc 28 #[.agg #[iv id, iv ver, .slice a1 n1 c1, .slice a n c]] ((pValid_r (id := id) (ver := ver) (r := true) _ _ (by omega) (aa_q (hA)) hE (hP) hE (hT.ext hE) hv).mono ?_));rintro e w9 ⟨rfl, hb⟩;refine mv7 hb hE B0 B3 B4 B2 B6 Ba fun hE B0 B3 B4 B2 B6 Ba=>?_;have Bg := hb.size;refine ⟨_, rfl, pT (.bool false) ?_⟩;refine zn (zf ?_);refine cw_skip (zq (zc (zp (pU (.agg #[iv id, iv ver, .slice a1 n1 c1, .slice a n c]) (xl (ld53 (B0.1) (B3.1) (B4.1) (B2.1))) ?_))));refine pU (.agg #[iv u, iv v]) (xl (ld65 (B6.1) (Ba.1))) ?_;refine pS (sc 71 #[.agg #[iv id, iv ver, .slice a1 n1 c1, .slice a n c], .agg #[iv u, iv v]] ((giving_n (id := id) (ver := ver) _ _ (by omega) (aa_q (hA)) hE (hP) hE (hT.ext hE) hf).mono ?_));rintro e C3 ⟨rfl, hb⟩;replace hE := hE.trans hb;have Bh := hb.size;refine ⟨_, rfl, pD (.tuple #[.agg #[iv 0, iv 0, .bool false, .slice none 0 0], .bool false]) (.agg #[iv 0, iv 0, .bool false, .slice none 0 0]) ?_⟩;refine pT (.bool false) ?_;refine pS (sw 49 #[iv 0, iv 0, .bool false, .slice none 0 0] ?_);intro Bi Br Bf Bm hb hbx;have ⟨B7, Be, Bb, Bc⟩ := bq4 hbx;replace hE := hE.trans hb;have Bu := hb.size;have Bv := B7.lt;refine pP (zG Bi (iv 0) (iv 0) (.bool false) (.slice none 0 0) (st49 B7.1 B7.2 Be.1 Be.2 Bb.1 Bb.2 Bc.1 Bc.2) B7 Be Bb Bc ?_);intro C0 ho B7 Be Bb Bc hk;replace hE := ho.ext hE (by omega);have q9 := ho.bx O1 (by omega);clear q9;have q9 := ho.bx O5 (by omega);clear q9;have C2 := Nat.le_of_eq ho.size.symm;clear ho hk;refine pT (.bool false) ?_;refine zn (cK [6,7] (fun L => ?_));refine zc (zp (pT (pw Bi 0) ?_));refine pU (iv 0) (xl (ld3 (B7.1))) ?_;refine pD (.bool false) (iv 0) ?_;refine pT (.bool false) ?_;refine zn (cw_ret (qw_ret [iv 0, .bool false] rfl ⟨(by kernel_rfl), (by kernel_rfl), trivial⟩ ?_));exact ⟨rfl, hE⟩
theorem From_x {w1 w2 : World} {id ver : Int} {ar : List Int} {ps : List Prod.Pc} {a1 a : Option Addr} {n1 n : Nat} (c1 : Nat) {c : Nat} {u v : Int} (w : World) (hnc : n ≤ c) (hA : AA w1 a1 ar n1 (Globe.validL ar)) (e1 : Ext w1 w) (hP : PcsAt w2 a n ps) (e2 : Ext w2 w) (hT : Tab w) (hv : Prod.validP id ver ar ps = false) : Calls Tryz.prog 19 #[.agg #[iv id, iv ver, .slice a1 n1 c1, .slice a n c], .agg #[iv u, iv v]] w fun e w' => e = .returned (.tuple #[iv 0, .bool false]) ∧ Ext w w' := by
 replace hA := hA.ext e1;replace hP := hP.ext e2;have hnb := hP.max;have hln := hP.len;clear e1 e2;refine calls_cw 20 [(1, .agg #[iv u, iv v]), (0, .agg #[iv id, iv ver, .slice a1 n1 c1, .slice a n c])] Tryz.func19 rfl Tryz.ntmps19 (by kernel_rfl) (by kernel_rfl) (fun L => ?_);have hE := Ext.refl w;refine zc (zp (pS (sw 53 #[iv id, iv ver, .slice a1 n1 c1, .slice a n c] ?_)));intro O1 X2 hzO1 hyO1 hb hbx;have ⟨bO1_0, bO1_1, bO1_2, bO1_3⟩ := bq4 hbx;replace hE := hE.trans hb;have hs3 := hb.size;have lt4 := bO1_0.lt;refine pS (sw 65 #[iv u, iv v] ?_);intro O5 X6 hzO5 hyO5 hb hbx;have ⟨bO5_0, bO5_1⟩ := bq2 hbx;refine mv5 hb hE bO1_0 bO1_1 bO1_2 bO1_3 fun hE bO1_0 bO1_1 bO1_2 bO1_3=>?_;have hs7 := hb.size;have lt8 := bO5_0.lt;refine pD (iv 0) (.bool false) ?_;refine zn (zc (zc (zp (pU (.agg #[iv id, iv ver, .slice a1 n1 c1, .slice a n c]) (xl (ld53 (bO1_0.1) (bO1_1.1) (bO1_2.1) (bO1_3.1))) ?_))));refine pS (sc 28 #[.agg #[iv id, iv ver, .slice a1 n1 c1, .slice a n c]] ((pValid_r (id := id) (ver := ver) (r := false) _ _ (by omega) (aa_q (hA)) hE (hP) hE (hT.ext hE) hv).mono ?_));rintro e w9 ⟨rfl, hb⟩;replace hE := hE.trans hb;have hs10 := hb.size;refine ⟨_, rfl, pT (.bool true) ?_⟩;refine zn (zt ?_);refine zc (zp (pD (iv 0) (.bool false) ?_));refine zn (cw_ret (qw_then_ret (qw_ret [iv 0, .bool false] rfl ⟨(by kernel_rfl), (by kernel_rfl), trivial⟩ ?_)));exact ⟨rfl, hE⟩
end Go.Proofs.YtajdohcgjgknmaaGreatDoor

namespace Go.Proofs.YtajdohcgjgknmaaGreatDoor
open Go.RowKit
theorem ne_of_at {l1 l2 : List Int} {k : Nat} (h : Globe.nth l1 k ≠ Globe.nth l2 k) : decide (l1 = l2) = false := by
 rw [decide_eq_false_iff_not]; intro e; exact h (by rw [e])
theorem slicesEqual_c (a1 : Option Addr) (l1 : List Int) (n1 c1 : Nat) (a2 : Option Addr) (l2 : List Int) (n2 c2 : Nat) (w : World) (h1 : IntsAt w a1 l1) (hn1 : l1.length = n1) (hl1 : n1 ≤ 140737488355328) (h2 : IntsAt w a2 l2) (hn2 : l2.length = n2) (hl2 : n2 ≤ 140737488355328) :
    Calls Tryz.prog 117 #[.slice a1 n1 c1, .slice a2 n2 c2] w fun e w' => e = .returned (.bool (decide (l1 = l2))) ∧ Ext w w' := by
  by_cases hne : n1 = n2
  · subst hne
    rcases Nat.eq_zero_or_pos n1 with h0 | h0
    · subst h0
      obtain rfl := List.length_eq_zero_iff.1 hn1
      obtain rfl := List.length_eq_zero_iff.1 hn2
      clear h1 h2 hn1 hn2 hl1 hl2
      go_enter Tryz.func117, Tryz.ntmps117
      go_wp2_with fail
      refine wp_loop_rounds 1 ?_
      rw [rounds_succ]
      go_wp2_with fail
      go_ret
      exact ⟨rfl, by (repeat' (first | (with_reducible assumption) | (with_reducible exact Ext.refl _) | (with_reducible refine Ext.alloc ?_ _) | (with_reducible refine Ext.drew ?_) | (with_reducible refine Ext.drewN ?_ _) | (with_reducible refine Ext.setCell ?_ ?_ _) | (with_reducible refine Ext.trans ?_ (by assumption)) | go_size))⟩
    · have e1 : ∃ b off, a1 = some ⟨b, off, none⟩ ∧ ∀ i, i < n1 → w.cell? ⟨b, off + i, none⟩ = some (.int .i64 (Globe.nth l1 i)) := by
        rcases h1 with rfl | ⟨b, off, rfl, h⟩
        · simp at hn1; omega
        · exact ⟨b, off, rfl, fun i hi => h i (by omega)⟩
      have e2 : ∃ b off, a2 = some ⟨b, off, none⟩ ∧ ∀ i, i < n1 → w.cell? ⟨b, off + i, none⟩ = some (.int .i64 (Globe.nth l2 i)) := by
        rcases h2 with rfl | ⟨b, off, rfl, h⟩
        · simp at hn2; omega
        · exact ⟨b, off, rfl, fun i hi => h i (by omega)⟩
      obtain ⟨b1, o1, rfl, r1⟩ := e1
      obtain ⟨b2, o2, rfl, r2⟩ := e2
      have R1 := Lib.hid r1; clear r1
      have R2 := Lib.hid r2; clear r2
      have B0 := Lib.hid hn1; clear hn1
      have B2 := Lib.hid hn2; clear hn2
      clear h1 h2 hl2
      go_enter Tryz.func117, Tryz.ntmps117
      go_wp2_with fail
      go_loopw [13] (fun p wr => ∃ k : Nat, k ≤ n1 ∧ p = .int .i64 k ∧ Hid (∀ j, j < k → Globe.nth l1 j = Globe.nth l2 j) ∧ Ext w wr) (fun p _ => n1 - (intOf p).toNat)
      case atStart => exact ⟨0, by omega, rfl, fun j hj => by omega, by (repeat' (first | (with_reducible assumption) | (with_reducible exact Ext.refl _) | (with_reducible refine Ext.alloc ?_ _) | (with_reducible refine Ext.drew ?_) | (with_reducible refine Ext.drewN ?_ _) | (with_reducible refine Ext.setCell ?_ ?_ _) | (with_reducible refine Ext.trans ?_ (by assumption)) | go_size))⟩
      case round =>
        obtain ⟨k, hk, rfl, Hp, hE⟩ := hrel
        by_cases hlt : k < n1
        · have d1 : wr.cell? ⟨b1, o1 + k, none⟩ = some (.int .i64 (Globe.nth l1 k)) := hE.cell (R1.out k hlt)
          have d2 : wr.cell? ⟨b2, o2 + k, none⟩ = some (.int .i64 (Globe.nth l2 k)) := hE.cell (R2.out k hlt)
          have k0 : (0 : Int) ≤ (k : Int) := by omega
          have k1 : (k : Int) < (n1 : Int) := by omega
          generalize hx : Globe.nth l1 k = x at *
          generalize hy : Globe.nth l2 k = y at *
          have Hx := Lib.hid hx; clear hx
          have Hy := Lib.hid hy; clear hy
          by_cases hxy : x = y
          · subst hxy
            go_wp2_with fail
            go_quiet (fail)
            go_wp2_with fail
            go_roundw
            case rel => exact ⟨k + 1, by omega, by go_num, fun j hj => by
              rcases Nat.lt_or_ge j k with h | h
              · exact Hp.out j h
              · rw [show j = k by omega, Hx.out, Hy.out], by (repeat' (first | (with_reducible assumption) | (with_reducible exact Ext.refl _) | (with_reducible refine Ext.alloc ?_ _) | (with_reducible refine Ext.drew ?_) | (with_reducible refine Ext.drewN ?_ _) | (with_reducible refine Ext.setCell ?_ ?_ _) | (with_reducible refine Ext.trans ?_ (by assumption)) | go_size))⟩
            case measure => simp [intOf]; omega
          · go_wp2_with fail
            go_quiet (fail)
            go_wp2_with fail
            go_ret
            exact ⟨ret_bool (ne_of_at (k := k) (by rw [Hx.out, Hy.out]; exact hxy)).symm, by (repeat' (first | (with_reducible assumption) | (with_reducible exact Ext.refl _) | (with_reducible refine Ext.alloc ?_ _) | (with_reducible refine Ext.drew ?_) | (with_reducible refine Ext.drewN ?_ _) | (with_reducible refine Ext.setCell ?_ ?_ _) | (with_reducible refine Ext.trans ?_ (by assumption)) | go_size))⟩
        · obtain rfl : k = n1 := by omega
          go_wp2_with fail
          go_ret
          exact ⟨ret_bool (by rw [eq_comm, decide_eq_true_eq]; exact Globe.ext_nth (by rw [B0.out, B2.out]) fun j hj => Hp.out j (by rw [← B0.out]; exact hj)), by (repeat' (first | (with_reducible assumption) | (with_reducible exact Ext.refl _) | (with_reducible refine Ext.alloc ?_ _) | (with_reducible refine Ext.drew ?_) | (with_reducible refine Ext.drewN ?_ _) | (with_reducible refine Ext.setCell ?_ ?_ _) | (with_reducible refine Ext.trans ?_ (by assumption)) | go_size))⟩
  · have hd : decide (l1 = l2) = false := by
      rw [decide_eq_false_iff_not]; intro e; subst e; exact hne (by omega)
    have hni : ¬ (n1 : Int) = (n2 : Int) := by omega
    have Hd := Lib.hid hd; clear hd
    clear h1 h2 hn1 hn2
    go_enter Tryz.func117, Tryz.ntmps117
    go_wp2_with fail
    go_ret
    exact ⟨ret_bool (by rw [Hd.out]), by (repeat' (first | (with_reducible assumption) | (with_reducible exact Ext.refl _) | (with_reducible refine Ext.alloc ?_ _) | (with_reducible refine Ext.drew ?_) | (with_reducible refine Ext.drewN ?_ _) | (with_reducible refine Ext.setCell ?_ ?_ _) | (with_reducible refine Ext.trans ?_ (by assumption)) | go_size))⟩
theorem Same_c {w1 w2 : World} {a1 : Option Addr} {l1 : List Int} {n1 : Nat} (c1 : Nat) {v1 : Bool} {a2 : Option Addr} {l2 : List Int} {n2 : Nat} (c2 : Nat) {v2 : Bool} (w : World) (h1 : AA w1 a1 l1 n1 v1) (e1 : Ext w1 w) (h2 : AA w2 a2 l2 n2 v2) (e2 : Ext w2 w) :
  Calls Tryz.prog 87 #[.agg #[.slice a1 n1 c1], .agg #[.slice a2 n2 c2]] w fun e w' => e = .returned (.bool (decide (l1 = l2))) ∧ Ext w w' := by
 have H1 := Lib.hid (h1.ext e1)
 have H2 := Lib.hid (h2.ext e2)
 clear h1 h2 e1 e2
 go_enter Tryz.func87, Tryz.ntmps87
 go_wp2_with (go_at_call 117; refine (slicesEqual_c _ l1 _ _ _ l2 _ _ _ (H1.out.1.ext (by (repeat' (first | (with_reducible assumption) | (with_reducible exact Ext.refl _) | (with_reducible refine Ext.alloc ?_ _) | (with_reducible refine Ext.drew ?_) | (with_reducible refine Ext.drewN ?_ _) | (with_reducible refine Ext.setCell ?_ ?_ _) | (with_reducible refine Ext.trans ?_ (by assumption)) | go_size)))) H1.out.2.1 H1.out.2.2.1 (H2.out.1.ext (by (repeat' (first | (with_reducible assumption) | (with_reducible exact Ext.refl _) | (with_reducible refine Ext.alloc ?_ _) | (with_reducible refine Ext.drew ?_) | (with_reducible refine Ext.drewN ?_ _) | (with_reducible refine Ext.setCell ?_ ?_ _) | (with_reducible refine Ext.trans ?_ (by assumption)) | go_size)))) H2.out.2.1 H2.out.2.2.1).mono ?_; rintro e w1 ⟨rfl, hb⟩; have hc := hb.cellE; have hf := hb.frozenE; have hz := hb.size; have ha := alloc_keeps w1; (try simp only [World.size_alloc] at hc hf hz); (try simp only [World.size_setCell] at hc hf hz); (try simp only [World.size_drew] at hc hf hz))
 go_ret
 exact ⟨rfl, by (repeat' (first | (with_reducible assumption) | (with_reducible exact Ext.refl _) | (with_reducible refine Ext.alloc ?_ _) | (with_reducible refine Ext.drew ?_) | (with_reducible refine Ext.drewN ?_ _) | (with_reducible refine Ext.setCell ?_ ?_ _) | (with_reducible refine Ext.trans ?_ (by assumption)) | go_size))⟩
end Go.Proofs.YtajdohcgjgknmaaGreatDoor

namespace Go.Proofs.YtajdohcgjgknmaaGreatDoor
set_option maxRecDepth 1000000
set_option maxHeartbeats 4000000
set_option synthInstance.maxHeartbeats 0
set_option synthInstance.maxSize 9999
open Go.RowKit
namespace Prod
def sameB (x y : Pc) : Bool := (decide (x.im = y.im) && decide (x.t = y.t)) && ((x.cl == y.cl) && decide (x.rw = y.rw))
theorem sameB_iff {x y : Pc} : sameB x y = true ↔ x = y := by
  unfold sameB
  simp only [Bool.and_eq_true, decide_eq_true_eq, beq_iff_eq]
  constructor
  · rintro ⟨⟨h1, h2⟩, h3, h4⟩
    cases x; cases y; simp_all
  · rintro rfl; exact ⟨⟨rfl, rfl⟩, rfl, rfl⟩
def sameL : List Pc → List Pc → Bool
 | [], [] => true
 | x :: a, y :: b => sameB x y && sameL a b
 | _, _ => false
theorem sameL_iff : ∀ {a b : List Pc}, sameL a b = true ↔ a = b
 | [], [] => by simp [sameL]
 | [], _ :: _ => by simp [sameL]
 | _ :: _, [] => by simp [sameL]
 | x :: a, y :: b => by rw [sameL, Bool.and_eq_true, sameB_iff, sameL_iff, List.cons.injEq]
theorem sameL_len {a b : List Pc} (h : a.length ≠ b.length) : sameL a b = false := by
 cases q : sameL a b
 · rfl
 · rw [sameL_iff.1 q] at h; exact absurd rfl h
theorem sameL_step {a b : List Pc} {i : Nat} {p q : Pc} (hp : a[i]? = some p) (hq : b[i]? = some q) : sameL (a.drop i) (b.drop i) = (sameB p q && sameL (a.drop (i + 1)) (b.drop (i + 1))) := by
 obtain ⟨hi, rfl⟩ := List.getElem?_eq_some_iff.1 hp
 obtain ⟨hj, rfl⟩ := List.getElem?_eq_some_iff.1 hq
 rw [List.drop_eq_getElem_cons hi, List.drop_eq_getElem_cons hj, sameL]
def sameP (id ver : Int) (ar : List Int) (ps : List Pc) (id2 ver2 : Int) (ar2 : List Int) (qs : List Pc) : Bool := (decide (id = id2) && decide (ver = ver2)) && (decide (ar = ar2) && sameL ps qs)
end Prod
theorem Same_q {w1 w2 : World} {a1 : Option Addr} {l1 : List Int} {n1 : Nat} (c1 : Nat) {v1 : Bool} {a2 : Option Addr} {l2 : List Int} {n2 : Nat} (c2 : Nat) {v2 r : Bool} (w : World) (h1 : AA w1 a1 l1 n1 v1) (e1 : Ext w1 w) (h2 : AA w2 a2 l2 n2 v2) (e2 : Ext w2 w) (hr : decide (l1 = l2) = r) : Calls Tryz.prog 87 #[.agg #[.slice a1 n1 c1], .agg #[.slice a2 n2 c2]] w fun e w' => e = .returned (.bool r) ∧ Ext w w' := hr ▸ Same_c c1 c2 w h1 e1 h2 e2
theorem same1_c {w1 w2 : World} {x y : Prod.Pc} {a b : Option Addr} {k c m d : Nat} (w : World) (hA : AA w1 a x.rw k (Globe.validL x.rw)) (e1 : Ext w1 w) (hB : AA w2 b y.rw m (Globe.validL y.rw)) (e2 : Ext w2 w) : Calls Tryz.prog 86 #[.agg #[iv x.im, iv x.t, .bool x.cl, .slice a k c], .agg #[iv y.im, iv y.t, .bool y.cl, .slice b m d]] w fun e w' => e = .returned (.bool (Prod.sameB x y)) ∧ Ext w w' := by
 replace hA := hA.ext e1;replace hB := hB.ext e2;clear e1 e2;refine calls_cw 31 [(1, .agg #[iv y.im, iv y.t, .bool y.cl, .slice b m d]), (0, .agg #[iv x.im, iv x.t, .bool x.cl, .slice a k c])] Tryz.func86 rfl Tryz.ntmps86 (by kernel_rfl) (by kernel_rfl) (fun L => ?_);have hE := Ext.refl w;refine zc (zp (pS (sw 49 #[iv x.im, iv x.t, .bool x.cl, .slice a k c] ?_)));intro O1 X2 Bi Bm hb hbx;have ⟨B0, B2, B3, B4⟩ := bq4 hbx;replace hE := hE.trans hb;have Bs := hb.size;have Br := B0.lt;refine pS (sw 49 #[iv y.im, iv y.t, .bool y.cl, .slice b m d] ?_);intro O5 X6 Bl Bj hb hbx;have ⟨B6, B7, Ba, Bb⟩ := bq4 hbx;refine mv5 hb hE B0 B2 B3 B4 fun hE B0 B2 B3 B4=>?_;have Bq := hb.size;have Bt := B6.lt;refine pT (.bool false) ?_;refine zn (cw_seq ?_);rcases Bool.eq_false_or_eq_true (x.cl == y.cl) with hcl | hcl
 ·
  refine zp (pT (pw O1 0) ?_);refine pU (iv x.im) (xl (ld3 (B0.1))) ?_;refine pT (pw O5 0) ?_;refine pU (iv y.im) (xl (ld3 (B6.1))) ?_
  by_cases Bh : (x.im : Int) = (y.im : Int)
  ·
   refine pU (.bool true) (eE (x.im : Int) (y.im : Int) (Bh)) ?_;refine pD (.bool true) (pw O1 1) ?_;refine pU (iv x.t) (xl (ld3 (B2.1))) ?_;refine pT (pw O5 1) ?_;refine pU (iv y.t) (xl (ld3 (B7.1))) ?_
   by_cases Bc : (x.t : Int) = (y.t : Int)
   ·
    refine pU (.bool true) (eE (x.t : Int) (y.t : Int) (Bc)) ?_;refine pD (.bool true) (.bool true) ?_;refine pT (pw O1 2) ?_;refine pU (.bool x.cl) (xl (ld4 (B3.1))) ?_;refine pT (pw O5 2) ?_;refine pU (.bool y.cl) (xl (ld4 (Ba.1))) ?_;refine pU (.bool true) (ev_bool (show _ = Result.ok (Next.value (Value.bool (x.cl == y.cl))) _ from by kernel_rfl) hcl) ?_;refine pD (.bool true) (.bool true) ?_;refine pT (pw O1 3) ?_;refine pU (.agg #[.slice a k c]) (xl (ld33 (B4.1))) ?_;refine pT (pw O5 3) ?_;refine pU (.agg #[.slice b m d]) (xl (ld33 (Bb.1))) ?_;rcases Bool.eq_false_or_eq_true (decide (x.rw = y.rw)) with Be | Be
    ·
     refine pS (sc 87 #[.agg #[.slice a k c], .agg #[.slice b m d]] ((Same_q (r := true) _ _ _ (hA) hE (hB) hE Be).mono ?_));rintro e Bp ⟨rfl, hb⟩;refine mv7 hb hE B0 B2 B3 B6 B7 Ba fun hE B0 B2 B3 B6 B7 Ba=>?_;have Bo := hb.size;refine ⟨_, rfl, pD (.bool true) (.bool true) ?_⟩;refine zn (cK [4] (fun L => ?_));refine cw_ret (qw_ret [.bool true] rfl ⟨(by kernel_rfl), trivial⟩ ?_);exact ⟨rb (show Prod.sameB x y = true by unfold Prod.sameB; simp [Be, Bh, Bc, hcl]).symm, hE⟩
    ·
     refine pS (sc 87 #[.agg #[.slice a k c], .agg #[.slice b m d]] ((Same_q (r := false) _ _ _ (hA) hE (hB) hE Be).mono ?_));rintro e Bu ⟨rfl, hb⟩;refine mv7 hb hE B0 B2 B3 B6 B7 Ba fun hE B0 B2 B3 B6 B7 Ba=>?_;have Bk := hb.size;refine ⟨_, rfl, pD (.bool false) (.bool false) ?_⟩;refine zn (cK [4] (fun L => ?_));refine cw_ret (qw_ret [.bool false] rfl ⟨(by kernel_rfl), trivial⟩ ?_);exact ⟨rb (show Prod.sameB x y = false by unfold Prod.sameB; simp [Be, Bh, Bc, hcl]).symm, hE⟩
   ·
    refine pU (.bool false) (eN (x.t : Int) (y.t : Int) (Bc)) ?_;refine pD (.bool false) (.bool false) ?_;refine pK ?_;refine pK ?_;refine pK ?_;refine pK ?_;refine pK ?_;refine pD (.bool false) (.bool false) ?_;refine pK ?_;refine pK ?_;refine pK ?_;refine pK ?_;refine pK ?_;refine pD (.bool false) (.bool false) ?_;refine zn (cK [4] (fun L => ?_));refine cw_ret (qw_ret [.bool false] rfl ⟨(by kernel_rfl), trivial⟩ ?_);exact ⟨rb (show Prod.sameB x y = false by unfold Prod.sameB; simp [Bh, Bc, hcl]).symm, hE⟩
  ·
   refine pU (.bool false) (eN (x.im : Int) (y.im : Int) (Bh)) ?_;refine pT (.bool false) ?_;refine pK ?_;refine pK ?_;refine pK ?_;refine pK ?_;refine pK ?_;refine pD (.bool false) (.bool false) ?_;refine pK ?_;refine pK ?_;refine pK ?_;refine pK ?_;refine pK ?_;refine pD (.bool false) (.bool false) ?_;refine pK ?_;refine pK ?_;refine pK ?_;refine pK ?_;refine pK ?_;refine pD (.bool false) (.bool false) ?_;refine zn (cK [4] (fun L => ?_));refine cw_ret (qw_ret [.bool false] rfl ⟨(by kernel_rfl), trivial⟩ ?_);exact ⟨rb (show Prod.sameB x y = false by unfold Prod.sameB; simp [Bh, hcl]).symm, hE⟩
 ·
  refine zp (pT (pw O1 0) ?_);refine pU (iv x.im) (xl (ld3 (B0.1))) ?_;refine pT (pw O5 0) ?_;refine pU (iv y.im) (xl (ld3 (B6.1))) ?_
  by_cases Bf : (x.im : Int) = (y.im : Int)
  ·
   refine pU (.bool true) (eE (x.im : Int) (y.im : Int) (Bf)) ?_;refine pD (.bool true) (pw O1 1) ?_;refine pU (iv x.t) (xl (ld3 (B2.1))) ?_;refine pT (pw O5 1) ?_;refine pU (iv y.t) (xl (ld3 (B7.1))) ?_
   by_cases Bg : (x.t : Int) = (y.t : Int)
   ·
    refine pU (.bool true) (eE (x.t : Int) (y.t : Int) (Bg)) ?_;refine pD (.bool true) (.bool true) ?_;refine pT (pw O1 2) ?_;refine pU (.bool x.cl) (xl (ld4 (B3.1))) ?_;refine pT (pw O5 2) ?_;refine pU (.bool y.cl) (xl (ld4 (Ba.1))) ?_;refine pU (.bool false) (ev_bool (show _ = Result.ok (Next.value (Value.bool (x.cl == y.cl))) _ from by kernel_rfl) hcl) ?_;refine pD (.bool false) (.bool false) ?_;refine pK ?_;refine pK ?_;refine pK ?_;refine pK ?_;refine pK ?_;refine pD (.bool false) (.bool false) ?_;refine zn (cK [4] (fun L => ?_));refine cw_ret (qw_ret [.bool false] rfl ⟨(by kernel_rfl), trivial⟩ ?_);exact ⟨rb (show Prod.sameB x y = false by unfold Prod.sameB; simp [Bf, Bg, hcl]).symm, hE⟩
   ·
    refine pU (.bool false) (eN (x.t : Int) (y.t : Int) (Bg)) ?_;refine pD (.bool false) (.bool false) ?_;refine pK ?_;refine pK ?_;refine pK ?_;refine pK ?_;refine pK ?_;refine pD (.bool false) (.bool false) ?_;refine pK ?_;refine pK ?_;refine pK ?_;refine pK ?_;refine pK ?_;refine pD (.bool false) (.bool false) ?_;refine zn (cK [4] (fun L => ?_));refine cw_ret (qw_ret [.bool false] rfl ⟨(by kernel_rfl), trivial⟩ ?_);exact ⟨rb (show Prod.sameB x y = false by unfold Prod.sameB; simp [Bf, Bg, hcl]).symm, hE⟩
  ·
   refine pU (.bool false) (eN (x.im : Int) (y.im : Int) (Bf)) ?_;refine pT (.bool false) ?_;refine pK ?_;refine pK ?_;refine pK ?_;refine pK ?_;refine pK ?_;refine pD (.bool false) (.bool false) ?_;refine pK ?_;refine pK ?_;refine pK ?_;refine pK ?_;refine pK ?_;refine pD (.bool false) (.bool false) ?_;refine pK ?_;refine pK ?_;refine pK ?_;refine pK ?_;refine pK ?_;refine pD (.bool false) (.bool false) ?_;refine zn (cK [4] (fun L => ?_));refine cw_ret (qw_ret [.bool false] rfl ⟨(by kernel_rfl), trivial⟩ ?_);exact ⟨rb (show Prod.sameB x y = false by unfold Prod.sameB; simp [Bf, hcl]).symm, hE⟩
theorem same1_r {w1 w2 : World} {x y : Prod.Pc} {a b : Option Addr} {k c m d : Nat} {r f g : Bool} (w : World) (hA : AA w1 a x.rw k f) (e1 : Ext w1 w) (hB : AA w2 b y.rw m g) (e2 : Ext w2 w) (hr : Prod.sameB x y = r) : Calls Tryz.prog 86 #[.agg #[.int .i64 x.im, .int .i64 x.t, .bool x.cl, .slice a k c], .agg #[.int .i64 y.im, .int .i64 y.t, .bool y.cl, .slice b m d]] w fun e w' => e = .returned (.bool r) ∧ Ext w w' := hr ▸ same1_c w (aa_q hA) e1 (aa_q hB) e2
theorem EqualF_c {w1 w2 : World} {a b : Option Addr} {n m : Nat} {l t : List Prod.Pc} (c d : Nat) (w : World) (h : PcsAt w1 a n l) (e1 : Ext w1 w) (k : PcsAt w2 b m t) (e2 : Ext w2 w) : Calls Tryz.prog 88 #[.slice a n c, .slice b m d, .func (.func 86) #[] #[]] w fun e w' => e = .returned (.bool (Prod.sameL l t)) ∧ Ext w w' := by
 replace h := h.ext e1;replace k := k.ext e2;have hnb := h.max;have hln := h.len;have hmb := k.max;have hlm := k.len;clear e1 e2;refine calls_cw 32 [(2, .func (.func 86) #[] #[]), (1, .slice b m d), (0, .slice a n c)] Tryz.func88 rfl Tryz.ntmps88 (by kernel_rfl) (by kernel_rfl) (fun L => ?_);have hE := Ext.refl w;refine zc (zp (pT (.bool false) ?_));refine zn (zc (zc (zp (pD (.slice a n c) (iv n) ?_))));refine pD (.slice b m d) (iv m) ?_
 by_cases Cd : ((n : Nat) : Int) = ((m : Nat) : Int)
 ·
  refine pU (.bool false) (ev_nne (show _ = Result.ok (Next.value (Value.bool (((n : Nat) : Int) != ((m : Nat) : Int)))) _ from by kernel_rfl) (Cd)) ?_;refine zn (zf ?_);refine cw_skip (zq (zc (cw_seq ?_)));obtain rfl : n = m := by omega
  refine zp (pD (.slice a n c) (iv n) ?_);refine pT (iv 0) ?_;refine zn (cw_block ?_);refine cw_loop [1, 2, 15, 16, 17] (fun ws' wr m => ∃ i : Nat, ws' = [(1, .slice b n d), (2, .func (.func 86) #[] #[]), (15, .slice a n c), (16, iv n), (17, iv i)] ∧ m = n - i ∧ w.heap.size ≤ wr.heap.size ∧ Ext w wr ∧ i ≤ n ∧ Prod.sameL l t = Prod.sameL (l.drop i) (t.drop i)) (ws0 := [(1, .slice b n d), (2, .func (.func 86) #[] #[]), (15, .slice a n c), (16, iv n), (17, iv 0)]) (by kernel_rfl) _ ⟨0, rfl, rfl, Nat.le_refl _, hE, by omega, rfl⟩ ?_;clear hE;rintro m4 L ws w3 ⟨i, rfl, rfl, Ca, hE, hi, Hv⟩
  by_cases hlt : i < n
  ·
   obtain ⟨b5, o6, p, Bj, k8, c9, rfl, C8, C3, C0, C9, Bw, Bp⟩ := h.at hlt;obtain ⟨Bt, Bu, q, Bc, Bi, Bh, rfl, C1, Cb, C7, C5, C4, Bl⟩ := k.at hlt;have hst := Prod.sameL_step C8 C1;refine zc (zp (pU (.bool true) (ed (((i : Nat) : Int) < ((n : Nat) : Int)) (by omega)) ?_));refine zn (zc (zt ?_));refine cw_skip (zq (zc (cw_block ?_)));refine zc (zp (pT (iv i) ?_));refine pU (pw b5 (o6 + i * 4)) (xi (sv b5 o6 n c) (iv i) (ix30 (k := i) (by omega))) ?_;refine pU (.agg #[iv p.im, iv p.t, .bool p.cl, .slice Bj k8 c9]) (xl (ld49 ((hE.cell C3)) ((hE.cell C0)) ((hE.cell C9)) ((hE.cell Bw)))) ?_;refine pS (sw 49 #[iv 0, iv 0, .bool false, .slice none 0 0] ?_);intro Bx Cl Bo Ce hb hbx;have ⟨B0, B3, B2, B4⟩ := bq4 hbx;replace hE := hE.trans hb;have Br := hb.size;have Bz := B0.lt;refine pT (iv i) ?_;refine pP (zG Bx (iv p.im) (iv p.t) (.bool p.cl) (.slice Bj k8 c9) (st49 B0.1 B0.2 B3.1 B3.2 B2.1 B2.2 B4.1 B4.2) B0 B3 B2 B4 ?_);intro Cj ho B0 B3 B2 B4 hk;replace hE := ho.ext hE (T Ca (Nat.le_of_eq Bo));have Bg := Nat.le_of_eq ho.size.symm;clear ho hk;refine zn (zc (zp (pD (sv Bt Bu n d) (iv i) ?_)));refine pU (pw Bt (Bu + i * 4)) (xi (sv Bt Bu n d) (iv i) (ix30 (k := i) (by omega))) ?_;refine pU (.agg #[iv q.im, iv q.t, .bool q.cl, .slice Bc Bi Bh]) (xl (ld49 ((hE.cell Cb)) ((hE.cell C7)) ((hE.cell C5)) ((hE.cell C4)))) ?_;refine pS (sw 49 #[iv 0, iv 0, .bool false, .slice none 0 0] ?_);intro Cc Ch Bf Cf hb hbx;have ⟨B6, Bb, B7, Ba⟩ := bq4 hbx;refine mv5 hb hE B0 B3 B2 B4 fun hE B0 B3 B2 B4=>?_;have C2 := hb.size;have Ck := B6.lt;refine pP (zG Cc (iv q.im) (iv q.t) (.bool q.cl) (.slice Bc Bi Bh) (st49 B6.1 B6.2 Bb.1 Bb.2 B7.1 B7.2 Ba.1 Ba.2) B6 Bb B7 Ba ?_);intro Ci ho B6 Bb B7 Ba hk;replace hE := ho.ext hE (T (T Ca (T Br Bg)) (Nat.le_of_eq Bf));have q9 := ho.bx Bx (by omega);replace B0 := q9 B0;replace B3 := q9 B3;replace B2 := q9 B2;replace B4 := q9 B4;clear q9;have C6 := Nat.le_of_eq ho.size.symm;clear ho hk;refine zn (cK [1,2,8,9,15,16,17] (fun L => ?_));refine zc (zp (pT (.func (.func 86) #[] #[]) ?_));refine pU (.agg #[iv p.im, iv p.t, .bool p.cl, .slice Bj k8 c9]) (xl (ld49 (B0.1) (B3.1) (B2.1) (B4.1))) ?_;refine pU (.agg #[iv q.im, iv q.t, .bool q.cl, .slice Bc Bi Bh]) (xl (ld49 (B6.1) (Bb.1) (B7.1) (Ba.1))) ?_;rcases Bool.eq_false_or_eq_true (Prod.sameB p q) with Be | Be
   ·
    refine pS (sc 86 #[.agg #[iv p.im, iv p.t, .bool p.cl, .slice Bj k8 c9], .agg #[iv q.im, iv q.t, .bool q.cl, .slice Bc Bi Bh]] ((same1_r (x := p) (y := q) (r := true) _ (Bp) hE (Bl) hE Be).mono ?_));rintro e Cm ⟨rfl, hb⟩;replace hE := hE.trans hb;have Bv := hb.size;refine ⟨_, rfl, pT (.bool false) ?_⟩;refine zn (zf ?_);refine cw_skip (qw_block (zq (zp (pU (iv ((i + 1 : Nat) : Int)) (ew (by omega) (by omega)) ?_))));refine pT (iv ((i + 1 : Nat) : Int)) ?_;refine pl_nil (qw_round [1, 2, 15, 16, 17] (ws' := [(1, sv Bt Bu n d), (2, .func (.func 86) #[] #[]), (15, sv b5 o6 n c), (16, iv n), (17, iv ((i + 1 : Nat) : Int))]) (by kernel_rfl) _ ?_ ⟨(i + 1), rfl, rfl, (T Ca (T Br (T Bg (T C2 (T C6 Bv))))), hE, by omega, (by rw [Hv, hst, Be]; rfl)⟩);omega
   ·
    refine pS (sc 86 #[.agg #[iv p.im, iv p.t, .bool p.cl, .slice Bj k8 c9], .agg #[iv q.im, iv q.t, .bool q.cl, .slice Bc Bi Bh]] ((same1_r (x := p) (y := q) (r := false) _ (Bp) hE (Bl) hE Be).mono ?_));rintro e Cn ⟨rfl, hb⟩;replace hE := hE.trans hb;have Cg := hb.size;refine ⟨_, rfl, pT (.bool true) ?_⟩;refine zn (zt ?_);refine zc (zp (pT (.bool false) ?_));refine zn (cw_ret (qw_block_ret (qw_then_ret (qw_then_ret (qw_block_ret (qw_then_ret (qw_ret [.bool false] rfl ⟨(by kernel_rfl), trivial⟩ ?_)))))));exact ⟨rb (show Prod.sameL l t = false from by rw [Hv, hst, Be]; rfl).symm, hE⟩
  ·
   have hin : i = n := by omega
   refine zc (zp (pU (.bool false) (en (((i : Nat) : Int) < ((n : Nat) : Int)) (by omega)) ?_));refine zn (zc (zf ?_));refine cw_exit (qw_then_exit (qw_then_exit (qw_block_out (zq (zc (zp (pT (.bool true) ?_)))))));refine zn (cw_ret (qw_ret [.bool true] rfl ⟨(by kernel_rfl), trivial⟩ ?_));exact ⟨rb (show Prod.sameL l t = true from by rw [Hv, hin, List.drop_of_length_le (Nat.le_of_eq hln), List.drop_of_length_le (Nat.le_of_eq hlm)]; rfl).symm, hE⟩
 ·
  refine pU (.bool true) (eM ((n : Nat) : Int) ((m : Nat) : Int) (Cd)) ?_;refine zn (zt ?_);refine zc (zp (pT (.bool false) ?_));refine zn (cw_ret (qw_then_ret (qw_ret [.bool false] rfl ⟨(by kernel_rfl), trivial⟩ ?_)));exact ⟨rb (show Prod.sameL l t = false from Prod.sameL_len (by omega)).symm, hE⟩
theorem EqualF_r {w1 w2 : World} {a b : Option Addr} {n m : Nat} {l t : List Prod.Pc} {r : Bool} (c d : Nat) (w : World) (h : PcsAt w1 a n l) (e1 : Ext w1 w) (k : PcsAt w2 b m t) (e2 : Ext w2 w) (hr : Prod.sameL l t = r) : Calls Tryz.prog 88 #[.slice a n c, .slice b m d, .func (.func 86) #[] #[]] w fun e w' => e = .returned (.bool r) ∧ Ext w w' := hr ▸ EqualF_c c d w h e1 k e2
theorem pSame_c {w1 w2 w3 w4 : World} {id ver id2 ver2 : Int} {ar ar2 : List Int} {ps qs : List Prod.Pc} {a1 a b1 b : Option Addr} {n1 n m1 m : Nat} (c1 c d1 d : Nat) (w : World) (hA : AA w1 a1 ar n1 (Globe.validL ar)) (e1 : Ext w1 w) (hP : PcsAt w2 a n ps) (e2 : Ext w2 w) (hB : AA w3 b1 ar2 m1 (Globe.validL ar2)) (e3 : Ext w3 w) (hQ : PcsAt w4 b m qs) (e4 : Ext w4 w) : Calls Tryz.prog 31 #[.agg #[iv id, iv ver, .slice a1 n1 c1, .slice a n c], .agg #[iv id2, iv ver2, .slice b1 m1 d1, .slice b m d]] w fun e w' => e = .returned (.bool (Prod.sameP id ver ar ps id2 ver2 ar2 qs)) ∧ Ext w w' := by
 replace hA := hA.ext e1;replace hP := hP.ext e2;replace hB := hB.ext e3;replace hQ := hQ.ext e4;clear e1 e2 e3 e4;refine calls_cw 33 [(1, .agg #[iv id2, iv ver2, .slice b1 m1 d1, .slice b m d]), (0, .agg #[iv id, iv ver, .slice a1 n1 c1, .slice a n c])] Tryz.func31 rfl Tryz.ntmps31 (by kernel_rfl) (by kernel_rfl) (fun L => ?_);have hE := Ext.refl w;refine zc (zp (pS (sw 53 #[iv id, iv ver, .slice a1 n1 c1, .slice a n c] ?_)));intro O1 X2 Bi Bl hb hbx;have ⟨B0, B3, B4, B2⟩ := bq4 hbx;replace hE := hE.trans hb;have Bu := hb.size;have Bt := B0.lt;refine pS (sw 53 #[iv id2, iv ver2, .slice b1 m1 d1, .slice b m d] ?_);intro O5 X6 Bk Bj hb hbx;have ⟨B6, Ba, Bb, B7⟩ := bq4 hbx;refine mv5 hb hE B0 B3 B4 B2 fun hE B0 B3 B4 B2=>?_;have Bs := hb.size;have Bw := B6.lt;refine pT (.bool false) ?_;refine zn (zc (zp (pT (.func (.func 86) #[] #[]) ?_)));refine zn (zc (zp (pT (pw O1 0) ?_)));refine pU (iv id) (xl (ld3 (B0.1))) ?_;refine pT (pw O5 0) ?_;refine pU (iv id2) (xl (ld3 (B6.1))) ?_
 by_cases Bg : (id : Int) = (id2 : Int)
 ·
  refine pU (.bool true) (eE (id : Int) (id2 : Int) (Bg)) ?_;refine pD (.bool true) (pw O1 1) ?_;refine pU (iv ver) (xl (ld3 (B3.1))) ?_;refine pT (pw O5 1) ?_;refine pU (iv ver2) (xl (ld3 (Ba.1))) ?_
  by_cases Bc : (ver : Int) = (ver2 : Int)
  ·
   refine pU (.bool true) (eE (ver : Int) (ver2 : Int) (Bc)) ?_;refine pD (.bool true) (.bool true) ?_;refine pT (pw O1 2) ?_;refine pU (.agg #[.slice a1 n1 c1]) (xl (ld33 (B4.1))) ?_;refine pT (pw O5 2) ?_;refine pU (.agg #[.slice b1 m1 d1]) (xl (ld33 (Bb.1))) ?_;rcases Bool.eq_false_or_eq_true (decide (ar = ar2)) with Be | Be
   ·
    refine pS (sc 87 #[.agg #[.slice a1 n1 c1], .agg #[.slice b1 m1 d1]] ((Same_q (r := true) _ _ _ (hA) hE (hB) hE Be).mono ?_));rintro e Br ⟨rfl, hb⟩;refine mv3 hb hE B2 B7 fun hE B2 B7=>?_;have Bm := hb.size;refine ⟨_, rfl, pD (.bool true) (.bool true) ?_⟩;refine pT (pw O1 3) ?_;refine pU (.slice a n c) (xl (ld30 (B2.1))) ?_;refine pT (pw O5 3) ?_;refine pU (.slice b m d) (xl (ld30 (B7.1))) ?_;refine pT (.func (.func 86) #[] #[]) ?_;rcases Bool.eq_false_or_eq_true (Prod.sameL ps qs) with Bf | Bf
    ·
     refine pS (sc 88 #[.slice a n c, .slice b m d, .func (.func 86) #[] #[]] ((EqualF_r (r := true) _ _ _ (hP) hE (hQ) hE Bf).mono ?_));rintro e Bq ⟨rfl, hb⟩;replace hE := hE.trans hb;have Bh := hb.size;refine ⟨_, rfl, pD (.bool true) (.bool true) ?_⟩;refine zn (cK [4] (fun L => ?_));refine cw_ret (qw_ret [.bool true] rfl ⟨(by kernel_rfl), trivial⟩ ?_);exact ⟨rb (show Prod.sameP id ver ar ps id2 ver2 ar2 qs = true by unfold Prod.sameP; simp [Be, Bf, Bg, Bc]).symm, hE⟩
    ·
     refine pS (sc 88 #[.slice a n c, .slice b m d, .func (.func 86) #[] #[]] ((EqualF_r (r := false) _ _ _ (hP) hE (hQ) hE Bf).mono ?_));rintro e Bx ⟨rfl, hb⟩;replace hE := hE.trans hb;have Bo := hb.size;refine ⟨_, rfl, pD (.bool false) (.bool false) ?_⟩;refine zn (cK [4] (fun L => ?_));refine cw_ret (qw_ret [.bool false] rfl ⟨(by kernel_rfl), trivial⟩ ?_);exact ⟨rb (show Prod.sameP id ver ar ps id2 ver2 ar2 qs = false by unfold Prod.sameP; simp [Be, Bf, Bg, Bc]).symm, hE⟩
   ·
    refine pS (sc 87 #[.agg #[.slice a1 n1 c1], .agg #[.slice b1 m1 d1]] ((Same_q (r := false) _ _ _ (hA) hE (hB) hE Be).mono ?_));rintro e Bv ⟨rfl, hb⟩;replace hE := hE.trans hb;have Bp := hb.size;refine ⟨_, rfl, pD (.bool false) (.bool false) ?_⟩;refine pK ?_;refine pK ?_;refine pK ?_;refine pK ?_;refine pK ?_;refine pK ?_;refine pD (.bool false) (.bool false) ?_;refine zn (cK [4] (fun L => ?_));refine cw_ret (qw_ret [.bool false] rfl ⟨(by kernel_rfl), trivial⟩ ?_);exact ⟨rb (show Prod.sameP id ver ar ps id2 ver2 ar2 qs = false by unfold Prod.sameP; simp [Be, Bg, Bc]).symm, hE⟩
  ·
   refine pU (.bool false) (eN (ver : Int) (ver2 : Int) (Bc)) ?_;refine pD (.bool false) (.bool false) ?_;refine pK ?_;refine pK ?_;refine pK ?_;refine pK ?_;refine pK ?_;refine pD (.bool false) (.bool false) ?_;refine pK ?_;refine pK ?_;refine pK ?_;refine pK ?_;refine pK ?_;refine pK ?_;refine pD (.bool false) (.bool false) ?_;refine zn (cK [4] (fun L => ?_));refine cw_ret (qw_ret [.bool false] rfl ⟨(by kernel_rfl), trivial⟩ ?_);exact ⟨rb (show Prod.sameP id ver ar ps id2 ver2 ar2 qs = false by unfold Prod.sameP; simp [Bg, Bc]).symm, hE⟩
 ·
  refine pU (.bool false) (eN (id : Int) (id2 : Int) (Bg)) ?_;refine pT (.bool false) ?_;refine pK ?_;refine pK ?_;refine pK ?_;refine pK ?_;refine pK ?_;refine pD (.bool false) (.bool false) ?_;refine pK ?_;refine pK ?_;refine pK ?_;refine pK ?_;refine pK ?_;refine pD (.bool false) (.bool false) ?_;refine pK ?_;refine pK ?_;refine pK ?_;refine pK ?_;refine pK ?_;refine pK ?_;refine pD (.bool false) (.bool false) ?_;refine zn (cK [4] (fun L => ?_));refine cw_ret (qw_ret [.bool false] rfl ⟨(by kernel_rfl), trivial⟩ ?_);exact ⟨rb (show Prod.sameP id ver ar ps id2 ver2 ar2 qs = false by unfold Prod.sameP; simp [Bg]).symm, hE⟩
end Go.Proofs.YtajdohcgjgknmaaGreatDoor

namespace Go.Proofs.YtajdohcgjgknmaaGreatDoor
set_option maxRecDepth 1000000
set_option maxHeartbeats 4000000
set_option synthInstance.maxHeartbeats 0
set_option synthInstance.maxSize 9999
open Go.RowKit
theorem cells_le9 (l : List Int) : (Globe.cellsTo l 24).length ≤ 1152 := by
 rw [Globe.count_eq]
 refine T List.countP_le_length (Nat.le_of_eq ?_)
 decide +kernel
def giveG (rs : List RawPc) (ps : List Prod.Pc) : List ((Nat × Nat) × RawPc) := (rs.zip ps).flatMap fun q => (Globe.cellsTo q.2.rw 24).map fun c => (c, q.1)
def encsG (rs : List RawPc) (ps : List Prod.Pc) (k : Nat) : List Value := match (giveG rs ps)[k]? with
 | some (c, r) => [.agg #[.int .i64 c.1, .int .i64 c.2], r.val]
 | none => [.bool false, .bool false]
theorem encsG_len (rs : List RawPc) (ps : List Prod.Pc) (k : Nat) : (encsG rs ps k).length = 2 := by unfold encsG; split <;> rfl
theorem yield_at {F : Fence} {m l k : Nat} {W : World} {rs : List RawPc} {ps : List Prod.Pc} {c : Nat × Nat} {r : RawPc} {v : Value} {Q : Ending → World → Prop} (h : YieldAt F m Tryz.prog l (encsG rs ps k).toArray W Q) (hG : (giveG rs ps)[k]? = some (c, r)) (hv : r.val = v) :
  YieldAt F m Tryz.prog l #[.agg #[.int .i64 c.1, .int .i64 c.2], v] W Q := by
 unfold encsG at h; rw [hG] at h; subst hv; exact h
theorem giveG_take {rs : List RawPc} {ps : List Prod.Pc} {i : Nat} {r : RawPc} {p : Prod.Pc} (hr : rs[i]? = some r) (hp : ps[i]? = some p) : giveG (rs.take (i + 1)) (ps.take (i + 1)) = giveG (rs.take i) (ps.take i) ++ (Globe.cellsTo p.rw 24).map fun c => (c, r) := by
 have h1 : (rs.take i).length = (ps.take i).length := by
  have := (List.getElem?_eq_some_iff.1 hr).1; have := (List.getElem?_eq_some_iff.1 hp).1
  rw [List.length_take, List.length_take]; omega
 unfold giveG
 rw [List.take_add_one, List.take_add_one, hr, hp, List.zip_append h1, List.flatMap_append]
 simp
theorem giveG_succ {rs : List RawPc} {ps : List Prod.Pc} {i : Nat} {r : RawPc} {p : Prod.Pc} (hr : rs[i]? = some r) (hp : ps[i]? = some p) : (giveG (rs.take (i + 1)) (ps.take (i + 1))).length = (giveG (rs.take i) (ps.take i)).length + (Globe.cellsTo p.rw 24).length := by
 rw [giveG_take hr hp, List.length_append, List.length_map]
theorem giveG_pre (rs : List RawPc) (ps : List Prod.Pc) (i : Nat) : giveG (rs.take i) (ps.take i) <+: giveG rs ps := by
 unfold giveG
 rw [show (rs.take i).zip (ps.take i) = (rs.zip ps).take i by simp [List.zip, List.take_zipWith]]
 refine ⟨((rs.zip ps).drop i).flatMap fun q => (Globe.cellsTo q.2.rw 24).map fun c => (c, q.1), ?_⟩
 rw [← List.flatMap_append, List.take_append_drop]
theorem giveG_le {rs : List RawPc} {ps : List Prod.Pc} {i : Nat} : (giveG (rs.take i) (ps.take i)).length ≤ (giveG rs ps).length := (giveG_pre rs ps i).length_le
theorem giveG_at {rs : List RawPc} {ps : List Prod.Pc} {i j : Nat} {r : RawPc} {p : Prod.Pc} {c : Nat × Nat} (hr : rs[i]? = some r) (hp : ps[i]? = some p) (hc : (Globe.cellsTo p.rw 24)[j]? = some c) : (giveG rs ps)[(giveG (rs.take i) (ps.take i)).length + j]? = some (c, r) := by
 obtain ⟨t, ht⟩ := giveG_pre rs ps (i + 1)
 have hj := (List.getElem?_eq_some_iff.1 hc).1
 rw [← ht, giveG_take hr hp, List.append_assoc, List.getElem?_append_right (by omega), show (giveG (rs.take i) (ps.take i)).length + j - (giveG (rs.take i) (ps.take i)).length = j by omega, List.getElem?_append_left (by rw [List.length_map]; exact hj), List.getElem?_map, hc]
 rfl
theorem KeptX.va {X : Nat → Prop} {A B : World} (h : KeptX X A B) {b o : Nat} {l : List Int} (hx : ¬ X b) (hv : VA A b o l) : VA B b o l := ⟨fun i hi => h.cell hx (hv.1 i hi), hv.2⟩
theorem Tab.kept {X : Nat → Prop} {A B : World} (h : Tab A) (hx : ¬ X 1) (hk : KeptX X A B) : Tab B := ⟨Nat.lt_of_lt_of_le h.1 hk.size, fun j hj => hk.cell hx (h.2 j hj)⟩
theorem CellsAt.parts {w : World} {a : Option Addr} {n : Nat} {cs : List (Nat × Nat)} (h : CellsAt w a n cs) (hn : 0 < n) : ∃ b, a = some ⟨b, 0, none⟩ ∧ ∀ (i : Nat) (p : Nat × Nat), cs[i]? = some p → w.cell? ⟨b, i * 2, none⟩ = some (.int .i64 p.1) ∧ w.cell? ⟨b, i * 2 + 1, none⟩ = some (.int .i64 p.2) := h.2.resolve_left (by omega)
set_option maxHeartbeats 1000000 in
theorem Cells_w {w0 : World} {b o : Nat} (c : Nat) {l : List Int} (w : World) (h : VA w0 b o l) (hE : Ext w0 w) (hT : Tab w) :
  Calls Tryz.prog 18 #[.agg #[.slice (some ⟨b, o, none⟩) 24 c]] w fun e w' => ∃ a k, e = .returned (.slice a (Globe.cellsTo l 24).length k) ∧ CellsAt w' a (Globe.cellsTo l 24).length (Globe.cellsTo l 24) ∧ (∀ ad, a = some ad → w.heap.size ≤ ad.block) ∧ Ext w w' := by
 replace h := h.ext hE; clear hE
 have HT := Lib.hid hT; clear hT
 go_enter Tryz.func18, Tryz.ntmps18
 go_wp2_with (first | (go_at_call 50; refine (Valid_e _ _ h.aa (by (repeat' (first | (with_reducible assumption) | (with_reducible exact Ext.refl _) | (with_reducible refine Ext.alloc ?_ _) | (with_reducible refine Ext.drew ?_) | (with_reducible refine Ext.drewN ?_ _) | (with_reducible refine Ext.setCell ?_ ?_ _) | (with_reducible refine Ext.trans ?_ (by assumption)) | go_size)))).mono ?_; rintro e w1 ⟨rfl, hb⟩; have hc := hb.cellE; have hf := hb.frozenE; have hz := hb.size; have ha := alloc_keeps w1; (try simp only [World.size_alloc] at hc hf hz); (try simp only [World.size_setCell] at hc hf hz); (try simp only [World.size_drew] at hc hf hz)) | (go_at_call 70; refine (cells_c _ _ _ _).mono ?_; rintro e w' ⟨rfl, rfl⟩) | (go_at_call 69; refine (Collect_cells _ _ _ c l _ (by simp [go_sem]; done) (h.ext (by (repeat' (first | (with_reducible assumption) | (with_reducible exact Ext.refl _) | (with_reducible refine Ext.alloc ?_ _) | (with_reducible refine Ext.drew ?_) | (with_reducible refine Ext.drewN ?_ _) | (with_reducible refine Ext.setCell ?_ ?_ _) | (with_reducible refine Ext.trans ?_ (by assumption)) | go_size)))) (HT.out.ext (by (repeat' (first | (with_reducible assumption) | (with_reducible exact Ext.refl _) | (with_reducible refine Ext.alloc ?_ _) | (with_reducible refine Ext.drew ?_) | (with_reducible refine Ext.drewN ?_ _) | (with_reducible refine Ext.setCell ?_ ?_ _) | (with_reducible refine Ext.trans ?_ (by assumption)) | go_size))))).mono ?_; rintro e w2 ⟨v, rfl, hrow, hb2⟩))
 go_ret
 obtain ⟨a, k, rfl, hc2⟩ := CellsAt.own rfl hrow
 refine ⟨a, k, rfl, hc2, fun ad e => ?_, by (repeat' (first | (with_reducible assumption) | (with_reducible exact Ext.refl _) | (with_reducible refine Ext.alloc ?_ _) | (with_reducible refine Ext.drew ?_) | (with_reducible refine Ext.drewN ?_ _) | (with_reducible refine Ext.setCell ?_ ?_ _) | (with_reducible refine Ext.trans ?_ (by assumption)) | go_size))⟩
 have h1 := (hrow.lt ad.block (by rw [e]; rfl)).1
 have h2 : w.heap.size ≤ w1.heap.size := Ext.size (show Ext w w1 by (repeat' (first | (with_reducible assumption) | (with_reducible exact Ext.refl _) | (with_reducible refine Ext.alloc ?_ _) | (with_reducible refine Ext.drew ?_) | (with_reducible refine Ext.drewN ?_ _) | (with_reducible refine Ext.setCell ?_ ?_ _) | (with_reducible refine Ext.trans ?_ (by assumption)) | go_size)))
 simp at h1; omega
theorem given_c {id ver : Int} {a1 a : Option Addr} {n1 c1 n c : Nat} (w : World) : Calls Tryz.prog 89 #[.agg #[iv id, iv ver, .slice a1 n1 c1, .slice a n c]] w fun e w' => ∃ B, e = .returned (.func (.func 118) #[] #[pw B 0]) ∧ w.heap.size ≤ B ∧ w'.cell? ⟨B, 3, none⟩ = some (.slice a n c) ∧ Ext w w' := by
 refine calls_cw 4 [(0, .agg #[iv id, iv ver, .slice a1 n1 c1, .slice a n c])] Tryz.func89 rfl Tryz.ntmps89 (by kernel_rfl) (by kernel_rfl) (fun L => ?_);have hE := Ext.refl w;refine zc (zp (pS (sw 53 #[iv id, iv ver, .slice a1 n1 c1, .slice a n c] ?_)));intro O1 X2 hzO1 hyO1 hb hbx;have ⟨bO1_0, bO1_1, bO1_2, bO1_3⟩ := bq4 hbx;replace hE := hE.trans hb;have hs3 := hb.size;have lt4 := bO1_0.lt;refine pT (Value.nilFunc) ?_;refine pl_nil (qw_then ?_);refine cw_seq ?_;have hX5 := Ext.refl X2;refine zp (pD (.func (.func 118) #[] #[pw O1 0]) (.func (.func 118) #[] #[pw O1 0]) ?_);refine zn (cw_ret (qw_ret [.func (.func 118) #[] #[pw O1 0]] rfl ⟨(by kernel_rfl), trivial⟩ ?_));exact ⟨O1, rfl, (Nat.le_of_eq hzO1), bO1_3.1, hE⟩
theorem given_seq {a : Option Addr} {n c B : Nat} {rs : List RawPc} {ps : List Prod.Pc} {X : Nat → Prop} {w0 w1 : World} (hR : RawsAt w0 a n rs) (hrd : Reads w0 rs ps) (hok : ∀ p ∈ ps, Globe.validL p.rw = true) (hT : Tab w0) (e0 : Ext w0 w1) (cB : w1.cell? ⟨B, 3, none⟩ = some (.slice a n c)) (hXl : ∀ k, X k → w0.heap.size ≤ k) (hX2 : ∀ k, X k → k < w1.heap.size) :
  SeqN Tryz.prog 118 #[pw B 0] (giveG rs ps).length (encsG rs ps) (fun _ _ => True) X w1 := by
 intro l J Jx w hW hJst hJxst hY Cp n9;replace cB := hW.cell cB;obtain ⟨hl, hm, -⟩ := id hR;have Bj := hW.size;have hlp : ps.length = rs.length := hrd.len.symm;refine icalls 29 [(1, pw B 0), (0, .func (.yield l) #[] #[])] Tryz.func118 rfl Tryz.ntmps118 (by kernel_rfl) (by kernel_rfl) (fun L mm => ?_);have hE := Ext.refl w;refine icw_seq (icw_plain (iT (pw B 3) ?_));refine iU (.slice a n c) (xl (ld30 (cB))) ?_;refine iT (iv n) ?_;refine iT (iv 0) ?_;refine ipl_nil (iqw_then (icw_block ?_));have C8 := hJst _ _ _ Cp (Ext.refl _);have C4 : KeptX X w0 w := KeptX.of_mv (n₀ := 0) (Mv.of_ext (e0.trans (hW.trans hE)));refine icw_loop [0, 8, 9, 10] (fun ws' wr m => ∃ i : Nat, ws' = [(0, .func (.yield l) #[] #[]), (8, .slice a n c), (9, iv n), (10, iv i)] ∧ m = n - i ∧ w.heap.size ≤ wr.heap.size ∧ KeptX X w0 wr ∧ J (giveG (rs.take i) (ps.take i)).length wr ∧ i ≤ n) (ws0 := [(0, .func (.yield l) #[] #[]), (8, .slice a n c), (9, iv n), (10, iv 0)]) (by kernel_rfl) _ ⟨0, rfl, rfl, Nat.le_refl _, C4, C8, by omega⟩ ?_;clear cB;rintro m5 L ws w4 ⟨i, rfl, rfl, Bi, B6, Bv, hi⟩;have Bm := Ext.refl w4
 by_cases hlt : i < n
 ·
  obtain ⟨b, o, rfl, hbl, Ci⟩ := hR.parts (by omega);obtain ⟨r0, r1, r2, r3⟩ := Ci i hlt;have hnX : ¬ X b := fun hx => absurd hbl (Nat.not_lt_of_le (hXl _ hx))
  obtain ⟨p, hp, -, -, -, hAA⟩ := hrd.at (rawN_at (rs := rs) (i := i) (by omega));obtain ⟨ba, oa, hea, hen, hva⟩ := va_of hAA (hok p (List.mem_of_getElem? hp));rw [hea, hen] at r3;have hbal := hva.lt;have hnXa : ¬ X ba := fun hx => absurd hbal (Nat.not_lt_of_le (hXl _ hx))
  have hval : (rawN rs i).val = .agg #[iv (rawN rs i).im, iv (rawN rs i).t, .bool (rawN rs i).cl, sv ba oa 24 (rawN rs i).c] := by unfold RawPc.val;rw [hea, hen]
  have hgs := giveG_succ (rs := rs) (ps := ps) (i := i) (rawN_at (by omega)) hp;have hgl := giveG_le (rs := rs) (ps := ps) (i := i + 1);have Cj := cells_le9 p.rw;replace hva := B6.va hnXa hva;replace r0 := B6.cell hnX r0;replace r1 := B6.cell hnX r1;replace r2 := B6.cell hnX r2;replace r3 := B6.cell hnX r3;refine icw_seq (icw_plain (iU (.bool true) (ed (((i : Nat) : Int) < ((n : Nat) : Int)) (by omega)) ?_));refine ipl_nil (iqw_then (icw_seq (icw_t (by kernel_rfl) ?_)));refine icw_skip (iqw_then (icw_seq (icw_block ?_)));refine icw_seq (icw_plain (iU (pw b (o + i * 4)) (xi (sv b o n c) (iv i) (ix30 (k := i) (by omega))) ?_));refine iU (.agg #[iv ((rawN rs i).im : Int), iv ((rawN rs i).t : Int), .bool ((rawN rs i).cl), sv ba oa 24 ((rawN rs i).c)]) (xl (ld49 (r0) (r1) (r2) (r3))) ?_;refine iS (sw 49 #[iv 0, iv 0, .bool false, .slice none 0 0] ?_);intro O7 X8 Bf Ce hb hbx;have ⟨B2, B3, B4, B0⟩ := bq4 hbx;replace Bm := Bm.trans hb;replace B6 := B6.trans (KeptX.of_mv (n₀ := 0) (Mv.of_ext hb));replace hva := hva.ext hb;have Bt := hb.size;have C6 := B2.lt;refine iP (zG O7 (iv ((rawN rs i).im : Int)) (iv ((rawN rs i).t : Int)) (.bool ((rawN rs i).cl)) (sv ba oa 24 ((rawN rs i).c)) (st49 B2.1 B2.2 B3.1 B3.2 B4.1 B4.2 B0.1 B0.2) B2 B3 B4 B0 ?_);intro Ch ho B2 B3 B4 B0 hk;replace Bm := ho.ext Bm (Nat.le_of_eq Bf);replace B6 := B6.turn ho (T (T e0.size Bj) (T Bi (Nat.le_of_eq Bf)));replace hva := ho.va (Nat.ne_of_gt (Nat.lt_of_lt_of_le (Nat.lt_of_lt_of_le hbal (T e0.size Bj)) (T Bi (Nat.le_of_eq Bf)))) hva;have Bh := Nat.le_of_eq ho.size.symm;clear ho hk;refine ipl_nil (iqw_then (icw_seq (icw_plain (iT (pw O7 3) ?_))));refine iU (.agg #[sv ba oa 24 ((rawN rs i).c)]) (xl (ld33 (B0.1))) ?_;refine iS (sc 18 #[.agg #[sv ba oa 24 ((rawN rs i).c)]] ((Cells_w _ _ hva (Ext.refl _) (Tab.kept (X := X) hT (fun hx => absurd hT.1 (Nat.not_lt_of_le (hXl _ hx))) B6)).mono ?_));rintro e Bp ⟨Cd, Bq, rfl, Bx, Br, hb⟩;replace Bm := Bm.trans hb;replace B6 := B6.trans (KeptX.of_mv (n₀ := 0) (Mv.of_ext hb));refine mv4 hb B2 B3 B4 B0 fun B2 B3 B4 B0=>?_;have Bk := hb.size;have Cg := Ext.refl Bp;refine ⟨_, rfl, iT (iv ((((Globe.cellsTo p.rw 24).length : Nat) : Int) : Int)) ?_⟩;refine iT (iv 0) ?_;refine ipl_nil (iqw_then (icw_block ?_));have C0 := hJst _ _ _ Bv Bm;have Bz : KeptX X Bp Bp := KeptX.of_mv (n₀ := 0) (Mv.refl _ _);have Bs := Bx.ext (Ext.refl _);refine icw_loop [0, 4, 8, 9, 10, 16, 17, 18] (fun ws' wr m => ∃ j : Nat, ws' = [(0, .func (.yield l) #[] #[]), (4, pw O7 0), (8, sv b o n c), (9, iv n), (10, iv i), (16, .slice Cd ((Globe.cellsTo p.rw 24).length) Bq), (17, iv ((((Globe.cellsTo p.rw 24).length : Nat) : Int) : Int)), (18, iv j)] ∧ m = (Globe.cellsTo p.rw 24).length - j ∧ Bp.heap.size ≤ wr.heap.size ∧ BoxAt wr O7 0 (iv ((rawN rs i).im : Int)) ∧ BoxAt wr O7 1 (iv ((rawN rs i).t : Int)) ∧ BoxAt wr O7 2 (.bool ((rawN rs i).cl)) ∧ BoxAt wr O7 3 (sv ba oa 24 ((rawN rs i).c)) ∧ KeptX X w0 wr ∧ KeptX X Bp wr ∧ J ((giveG (rs.take i) (ps.take i)).length + j) wr ∧ j ≤ (Globe.cellsTo p.rw 24).length) (ws0 := [(0, .func (.yield l) #[] #[]), (4, pw O7 0), (8, sv b o n c), (9, iv n), (10, iv i), (16, .slice Cd ((Globe.cellsTo p.rw 24).length) Bq), (17, iv ((((Globe.cellsTo p.rw 24).length : Nat) : Int) : Int)), (18, iv 0)]) (by kernel_rfl) _ ⟨0, rfl, rfl, Nat.le_refl _, B2, B3, B4, B0, B6, Bz, C0, Nat.zero_le _⟩ ?_;clear B6 r0 r1 r2 r3 hva B2 B3 B4 B0;rintro Cq L ws C3 ⟨j, rfl, rfl, Bg, B2, B3, B4, B0, B6, Be, Bv, hj⟩;have Bl := Ext.refl C3
  by_cases hlt : j < (Globe.cellsTo p.rw 24).length
  ·
   obtain ⟨cc, hcc⟩ : ∃ cc, (Globe.cellsTo p.rw 24)[j]? = some cc := ⟨_, List.getElem?_eq_getElem hlt⟩;obtain ⟨bc, rfl, hce⟩ := CellsAt.parts Bs (by omega);obtain ⟨d0, d1⟩ := hce j cc hcc;have hnXc : ¬ X bc := fun hx => absurd (hX2 _ hx) (Nat.not_lt_of_le (T (T Bj (T Bi (T Bt Bh))) (Br _ rfl)))
   replace d0 := Be.cell hnXc d0;replace d1 := Be.cell hnXc d1;have hG := giveG_at (rs := rs) (ps := ps) (i := i) (j := j) (rawN_at (by omega)) hp hcc;have hbcl : bc < C3.heap.size := World.block_lt_of_cell? _ _ d0;refine icw_seq (icw_plain (iU (.bool true) (ed (((j : Nat) : Int) < ((((Globe.cellsTo p.rw 24).length : Nat) : Int) : Int)) (by omega)) ?_));refine ipl_nil (iqw_then (icw_seq (icw_t (by kernel_rfl) ?_)));refine icw_skip (iqw_then (icw_seq (icw_block ?_)));refine icw_seq (icw_plain (iU (pw bc (j * 2)) (xi (sv bc 0 ((Globe.cellsTo p.rw 24).length) Bq) (iv j) (ix60z (k := j) (by omega))) ?_));refine iU (.agg #[iv ((cc.1 : Nat) : Int), iv ((cc.2 : Nat) : Int)]) (xl (ld65 (d0) (d1))) ?_;refine iS (sw 65 #[iv 0, iv 0] ?_);intro C1 Cn Bc Cc hb hbx;have ⟨B7, Ba⟩ := bq2 hbx;refine mv5 hb Bl B2 B3 B4 B0 fun Bl B2 B3 B4 B0=>?_;replace B6 := B6.trans (KeptX.of_mv (n₀ := 0) (Mv.of_ext hb));replace Be := Be.trans (KeptX.of_mv (n₀ := 0) (Mv.of_ext hb));have C5 := hb.size;have Cf := B7.lt;refine iP (sn_set2 (O := C1) (j := 0) (v := iv ((cc.1 : Nat) : Int)) (v' := iv ((cc.2 : Nat) : Int)) (xt (pw C1 0) (.agg #[iv ((cc.1 : Nat) : Int), iv ((cc.2 : Nat) : Int)]) (st65 B7.1 B7.2 Ba.1 Ba.2)) B7 Ba ?_);intro Ck ho B7 Ba hk;replace Bl := ho.ext Bl (Nat.le_of_eq Bc);have q9 := ho.bx O7 (by omega);replace B2 := q9 B2;replace B3 := q9 B3;replace B4 := q9 B4;replace B0 := q9 B0;clear q9;replace B6 := B6.turn ho (T (T e0.size Bj) (by omega));replace Be := Be.turn ho (T Bg (Nat.le_of_eq Bc));have C7 := Nat.le_of_eq ho.size.symm;clear ho hk;refine ipl_nil (iqw_then (icw_seq (icw_plain (iT (.func (.yield l) #[] #[]) ?_))));refine iU (.agg #[iv ((cc.1 : Nat) : Int), iv ((cc.2 : Nat) : Int)]) (xl (ld65 (B7.1) (Ba.1))) ?_;refine iU (.agg #[iv ((rawN rs i).im : Int), iv ((rawN rs i).t : Int), .bool ((rawN rs i).cl), sv ba oa 24 ((rawN rs i).c)]) (xl (ld49 (B2.1) (B3.1) (B4.1) (B0.1))) ?_;refine ipl_yield rfl (by kernel_rfl) (by kernel_rfl) (by kernel_rfl) (sy_yield (args := #[.agg #[iv ((cc.1 : Nat) : Int), iv ((cc.2 : Nat) : Int)], .agg #[iv ((rawN rs i).im : Int), iv ((rawN rs i).t : Int), .bool ((rawN rs i).cl), sv ba oa 24 ((rawN rs i).c)]]) rfl (by kernel_rfl) (by kernel_rfl) (yield_mono (yield_at (hY ((giveG (rs.take i) (ps.take i)).length + j) _ _ (by omega) (hJst _ _ _ Bv Bl) trivial) hG hval) ?_));rintro e C2 (⟨rfl, Bo, Bb⟩ | ⟨rfl, Bo, Bb⟩)
   ·
    have q9 := fun ⦃j : Nat⦄ ⦃v : Value⦄ (h : BoxAt _ O7 j v) => Bb.box (fun hx => absurd (hX2 _ hx) (Nat.not_lt_of_le (T Bj (T Bi (Nat.le_of_eq Bf))))) h
    replace B2 := q9 B2;replace B3 := q9 B3;replace B4 := q9 B4;replace B0 := q9 B0;clear q9;replace B6 := B6.trans Bb;replace Be := Be.trans Bb;have q9 := fun ⦃j : Nat⦄ ⦃v : Value⦄ (h : BoxAt _ C1 j v) => Bb.box (fun hx => absurd (hX2 _ hx) (Nat.not_lt_of_le (by omega))) h
    clear q9;have C9 := Bb.size;have Cm := Ext.refl C2;refine ⟨_, rfl, iT (.bool false) ?_⟩;refine ipl_nil (iqw_then (icw_clean [0, 4, 8, 9, 10, 16, 17, 18, 26] (ws' := [(0, .func (.yield l) #[] #[]), (4, pw O7 0), (8, sv b o n c), (9, iv n), (10, iv i), (16, sv bc 0 ((Globe.cellsTo p.rw 24).length) Bq), (17, iv ((((Globe.cellsTo p.rw 24).length : Nat) : Int) : Int)), (18, iv j), (26, .bool false)]) (by kernel_rfl) (fun L => ?_)));refine icw_f (by kernel_rfl) ?_;refine icw_skip (iqw_block (iqw_then (icw_plain (iU (iv ((j + 1 : Nat) : Int)) (ew (by omega) (by omega)) ?_))));refine iT (iv ((j + 1 : Nat) : Int)) ?_;refine ipl_nil (iqw_round [0, 4, 8, 9, 10, 16, 17, 18] (ws' := [(0, .func (.yield l) #[] #[]), (4, pw O7 0), (8, sv b o n c), (9, iv n), (10, iv i), (16, sv bc 0 ((Globe.cellsTo p.rw 24).length) Bq), (17, iv ((((Globe.cellsTo p.rw 24).length : Nat) : Int) : Int)), (18, iv ((j + 1 : Nat) : Int))]) (by kernel_rfl) _ ?_ ⟨(j + 1), rfl, rfl, (T Bg (T C5 (T C7 C9))), B2, B3, B4, B0, B6, Be, (hJst _ _ _ Bo (Ext.refl _)), by omega⟩);omega
   ·
    have q9 := fun ⦃j : Nat⦄ ⦃v : Value⦄ (h : BoxAt _ O7 j v) => Bb.box (fun hx => absurd (hX2 _ hx) (Nat.not_lt_of_le (T Bj (T Bi (Nat.le_of_eq Bf))))) h
    clear q9;replace B6 := B6.trans Bb;have q9 := fun ⦃j : Nat⦄ ⦃v : Value⦄ (h : BoxAt _ C1 j v) => Bb.box (fun hx => absurd (hX2 _ hx) (Nat.not_lt_of_le (by omega))) h
    clear q9;have Cl := Bb.size;have Co := Ext.refl C2;refine ⟨_, rfl, iT (.bool true) ?_⟩;refine ipl_nil (iqw_then (icw_clean [0, 4, 8, 9, 10, 16, 17, 18, 26] (ws' := [(0, .func (.yield l) #[] #[]), (4, pw O7 0), (8, sv b o n c), (9, iv n), (10, iv i), (16, sv bc 0 ((Globe.cellsTo p.rw 24).length) Bq), (17, iv ((((Globe.cellsTo p.rw 24).length : Nat) : Int) : Int)), (18, iv j), (26, .bool true)]) (by kernel_rfl) (fun L => ?_)));refine icw_t (by kernel_rfl) ?_;refine icw_ret ?_;refine iqw_block_ret ?_;refine iqw_then_ret ?_;refine iqw_then_ret ?_;refine iqw_block_ret ?_;refine iqw_block_ret ?_;refine iqw_then_ret ?_;refine iqw_then_ret ?_;refine iqw_block_ret ?_;refine iqw_ret0 [] rfl trivial ?_;exact ⟨⟨_, rfl⟩, .inr ⟨(giveG (rs.take i) (ps.take i)).length + j, by omega, hJxst _ _ _ Bo (Ext.refl _)⟩⟩
  ·
   have hjn : j = (Globe.cellsTo p.rw 24).length := by omega
   have hjl : (giveG (rs.take i) (ps.take i)).length + j = (giveG (rs.take i) (ps.take i)).length + (Globe.cellsTo p.rw 24).length := by rw [hjn]
   refine icw_seq (icw_plain (iU (.bool false) (en (((j : Nat) : Int) < ((((Globe.cellsTo p.rw 24).length : Nat) : Int) : Int)) (by omega)) ?_));refine ipl_nil (iqw_then (icw_seq (icw_f (by kernel_rfl) ?_)));refine icw_exit ?_;refine iqw_then_exit ?_;refine iqw_then_exit ?_;refine iqw_block_out ?_;refine iqw_block (iqw_then (icw_plain (iU (iv ((i + 1 : Nat) : Int)) (ew (by omega) (by omega)) ?_)));refine iT (iv ((i + 1 : Nat) : Int)) ?_;refine ipl_nil (iqw_round [0, 8, 9, 10] (ws' := [(0, .func (.yield l) #[] #[]), (8, sv b o n c), (9, iv n), (10, iv ((i + 1 : Nat) : Int))]) (by kernel_rfl) _ ?_ ⟨(i + 1), rfl, rfl, (T Bi (T Bt (T Bh (T Bk Bg)))), B6, (by rw [hgs]; exact hjl ▸ hJst _ _ _ Bv (Ext.refl _)), by omega⟩);omega
 ·
  have hin : i = n := by omega
  refine icw_seq (icw_plain (iU (.bool false) (en (((i : Nat) : Int) < ((n : Nat) : Int)) (by omega)) ?_));refine ipl_nil (iqw_then (icw_seq (icw_f (by kernel_rfl) ?_)));refine icw_exit ?_;refine iqw_then_exit ?_;refine iqw_then_exit ?_;refine iqw_block_out ?_;refine iqw_end0 [] rfl trivial ?_;have hof : (giveG (rs.take i) (ps.take i)).length = (giveG rs ps).length := by rw [hin, List.take_of_length_le (by omega), List.take_of_length_le (by omega)]
  exact ⟨⟨_, rfl⟩, .inl (hof ▸ hJst _ _ _ Bv (Ext.refl _))⟩
end Go.Proofs.YtajdohcgjgknmaaGreatDoor

namespace Go.Proofs.YtajdohcgjgknmaaGreatDoor
set_option maxRecDepth 1000000
set_option maxHeartbeats 4000000
set_option synthInstance.maxHeartbeats 0
set_option synthInstance.maxSize 9999
open Go.RowKit
def okG (ps : List Prod.Pc) (q : (Nat × Nat) × RawPc) : Bool := match ps.find? (fun p => hasB p.rw ((q.1.1 : Nat) : Int) ((q.1.2 : Nat) : Int)) with
 | none => false
 | some x => !Prod.bet q.2.cl q.2.t q.2.im x.cl x.t x.im
def Prod.okY (ps : List Prod.Pc) (y : Prod.Pc) (c : Nat × Nat) : Bool := match ps.find? (fun p => hasB p.rw ((c.1 : Nat) : Int) ((c.2 : Nat) : Int)) with
 | none => false
 | some x => !Prod.better y x
def Prod.overL (ps qs : List Prod.Pc) : Bool := qs.all fun y => (Globe.cellsTo y.rw 24).all (Prod.okY ps y)
def Prod.overB (id ver : Int) (ar : List Int) (ps : List Prod.Pc) (id2 ver2 : Int) (ar2 : List Int) (qs : List Prod.Pc) : Bool :=
 (Prod.validP id ver ar ps && Prod.validP id2 ver2 ar2 qs) && ((decide (id = id2) && decide (ar = ar2)) && (decide (ver2 < ver) && Prod.overL ps qs))
theorem encs_at {rs : List RawPc} {ps : List Prod.Pc} {k : Nat} {c : Nat × Nat} {r : RawPc} (hG : (giveG rs ps)[k]? = some (c, r)) : encsG rs ps k = [.agg #[.int .i64 c.1, .int .i64 c.2], .agg #[.int .i64 r.im, .int .i64 r.t, .bool r.cl, .slice r.a r.n r.c]] := by
 unfold encsG; rw [hG]; rfl
theorem overG_all {w : World} {ps : List Prod.Pc} : ∀ {rs : List RawPc} {qs : List Prod.Pc}, Reads w rs qs → (giveG rs qs).all (okG ps) = Prod.overL ps qs
 | [], [], _ => rfl
 | r :: rs, y :: qs, h => by
  have ih := overG_all (ps := ps) h.2
  obtain ⟨⟨e1, e2, e3, _⟩, _⟩ := h
  unfold giveG at ih ⊢
  rw [List.zip_cons_cons, List.flatMap_cons, List.all_append, ih, List.all_map]
  unfold Prod.overL
  rw [List.all_cons]
  congr 1
  refine congrArg (fun f => List.all _ f) (funext fun c => ?_)
  unfold okG Prod.okY Prod.better
  simp only [Function.comp]
  rw [e1, e2, e3]
theorem overG_bad {ps : List Prod.Pc} {G : List ((Nat × Nat) × RawPc)} {k : Nat} {z : (Nat × Nat) × RawPc} (hG : G[k]? = some z) (h : okG ps z = false) : G.all (okG ps) = false := by
 cases q : G.all (okG ps)
 · rfl
 · have := List.all_eq_true.1 q z (List.mem_of_getElem? hG); rw [h] at this; cases this
theorem Over_c {w1 w2 w3 w4 : World} {id ver id2 ver2 : Int} {ar ar2 : List Int} {ps qs : List Prod.Pc} {a1 a b1 b : Option Addr} {n1 n m1 m : Nat} (c1 d1 : Nat) {c d : Nat} (w : World) (hnc : n ≤ c) (hmd : m ≤ d) (hA : AA w1 a1 ar n1 (Globe.validL ar)) (e1 : Ext w1 w) (hP : PcsAt w2 a n ps) (e2 : Ext w2 w) (hB : AA w3 b1 ar2 m1 (Globe.validL ar2)) (e3 : Ext w3 w) (hQ : PcsAt w4 b m qs) (e4 : Ext w4 w) (hT : Tab w) : Calls Tryz.prog 33 #[.agg #[iv id, iv ver, .slice a1 n1 c1, .slice a n c], .agg #[iv id2, iv ver2, .slice b1 m1 d1, .slice b m d]] w fun e w' => e = .returned (.bool (Prod.overB id ver ar ps id2 ver2 ar2 qs)) ∧ Ext w w' := by
 replace hA := hA.ext e1;replace hP := hP.ext e2;replace hB := hB.ext e3;replace hQ := hQ.ext e4;have hnb := hP.max;have hmb := hQ.max;clear e1 e2 e3 e4;have E8 := hQ;obtain ⟨rs, hR, hrd⟩ := E8;refine icalls_cw 57 [(1, .agg #[iv id2, iv ver2, .slice b1 m1 d1, .slice b m d]), (0, .agg #[iv id, iv ver, .slice a1 n1 c1, .slice a n c])] Tryz.func33 rfl Tryz.ntmps33 (by kernel_rfl) (by kernel_rfl) (fun L mm => ?_);have hE := Ext.refl w;refine icw_seq (icw_plain (iS (sw 53 #[iv id, iv ver, .slice a1 n1 c1, .slice a n c] ?_)));intro O1 X2 Ea Eg hb hbx;have ⟨B0, B3, B2, B4⟩ := bq4 hbx;replace hE := hE.trans hb;have Ci := hb.size;have Cm := B0.lt;refine iS (sw 53 #[iv id2, iv ver2, .slice b1 m1 d1, .slice b m d] ?_);intro O5 X6 E3 Em hb hbx;have ⟨B6, Ba, B7, Bb⟩ := bq4 hbx;refine mv5 hb hE B0 B3 B2 B4 fun hE B0 B3 B2 B4=>?_;have C9 := hb.size;have Cl := B6.lt;refine iS (sw 4 #[.bool false] ?_);intro O9 F4 Bt Ej hb hbx;have Bc := bq1 hbx;refine mv9 hb hE B0 B3 B2 B4 B6 Ba B7 Bb fun hE B0 B3 B2 B4 B6 Ba B7 Bb=>?_;have C3 := hb.size;have Cd := Bc.lt;refine ipl_nil (iqw_then (icw_seq (icw_seq (icw_plain (iU (.agg #[iv id, iv ver, .slice a1 n1 c1, .slice a n c]) (xl (ld53 (B0.1) (B3.1) (B2.1) (B4.1))) ?_)))));rcases Bool.eq_false_or_eq_true (Prod.validP id ver ar ps) with Cr | Cr
 ·
  refine iS (sc 28 #[.agg #[iv id, iv ver, .slice a1 n1 c1, .slice a n c]] ((pValid_r (id := id) (ver := ver) (r := true) _ _ (by omega) (aa_q (hA)) hE (hP) hE (hT.ext hE) Cr).mono ?_));rintro e F9 ⟨rfl, hb⟩;refine mv9 hb hE B0 B3 B2 B4 B6 Ba B7 Bb fun hE B0 B3 B2 B4 B6 Ba B7 Bb=>?_;replace Bc := Bc.x hb;have Bm := hb.size;refine ⟨_, rfl, iT (.bool false) ?_⟩;refine iT (.bool false) ?_;refine iU (.agg #[iv id2, iv ver2, .slice b1 m1 d1, .slice b m d]) (xl (ld53 (B6.1) (Ba.1) (B7.1) (Bb.1))) ?_;rcases Bool.eq_false_or_eq_true (Prod.validP id2 ver2 ar2 qs) with Cj | Cj
  ·
   refine iS (sc 28 #[.agg #[iv id2, iv ver2, .slice b1 m1 d1, .slice b m d]] ((pValid_r (id := id2) (ver := ver2) (r := true) _ _ (by omega) (aa_q (hB)) hE (hQ) hE (hT.ext hE) Cj).mono ?_));rintro e E7 ⟨rfl, hb⟩;refine mv9 hb hE B0 B3 B2 B4 B6 Ba B7 Bb fun hE B0 B3 B2 B4 B6 Ba B7 Bb=>?_;replace Bc := Bc.x hb;have Bo := hb.size;refine ⟨_, rfl, iT (.bool false) ?_⟩;refine iT (.bool false) ?_;refine iT (.bool false) ?_;refine iT (pw O1 0) ?_;refine iU (iv id) (xl (ld3 (B0.1))) ?_;refine iT (pw O5 0) ?_;refine iU (iv id2) (xl (ld3 (B6.1))) ?_
   by_cases Cs : (id : Int) = (id2 : Int)
   ·
    refine iU (.bool false) (ev_nne (show _ = Result.ok (Next.value (Value.bool ((id : Int) != (id2 : Int)))) _ from by kernel_rfl) (Cs)) ?_;refine iT (.bool false) ?_;refine iT (.bool false) ?_;refine iT (pw O1 2) ?_;refine iU (.agg #[.slice a1 n1 c1]) (xl (ld33 (B2.1))) ?_;refine iT (pw O5 2) ?_;refine iU (.agg #[.slice b1 m1 d1]) (xl (ld33 (B7.1))) ?_;rcases Bool.eq_false_or_eq_true (decide (ar = ar2)) with Cq | Cq
    ·
     refine iS (sc 87 #[.agg #[.slice a1 n1 c1], .agg #[.slice b1 m1 d1]] ((Same_q (r := true) _ _ _ (hA) hE (hB) hE Cq).mono ?_));rintro e E4 ⟨rfl, hb⟩;refine mv9 hb hE B0 B3 B2 B4 B6 Ba B7 Bb fun hE B0 B3 B2 B4 B6 Ba B7 Bb=>?_;replace Bc := Bc.x hb;have Bp := hb.size;refine ⟨_, rfl, iT (.bool false) ?_⟩;refine iT (.bool false) ?_;refine iT (.bool false) ?_;refine iT (pw O1 1) ?_;refine iU (iv ver) (xl (ld3 (B3.1))) ?_;refine iT (pw O5 1) ?_;refine iU (iv ver2) (xl (ld3 (Ba.1))) ?_
     by_cases D7 : (ver : Int) ≤ (ver2 : Int)
     ·
      refine iU (.bool true) (ed ((ver : Int) ≤ (ver2 : Int)) (D7)) ?_;refine iT (.bool true) ?_;refine ipl_nil (iqw_then (icw_clean [2, 3, 4, 38] (ws' := [(2, pw O1 0), (3, pw O5 0), (4, pw O9 0), (38, .bool true)]) (by kernel_rfl) (fun L => ?_)));refine icw_t (by kernel_rfl) ?_;refine icw_seq (icw_plain (iP (zE O9 0 (.bool false) (st4 Bc.1 Bc.2) Bc ?_)));intro Eo ho Bc hk;replace hE := ho.ext hE (T (T Ci C9) (Nat.le_of_eq Bt));have q9 := ho.bx O1 (by omega);replace B0 := q9 B0;replace B3 := q9 B3;replace B2 := q9 B2;replace B4 := q9 B4;clear q9;have q9 := ho.bx O5 (by omega);replace B6 := q9 B6;replace Ba := q9 Ba;replace B7 := q9 B7;replace Bb := q9 Bb;clear q9;have Es := Nat.le_of_eq ho.size.symm;clear ho hk;refine ipl_nil (iqw_then (icw_ret ?_));refine iqw_then_ret ?_;refine iqw_ret0 [.bool false] rfl ⟨⟨_, by kernel_rfl, res_ld (ld4 (Bc.1))⟩, trivial⟩ ?_;exact ⟨rb (show Prod.overB id ver ar ps id2 ver2 ar2 qs = false by unfold Prod.overB; rw [decide_eq_false (show ¬ ver2 < ver by omega)]; simp).symm, hE⟩
     ·
      refine iU (.bool false) (en ((ver : Int) ≤ (ver2 : Int)) (D7)) ?_;refine iT (.bool false) ?_;refine ipl_nil (iqw_then (icw_clean [2, 3, 4, 38] (ws' := [(2, pw O1 0), (3, pw O5 0), (4, pw O9 0), (38, .bool false)]) (by kernel_rfl) (fun L => ?_)));refine icw_f (by kernel_rfl) ?_;refine icw_skip (iqw_then (icw_seq (icw_seq (icw_plain (iU (.agg #[iv id2, iv ver2, .slice b1 m1 d1, .slice b m d]) (xl (ld53 (B6.1) (Ba.1) (B7.1) (Bb.1))) ?_)))));refine iS (sc 89 #[.agg #[iv id2, iv ver2, .slice b1 m1 d1, .slice b m d]] ((given_c _).mono ?_));rintro e D9 ⟨Dx, rfl, Cz, Bk, hb⟩;refine mv9 hb hE B0 B3 B2 B4 B6 Ba B7 Bb fun hE B0 B3 B2 B4 B6 Ba B7 Bb=>?_;replace Bc := Bc.x hb;have Br := hb.size;have Cu := World.block_lt_of_cell? _ _ Bk;refine ⟨_, rfl, ?_⟩;refine ipl_nil (iqw_then (icw_block ?_));refine icw_range (ps := [41, 42]) (by kernel_rfl) (enters_of Tryz.func118 (by kernel_rfl) rfl) (given_seq (X := (fun k => k = O9)) hR hrd (Prod.validP_pcs Cj) hT (hE) Bk (fun k hk => hk ▸ (T (T Ci C9) (Nat.le_of_eq Bt))) (fun k hk => hk ▸ (by omega))) (Ext.refl _) (encsG_len rs qs) (by kernel_rfl) (fun i W => D9.heap.size ≤ W.heap.size ∧ Ext w W ∧ BoxAt W O1 0 (iv id) ∧ BoxAt W O1 1 (iv ver) ∧ BoxAt W O1 2 (.slice a1 n1 c1) ∧ BoxAt W O1 3 (.slice a n c) ∧ BoxAt W O5 0 (iv id2) ∧ BoxAt W O5 1 (iv ver2) ∧ BoxAt W O5 2 (.slice b1 m1 d1) ∧ BoxAt W O5 3 (.slice b m d) ∧ W.cell? ⟨Dx, 3, none⟩ = some (.slice b m d) ∧ BoxAt W O9 0 (.bool false) ∧ ((giveG rs qs).take i).all (okG ps) = true) (fun Dk i W => Dk = .ret ∧ D9.heap.size ≤ W.heap.size ∧ Ext w W ∧ BoxAt W O1 0 (iv id) ∧ BoxAt W O1 1 (iv ver) ∧ BoxAt W O1 2 (.slice a1 n1 c1) ∧ BoxAt W O1 3 (.slice a n c) ∧ BoxAt W O5 0 (iv id2) ∧ BoxAt W O5 1 (iv ver2) ∧ BoxAt W O5 2 (.slice b1 m1 d1) ∧ BoxAt W O5 3 (.slice b m d) ∧ W.cell? ⟨Dx, 3, none⟩ = some (.slice b m d) ∧ BoxAt W O9 0 (.bool false) ∧ Prod.overL ps qs = false) (fun i A B h hm => by obtain ⟨hsz, hE, B0, B3, B2, B4, B6, Ba, B7, Bb, Bk, b9, hall⟩ := h; exact ⟨T hsz hm.size, hm.ext hE (by omega), hm.box B0, hm.box B3, hm.box B2, hm.box B4, hm.box B6, hm.box Ba, hm.box B7, hm.box Bb, hm.cell Bk, hm.box b9, hall⟩) (fun Dk i A B h hm => by obtain ⟨rfl, hsz, hE, B0, B3, B2, B4, B6, Ba, B7, Bb, Bk, b9, hbad⟩ := h; exact ⟨rfl, T hsz hm.size, hm.ext hE (by omega), hm.box B0, hm.box B3, hm.box B2, hm.box B4, hm.box B6, hm.box Ba, hm.box B7, hm.box Bb, hm.cell Bk, hm.box b9, hbad⟩) ⟨Nat.le_refl _, hE, B0, B3, B2, B4, B6, Ba, B7, Bb, Bk, Bc, rfl⟩ ?_ ?_ ?_
      ·
       clear B0 B3 B2 B4 B6 Ba B7 Bb Bc Bk hE;intro F5 F7 i Du hii h _;obtain ⟨Bq, hE, B0, B3, B2, B4, B6, Ba, B7, Bb, Bk, b9, hall⟩ := h;obtain ⟨⟨cc, r⟩, hG⟩ : ∃ z, (giveG rs qs)[i]? = some z := ⟨_, List.getElem?_eq_getElem hii⟩;rw [encs_at hG];have htk : (giveG rs qs).take (i + 1) = (giveG rs qs).take i ++ [(cc, r)] := by rw [List.take_add_one, hG];rfl
       refine icw_clean [2, 4, 41, 42] (ws' := [(2, pw O1 0), (4, pw O9 0), (41, .agg #[iv ((cc.1 : Nat) : Int), iv ((cc.2 : Nat) : Int)]), (42, .agg #[iv r.im, iv r.t, .bool r.cl, .slice r.a r.n r.c])]) (by kernel_rfl) (fun L => ?_);have Cb : RK D9.heap.size (fun k => k = O9) Du Du := RK.refl _ _ _;refine icw_seq (icw_plain (iS (sw 65 #[iv 0, iv 0] ?_)));intro Cx Eu Cf Dv hb hbx;have ⟨Be, Bf⟩ := bq2 hbx;refine mv9 hb hE B0 B3 B2 B4 B6 Ba B7 Bb fun hE B0 B3 B2 B4 B6 Ba B7 Bb=>?_;replace Bk := hb.cell Bk;refine mv2 hb b9 Cb fun b9 Cb=>?_;have Bv := hb.size;have Cy := Be.lt;refine iP (sn_set2 (O := Cx) (j := 0) (v := iv ((cc.1 : Nat) : Int)) (v' := iv ((cc.2 : Nat) : Int)) (xt (pw Cx 0) (.agg #[iv ((cc.1 : Nat) : Int), iv ((cc.2 : Nat) : Int)]) (st65 Be.1 Be.2 Bf.1 Bf.2)) Be Bf ?_);intro Ed ho Be Bf hk;replace hE := ho.ext hE (by omega);have q9 := ho.bx O1 (by omega);replace B0 := q9 B0;replace B3 := q9 B3;replace B2 := q9 B2;replace B4 := q9 B4;clear q9;have q9 := ho.bx O5 (by omega);replace B6 := q9 B6;replace Ba := q9 Ba;replace B7 := q9 B7;replace Bb := q9 Bb;clear q9;replace Bk := ho.cell (by omega) Bk;replace b9 := ho.box (by omega) b9;replace Cb := Cb.turn ho (.inr (Nat.le_of_eq Cf));have Bs := Nat.le_of_eq ho.size.symm;clear ho hk;refine ipl_nil (iqw_then (icw_plain (iS (sw 49 #[iv 0, iv 0, .bool false, .slice none 0 0] ?_))));intro D0 Ep Cc Dy hb hbx;have ⟨Bg, Bh, Bi, Bj⟩ := bq4 hbx;refine mv9 hb hE B0 B3 B2 B4 B6 Ba B7 Bb fun hE B0 B3 B2 B4 B6 Ba B7 Bb=>?_;replace Bk := hb.cell Bk;refine mv4 hb b9 Cb Be Bf fun b9 Cb Be Bf=>?_;have C2 := hb.size;have D8 := Bg.lt;refine iP (zG D0 (iv r.im) (iv r.t) (.bool r.cl) (.slice r.a r.n r.c) (st49 Bg.1 Bg.2 Bh.1 Bh.2 Bi.1 Bi.2 Bj.1 Bj.2) Bg Bh Bi Bj ?_);intro Ek ho Bg Bh Bi Bj hk;replace hE := ho.ext hE (by omega);have q9 := ho.bx O1 (by omega);replace B0 := q9 B0;replace B3 := q9 B3;replace B2 := q9 B2;replace B4 := q9 B4;clear q9;have q9 := ho.bx O5 (by omega);replace B6 := q9 B6;replace Ba := q9 Ba;replace B7 := q9 B7;replace Bb := q9 Bb;clear q9;replace Bk := ho.cell (by omega) Bk;replace b9 := ho.box (by omega) b9;replace Cb := Cb.turn ho (.inr (T (T Bv Bs) (Nat.le_of_eq Cc)));have q9 := ho.bx Cx (by omega);replace Be := q9 Be;replace Bf := q9 Bf;clear q9;have C0 := Nat.le_of_eq ho.size.symm;clear ho hk;refine ipl_nil (iqw_asg Cb (fun w50 hm49 => ?_));replace hE := hm49.ext hE (by omega);replace B0 := hm49.box B0;replace B3 := hm49.box B3;replace B2 := hm49.box B2;replace B4 := hm49.box B4;replace B6 := hm49.box B6;replace Ba := hm49.box Ba;replace B7 := hm49.box B7;replace Bb := hm49.box Bb;replace Bk := hm49.cell Bk;replace b9 := hm49.box b9;replace Be := hm49.box Be;replace Bf := hm49.box Bf;replace Bg := hm49.box Bg;replace Bh := hm49.box Bh;replace Bi := hm49.box Bi;replace Bj := hm49.box Bj;have C1 := hm49.size;have Bl : RK D9.heap.size (fun k => k = O9) w50 w50 := RK.refl _ _ _;refine icw_block ?_;refine icw_seq ?_;rcases hf : ps.find? (fun p => hasB p.rw ((cc.1 : Nat) : Int) ((cc.2 : Nat) : Int)) with _ | x
       ·
        have Cn : okG ps (cc, r) = false := by unfold okG;rw [hf]
        refine icw_plain (iU (.agg #[iv id, iv ver, .slice a1 n1 c1, .slice a n c]) (xl (ld53 (B0.1) (B3.1) (B2.1) (B4.1))) ?_);refine iU (.agg #[iv ((cc.1 : Nat) : Int), iv ((cc.2 : Nat) : Int)]) (xl (ld65 (Be.1) (Bf.1))) ?_;refine iS (sc 71 #[.agg #[iv id, iv ver, .slice a1 n1 c1, .slice a n c], .agg #[iv ((cc.1 : Nat) : Int), iv ((cc.2 : Nat) : Int)]] ((giving_n (id := id) (ver := ver) _ _ (by omega) (aa_q (hA)) hE (hP) hE (hT.ext hE) hf).mono ?_));rintro e F8 ⟨rfl, hb⟩;refine mv9 hb hE B0 B3 B2 B4 B6 Ba B7 Bb fun hE B0 B3 B2 B4 B6 Ba B7 Bb=>?_;replace Bk := hb.cell Bk;refine mv7 hb b9 Be Bf Bg Bh Bi Bj fun b9 Be Bf Bg Bh Bi Bj=>?_;replace Bl := Bl.ext hb;have Ch := hb.size;refine ⟨_, rfl, iT (.tuple #[.agg #[iv 0, iv 0, .bool false, .slice none 0 0], .bool false]) ?_⟩;refine iT (.agg #[iv 0, iv 0, .bool false, .slice none 0 0]) ?_;refine iT (.bool false) ?_;refine iS (sw 49 #[iv 0, iv 0, .bool false, .slice none 0 0] ?_);intro Df Eh Ce Dq hb hbx;have ⟨C5, C6, C7, C8⟩ := bq4 hbx;refine mv9 hb hE B0 B3 B2 B4 B6 Ba B7 Bb fun hE B0 B3 B2 B4 B6 Ba B7 Bb=>?_;replace Bk := hb.cell Bk;refine mv7 hb b9 Be Bf Bg Bh Bi Bj fun b9 Be Bf Bg Bh Bi Bj=>?_;replace Bl := Bl.ext hb;have Di := hb.size;have F0 := C5.lt;refine iP (zG Df (iv 0) (iv 0) (.bool false) (.slice none 0 0) (st49 C5.1 C5.2 C6.1 C6.2 C7.1 C7.2 C8.1 C8.2) C5 C6 C7 C8 ?_);intro Dz ho C5 C6 C7 C8 hk;replace hE := ho.ext hE (by omega);have q9 := ho.bx O1 (by omega);replace B0 := q9 B0;replace B3 := q9 B3;replace B2 := q9 B2;replace B4 := q9 B4;clear q9;have q9 := ho.bx O5 (by omega);replace B6 := q9 B6;replace Ba := q9 Ba;replace B7 := q9 B7;replace Bb := q9 Bb;clear q9;replace Bk := ho.cell (by omega) Bk;replace b9 := ho.box (by omega) b9;have q9 := ho.bx Cx (by omega);replace Be := q9 Be;replace Bf := q9 Bf;clear q9;have q9 := ho.bx D0 (by omega);replace Bg := q9 Bg;replace Bh := q9 Bh;replace Bi := q9 Bi;replace Bj := q9 Bj;clear q9;replace Bl := Bl.turn ho (.inr (T Ch (Nat.le_of_eq Ce)));have Dl := Nat.le_of_eq ho.size.symm;clear ho hk;refine iT (.bool false) ?_;refine ipl_nil (iqw_then (icw_seq (icw_plain (iT (.bool false) ?_))));refine iT (.bool true) ?_;refine iT (.bool true) ?_;refine iK ?_;refine iK ?_;refine iK ?_;refine iK ?_;refine iT (.bool true) ?_;refine ipl_nil (iqw_then (icw_clean [4, 56] (ws' := [(4, pw O9 0), (56, .bool true)]) (by kernel_rfl) (fun L => ?_)));refine icw_t (by kernel_rfl) ?_;refine icw_seq (icw_plain (iP (zE O9 0 (.bool false) (st4 b9.1 b9.2) b9 ?_)));intro F1 ho b9 hk;replace hE := ho.ext hE (T (T Ci C9) (Nat.le_of_eq Bt));have q9 := ho.bx O1 (by omega);replace B0 := q9 B0;replace B3 := q9 B3;replace B2 := q9 B2;replace B4 := q9 B4;clear q9;have q9 := ho.bx O5 (by omega);replace B6 := q9 B6;replace Ba := q9 Ba;replace B7 := q9 B7;replace Bb := q9 Bb;clear q9;replace Bk := ho.cell (Nat.ne_of_lt (Nat.lt_of_lt_of_le Cd (T (T Bm (T Bo Bp)) Cz))) Bk;have q9 := ho.bx Cx (by omega);replace Be := q9 Be;replace Bf := q9 Bf;clear q9;have q9 := ho.bx D0 (by omega);replace Bg := q9 Bg;replace Bh := q9 Bh;replace Bi := q9 Bi;replace Bj := q9 Bj;clear q9;replace Bl := Bl.turn ho (.inl (rfl));have q9 := ho.bx Df (by omega);clear q9;have Dh := Nat.le_of_eq ho.size.symm;clear ho hk;refine ipl_nil (iqw_then (icw_ret ?_));refine iqw_block_ret ?_;exact iqw_brk_ret Bl ⟨rfl, (by omega), hE, B0, B3, B2, B4, B6, Ba, B7, Bb, Bk, b9, (by rw [← overG_all hrd]; exact overG_bad hG Cn)⟩
       ·
        refine icw_plain (iU (.agg #[iv id, iv ver, .slice a1 n1 c1, .slice a n c]) (xl (ld53 (B0.1) (B3.1) (B2.1) (B4.1))) ?_);refine iU (.agg #[iv ((cc.1 : Nat) : Int), iv ((cc.2 : Nat) : Int)]) (xl (ld65 (Be.1) (Bf.1))) ?_;refine iS (sc 71 #[.agg #[iv id, iv ver, .slice a1 n1 c1, .slice a n c], .agg #[iv ((cc.1 : Nat) : Int), iv ((cc.2 : Nat) : Int)]] ((giving_y (id := id) (ver := ver) _ _ (by omega) (aa_q (hA)) hE (hP) hE (hT.ext hE) hf).mono ?_));rintro e F6 ⟨Ck, D2, D1, rfl, Eb, hb⟩;refine mv9 hb hE B0 B3 B2 B4 B6 Ba B7 Bb fun hE B0 B3 B2 B4 B6 Ba B7 Bb=>?_;replace Bk := hb.cell Bk;refine mv6 hb b9 Bg Bh Bi Bj Bl fun b9 Bg Bh Bi Bj Bl=>?_;have Cg := hb.size;refine ⟨_, rfl, iT (.tuple #[.agg #[iv x.im, iv x.t, .bool x.cl, .slice Ck D2 D1], .bool true]) ?_⟩;refine iT (.agg #[iv x.im, iv x.t, .bool x.cl, .slice Ck D2 D1]) ?_;refine iT (.bool true) ?_;refine iS (sw 49 #[iv 0, iv 0, .bool false, .slice none 0 0] ?_);intro Dn E6 Ca E0 hb hbx;have ⟨Bu, Bx, Bw, Bz⟩ := bq4 hbx;refine mv9 hb hE B0 B3 B2 B4 B6 Ba B7 Bb fun hE B0 B3 B2 B4 B6 Ba B7 Bb=>?_;replace Bk := hb.cell Bk;refine mv6 hb b9 Bg Bh Bi Bj Bl fun b9 Bg Bh Bi Bj Bl=>?_;have D3 := hb.size;have E9 := Bu.lt;refine iP (zG Dn (iv x.im) (iv x.t) (.bool x.cl) (.slice Ck D2 D1) (st49 Bu.1 Bu.2 Bx.1 Bx.2 Bw.1 Bw.2 Bz.1 Bz.2) Bu Bx Bw Bz ?_);intro El ho Bu Bx Bw Bz hk;replace hE := ho.ext hE (by omega);have q9 := ho.bx O1 (by omega);replace B0 := q9 B0;replace B3 := q9 B3;replace B2 := q9 B2;replace B4 := q9 B4;clear q9;have q9 := ho.bx O5 (by omega);replace B6 := q9 B6;replace Ba := q9 Ba;replace B7 := q9 B7;replace Bb := q9 Bb;clear q9;replace Bk := ho.cell (by omega) Bk;replace b9 := ho.box (by omega) b9;have q9 := ho.bx Cx (by omega);clear q9;have q9 := ho.bx D0 (by omega);replace Bg := q9 Bg;replace Bh := q9 Bh;replace Bi := q9 Bi;replace Bj := q9 Bj;clear q9;replace Bl := Bl.turn ho (.inr (T Cg (Nat.le_of_eq Ca)));have D5 := Nat.le_of_eq ho.size.symm;clear ho hk;refine iT (.bool true) ?_;refine ipl_nil (iqw_then (icw_seq (icw_plain (iT (.bool true) ?_))));refine iT (.bool false) ?_;refine iT (.bool false) ?_;refine iU (.agg #[iv x.im, iv x.t, .bool x.cl, .slice Ck D2 D1]) (xl (ld49 (Bu.1) (Bx.1) (Bw.1) (Bz.1))) ?_;refine iU (.agg #[iv r.im, iv r.t, .bool r.cl, .slice r.a r.n r.c]) (xl (ld49 (Bg.1) (Bh.1) (Bi.1) (Bj.1))) ?_;refine iS (sc 80 #[.agg #[iv x.im, iv x.t, .bool x.cl, .slice Ck D2 D1], .agg #[iv r.im, iv r.t, .bool r.cl, .slice r.a r.n r.c]] ((rank_c (x := x) (y := ⟨r.im, r.t, r.cl, []⟩) _).mono ?_));rintro e Ei ⟨rfl, hb⟩;refine mv9 hb hE B0 B3 B2 B4 B6 Ba B7 Bb fun hE B0 B3 B2 B4 B6 Ba B7 Bb=>?_;replace Bk := hb.cell Bk;refine mv2 hb b9 Bl fun b9 Bl=>?_;have D6 := hb.size;refine ⟨_, rfl, ?_⟩
        by_cases Ct : (Prod.rk x.cl x.t x.im r.cl r.t r.im : Int) < (0 : Int)
        ·
         have Cn : okG ps (cc, r) = false := by unfold okG;rw [hf];simp [Prod.rk_neg.1 Ct]
         refine iU (.bool true) (ed ((Prod.rk x.cl x.t x.im r.cl r.t r.im : Int) < (0 : Int)) (Ct)) ?_;refine iT (.bool true) ?_;refine ipl_nil (iqw_then (icw_clean [4, 56] (ws' := [(4, pw O9 0), (56, .bool true)]) (by kernel_rfl) (fun L => ?_)));refine icw_t (by kernel_rfl) ?_;refine icw_seq (icw_plain (iP (zE O9 0 (.bool false) (st4 b9.1 b9.2) b9 ?_)));intro Ef ho b9 hk;replace hE := ho.ext hE (T (T Ci C9) (Nat.le_of_eq Bt));have q9 := ho.bx O1 (by omega);replace B0 := q9 B0;replace B3 := q9 B3;replace B2 := q9 B2;replace B4 := q9 B4;clear q9;have q9 := ho.bx O5 (by omega);replace B6 := q9 B6;replace Ba := q9 Ba;replace B7 := q9 B7;replace Bb := q9 Bb;clear q9;replace Bk := ho.cell (Nat.ne_of_lt (Nat.lt_of_lt_of_le Cd (T (T Bm (T Bo Bp)) Cz))) Bk;have q9 := ho.bx Cx (by omega);clear q9;have q9 := ho.bx D0 (by omega);clear q9;replace Bl := Bl.turn ho (.inl (rfl));have q9 := ho.bx Dn (by omega);clear q9;have Dm := Nat.le_of_eq ho.size.symm;clear ho hk;refine ipl_nil (iqw_then (icw_ret ?_));refine iqw_block_ret ?_;exact iqw_brk_ret Bl ⟨rfl, (by omega), hE, B0, B3, B2, B4, B6, Ba, B7, Bb, Bk, b9, (by rw [← overG_all hrd]; exact overG_bad hG Cn)⟩
        ·
         have Cn : okG ps (cc, r) = true := by unfold okG;rw [hf];simp;exact Bool.eq_false_iff.2 (fun q => Ct (Prod.rk_neg.2 q))
         refine iU (.bool false) (en ((Prod.rk x.cl x.t x.im r.cl r.t r.im : Int) < (0 : Int)) (Ct)) ?_;refine iT (.bool false) ?_;refine ipl_nil (iqw_then (icw_clean [4, 56] (ws' := [(4, pw O9 0), (56, .bool false)]) (by kernel_rfl) (fun L => ?_)));refine icw_f (by kernel_rfl) ?_;refine icw_skip (iqw_block ?_);exact iqw_next Bl ⟨(by omega), hE, B0, B3, B2, B4, B6, Ba, B7, Bb, Bk, b9, (by rw [htk, List.all_append, hall]; simp [Cn])⟩
      ·
       clear B0 B3 B2 B4 B6 Ba B7 Bb Bc Bk hE;intro Fb Er Dc E1 h Co;obtain ⟨E5, hE, B0, B3, B2, B4, B6, Ba, B7, Bb, Bk, b9, hall⟩ := h;rw [List.take_of_length_le (Nat.le_refl _)] at hall;refine iqw_block (iqw_then (icw_seq (icw_plain (iP (zE O9 0 (.bool true) (st4 b9.1 b9.2) b9 ?_)))));intro Ev ho b9 hk;replace hE := ho.ext hE (T (T Ci C9) (Nat.le_of_eq Bt));have q9 := ho.bx O1 (by omega);replace B0 := q9 B0;replace B3 := q9 B3;replace B2 := q9 B2;replace B4 := q9 B4;clear q9;have q9 := ho.bx O5 (by omega);replace B6 := q9 B6;replace Ba := q9 Ba;replace B7 := q9 B7;replace Bb := q9 Bb;clear q9;replace Bk := ho.cell (Nat.ne_of_lt (Nat.lt_of_lt_of_le Cd (T (T Bm (T Bo Bp)) Cz))) Bk;replace Co := mk_turn Co ho;have F2 := Nat.le_of_eq ho.size.symm;clear ho hk;refine ipl_nil (iqw_then (icw_ret ?_));refine iqw_ret w.heap.size [.bool true] rfl (marksC (by omega) Co (fun _ h => by cases h)) (by simp) (fun W9 hm9 => ?_);replace hE := hm9.ext hE (Nat.le_refl _);replace B0 := hm9.box B0;replace B3 := hm9.box B3;replace B2 := hm9.box B2;replace B4 := hm9.box B4;replace B6 := hm9.box B6;replace Ba := hm9.box Ba;replace B7 := hm9.box B7;replace Bb := hm9.box Bb;replace Bk := hm9.cell Bk;replace b9 := hm9.box b9;have Ee := hm9.size;refine ⟨⟨⟨_, by kernel_rfl, res_ld (ld4 (b9.1))⟩, trivial⟩, ?_⟩;have hov : Prod.overL ps qs = true := by rw [← overG_all hrd];exact hall
       exact ⟨rb (show Prod.overB id ver ar ps id2 ver2 ar2 qs = true by unfold Prod.overB; rw [Cr, Cj, decide_eq_true Cs, Cq, decide_eq_true (show ver2 < ver by omega), hov]; rfl).symm, hE⟩
      ·
       clear B0 B3 B2 B4 B6 Ba B7 Bb Bc Bk hE;intro Dk F3 i Fa Db E2 hii h D4;obtain ⟨rfl, Ez, hE, B0, B3, B2, B4, B6, Ba, B7, Bb, Bk, b9, hbad⟩ := h;refine icw_ret ?_;refine iqw_block_ret ?_;refine iqw_then_ret ?_;refine iqw_ret w.heap.size [.bool false] rfl (marksC (by omega) D4 (fun _ h => by cases h)) (by simp) (fun W9 hm9 => ?_);replace hE := hm9.ext hE (Nat.le_refl _);replace b9 := hm9.box b9;have Ey := hm9.size;refine ⟨⟨⟨_, by kernel_rfl, res_ld (ld4 (b9.1))⟩, trivial⟩, ?_⟩;exact ⟨rb (show Prod.overB id ver ar ps id2 ver2 ar2 qs = false by unfold Prod.overB; rw [hbad]; simp).symm, hE⟩
    ·
     refine iS (sc 87 #[.agg #[.slice a1 n1 c1], .agg #[.slice b1 m1 d1]] ((Same_q (r := false) _ _ _ (hA) hE (hB) hE Cq).mono ?_));rintro e Et ⟨rfl, hb⟩;refine mv2 hb hE Bc fun hE Bc=>?_;have En := hb.size;refine ⟨_, rfl, iT (.bool true) ?_⟩;refine iT (.bool true) ?_;refine iT (.bool true) ?_;refine iK ?_;refine iK ?_;refine iK ?_;refine iK ?_;refine iK ?_;refine iT (.bool true) ?_;refine ipl_nil (iqw_then (icw_clean [2, 3, 4, 38] (ws' := [(2, pw O1 0), (3, pw O5 0), (4, pw O9 0), (38, .bool true)]) (by kernel_rfl) (fun L => ?_)));refine icw_t (by kernel_rfl) ?_;refine icw_seq (icw_plain (iP (zE O9 0 (.bool false) (st4 Bc.1 Bc.2) Bc ?_)));intro Ew ho Bc hk;replace hE := ho.ext hE (T (T Ci C9) (Nat.le_of_eq Bt));have q9 := ho.bx O1 (by omega);clear q9;have q9 := ho.bx O5 (by omega);clear q9;have Ec := Nat.le_of_eq ho.size.symm;clear ho hk;refine ipl_nil (iqw_then (icw_ret ?_));refine iqw_then_ret ?_;refine iqw_ret0 [.bool false] rfl ⟨⟨_, by kernel_rfl, res_ld (ld4 (Bc.1))⟩, trivial⟩ ?_;exact ⟨rb (show Prod.overB id ver ar ps id2 ver2 ar2 qs = false by unfold Prod.overB; rw [Cq]; simp).symm, hE⟩
   ·
    refine iU (.bool true) (eM (id : Int) (id2 : Int) (Cs)) ?_;refine iT (.bool true) ?_;refine iT (.bool true) ?_;refine iK ?_;refine iK ?_;refine iK ?_;refine iK ?_;refine iK ?_;refine iK ?_;refine iT (.bool true) ?_;refine iT (.bool true) ?_;refine iK ?_;refine iK ?_;refine iK ?_;refine iK ?_;refine iK ?_;refine iT (.bool true) ?_;refine ipl_nil (iqw_then (icw_clean [2, 3, 4, 38] (ws' := [(2, pw O1 0), (3, pw O5 0), (4, pw O9 0), (38, .bool true)]) (by kernel_rfl) (fun L => ?_)));refine icw_t (by kernel_rfl) ?_;refine icw_seq (icw_plain (iP (zE O9 0 (.bool false) (st4 Bc.1 Bc.2) Bc ?_)));intro De ho Bc hk;replace hE := ho.ext hE (T (T Ci C9) (Nat.le_of_eq Bt));have q9 := ho.bx O1 (by omega);clear q9;have q9 := ho.bx O5 (by omega);clear q9;have Dw := Nat.le_of_eq ho.size.symm;clear ho hk;refine ipl_nil (iqw_then (icw_ret ?_));refine iqw_then_ret ?_;refine iqw_ret0 [.bool false] rfl ⟨⟨_, by kernel_rfl, res_ld (ld4 (Bc.1))⟩, trivial⟩ ?_;exact ⟨rb (show Prod.overB id ver ar ps id2 ver2 ar2 qs = false by unfold Prod.overB; rw [decide_eq_false Cs]; simp).symm, hE⟩
  ·
   refine iS (sc 28 #[.agg #[iv id2, iv ver2, .slice b1 m1 d1, .slice b m d]] ((pValid_r (id := id2) (ver := ver2) (r := false) _ _ (by omega) (aa_q (hB)) hE (hQ) hE (hT.ext hE) Cj).mono ?_));rintro e Dg ⟨rfl, hb⟩;refine mv2 hb hE Bc fun hE Bc=>?_;have Dp := hb.size;refine ⟨_, rfl, iT (.bool true) ?_⟩;refine iT (.bool true) ?_;refine iT (.bool true) ?_;refine iK ?_;refine iK ?_;refine iK ?_;refine iK ?_;refine iK ?_;refine iT (.bool true) ?_;refine iT (.bool true) ?_;refine iK ?_;refine iK ?_;refine iK ?_;refine iK ?_;refine iK ?_;refine iK ?_;refine iT (.bool true) ?_;refine iT (.bool true) ?_;refine iK ?_;refine iK ?_;refine iK ?_;refine iK ?_;refine iK ?_;refine iT (.bool true) ?_;refine ipl_nil (iqw_then (icw_clean [2, 3, 4, 38] (ws' := [(2, pw O1 0), (3, pw O5 0), (4, pw O9 0), (38, .bool true)]) (by kernel_rfl) (fun L => ?_)));refine icw_t (by kernel_rfl) ?_;refine icw_seq (icw_plain (iP (zE O9 0 (.bool false) (st4 Bc.1 Bc.2) Bc ?_)));intro Dj ho Bc hk;replace hE := ho.ext hE (T (T Ci C9) (Nat.le_of_eq Bt));have q9 := ho.bx O1 (by omega);clear q9;have q9 := ho.bx O5 (by omega);clear q9;have Do := Nat.le_of_eq ho.size.symm;clear ho hk;refine ipl_nil (iqw_then (icw_ret ?_));refine iqw_then_ret ?_;refine iqw_ret0 [.bool false] rfl ⟨⟨_, by kernel_rfl, res_ld (ld4 (Bc.1))⟩, trivial⟩ ?_;exact ⟨rb (show Prod.overB id ver ar ps id2 ver2 ar2 qs = false by unfold Prod.overB; rw [Cj]; simp).symm, hE⟩
 ·
  refine iS (sc 28 #[.agg #[iv id, iv ver, .slice a1 n1 c1, .slice a n c]] ((pValid_r (id := id) (ver := ver) (r := false) _ _ (by omega) (aa_q (hA)) hE (hP) hE (hT.ext hE) Cr).mono ?_));rintro e Da ⟨rfl, hb⟩;refine mv2 hb hE Bc fun hE Bc=>?_;have Dt := hb.size;refine ⟨_, rfl, iT (.bool true) ?_⟩;refine iT (.bool true) ?_;refine iK ?_;refine iK ?_;refine iK ?_;refine iT (.bool true) ?_;refine iT (.bool true) ?_;refine iK ?_;refine iK ?_;refine iK ?_;refine iK ?_;refine iK ?_;refine iT (.bool true) ?_;refine iT (.bool true) ?_;refine iK ?_;refine iK ?_;refine iK ?_;refine iK ?_;refine iK ?_;refine iK ?_;refine iT (.bool true) ?_;refine iT (.bool true) ?_;refine iK ?_;refine iK ?_;refine iK ?_;refine iK ?_;refine iK ?_;refine iT (.bool true) ?_;refine ipl_nil (iqw_then (icw_clean [2, 3, 4, 38] (ws' := [(2, pw O1 0), (3, pw O5 0), (4, pw O9 0), (38, .bool true)]) (by kernel_rfl) (fun L => ?_)));refine icw_t (by kernel_rfl) ?_;refine icw_seq (icw_plain (iP (zE O9 0 (.bool false) (st4 Bc.1 Bc.2) Bc ?_)));intro Dd ho Bc hk;replace hE := ho.ext hE (T (T Ci C9) (Nat.le_of_eq Bt));have q9 := ho.bx O1 (by omega);clear q9;have q9 := ho.bx O5 (by omega);clear q9;have Dr := Nat.le_of_eq ho.size.symm;clear ho hk;refine ipl_nil (iqw_then (icw_ret ?_));refine iqw_then_ret ?_;refine iqw_ret0 [.bool false] rfl ⟨⟨_, by kernel_rfl, res_ld (ld4 (Bc.1))⟩, trivial⟩ ?_;exact ⟨rb (show Prod.overB id ver ar ps id2 ver2 ar2 qs = false by unfold Prod.overB; rw [Cr]; simp).symm, hE⟩
end Go.Proofs.YtajdohcgjgknmaaGreatDoor

namespace Go.Proofs.YtajdohcgjgknmaaGreatDoor
open Go.RowKit
theorem rpick31_c (c n : Int) (w : World) (hc : IsI c) (h0 : 0 < n) (h1 : n ≤ 100000000) : Calls Tryz.prog 39 #[.int .i64 c, .int .i64 n] w fun e w' => e = .returned (.int .i64 (pickF c n)) ∧ w = w' := by
  obtain ⟨h2, h3⟩ := hc
  by_cases h : c < 0
  · go_enter Tryz.func39, Tryz.ntmps39
    go_wp2
    go_ret
    exact ⟨ret_int (by rw [pickF_neg h, ← Int.neg_tmod, Int.tmod_eq_emod_of_nonneg (by omega)]), rfl⟩
  · have h' : 0 ≤ c := by omega
    go_enter Tryz.func39, Tryz.ntmps39
    go_wp2
    go_ret
    exact ⟨ret_int (by rw [pickF_pos h']), rfl⟩
theorem rpick31N_c (c : Int) (n : Nat) (w : World) (hc : IsI c) (h0 : 0 < n) (h1 : n ≤ 100000000) : Calls Tryz.prog 39 #[.int .i64 c, .int .i64 n] w fun e w' => ∃ k : Nat, e = .returned (.int .i64 k) ∧ k < n ∧ pickF c n = (k : Int) ∧ w = w' :=
 (rpick31_c c n w hc (by omega) (by omega)).mono fun e w' ⟨he, hw⟩ => by
  have hb := pickF_bd (c := c) (n := (n : Int)) (by omega)
  obtain ⟨k, hk⟩ : ∃ k : Nat, pickF c n = (k : Int) := ⟨(pickF c n).toNat, by omega⟩
  exact ⟨k, by rw [he, hk], by omega, hk, hw⟩
theorem pick31_c (c n : Int) (w : World) (hc : IsI c) (h0 : 0 < n) (h1 : n ≤ 100000000) : Calls Tryz.prog 24 #[.int .i64 c, .int .i64 n] w fun e w' => e = .returned (.int .i64 (pickF c n)) ∧ w = w' := by
  obtain ⟨h2, h3⟩ := hc
  by_cases h : c < 0
  · go_enter Tryz.func24, Tryz.ntmps24
    go_wp2
    go_ret
    exact ⟨ret_int (by rw [pickF_neg h, ← Int.neg_tmod, Int.tmod_eq_emod_of_nonneg (by omega)]), rfl⟩
  · have h' : 0 ≤ c := by omega
    go_enter Tryz.func24, Tryz.ntmps24
    go_wp2
    go_ret
    exact ⟨ret_int (by rw [pickF_pos h']), rfl⟩
theorem pick31N_c (c : Int) (n : Nat) (w : World) (hc : IsI c) (h0 : 0 < n) (h1 : n ≤ 100000000) : Calls Tryz.prog 24 #[.int .i64 c, .int .i64 n] w fun e w' => ∃ k : Nat, e = .returned (.int .i64 k) ∧ k < n ∧ pickF c n = (k : Int) ∧ w = w' :=
 (pick31_c c n w hc (by omega) (by omega)).mono fun e w' ⟨he, hw⟩ => by
  have hb := pickF_bd (c := c) (n := (n : Int)) (by omega)
  obtain ⟨k, hk⟩ : ∃ k : Nat, pickF c n = (k : Int) := ⟨(pickF c n).toNat, by omega⟩
  exact ⟨k, by rw [he, hk], by omega, hk, hw⟩
def QAt (w : World) (a : Option Addr) (n : Nat) (q : Nat → Nat → Int) : Prop :=
 n = 0 ∨ ∃ b off, a = some ⟨b, off, none⟩ ∧ ∀ i, i < n → ∀ j, j < 4 → w.cell? ⟨b, off + i * 4 + j, none⟩ = some (.int .i64 (q i j)) ∧ IsI (q i j)
theorem QAt.ext {w w' : World} {a : Option Addr} {n : Nat} {q : Nat → Nat → Int} (h : QAt w a n q) (hE : Ext w w') : QAt w' a n q :=
 h.imp id fun ⟨b, off, ha, hc⟩ => ⟨b, off, ha, fun i hi j hj => ⟨hE.cell (hc i hi j hj).1, (hc i hi j hj).2⟩⟩
def sh (q : Nat → Nat → Int) (k : Nat) : Nat → Nat → Int := fun i j => q (k + i) j
theorem QAt.sub {w : World} {b off n : Nat} {q : Nat → Nat → Int} (h : ∀ i, i < n → ∀ j, j < 4 → w.cell? ⟨b, off + i * 4 + j, none⟩ = some (.int .i64 (q i j)) ∧ IsI (q i j)) {i m : Nat} (hm : i + m ≤ n) : QAt w (some ⟨b, off + i * 4, none⟩) m (sh q i) :=
 .inr ⟨b, off + i * 4, rfl, fun r hr j hj => by
  have := h (i + r) (by omega) j hj
  rw [show off + (i + r) * 4 + j = off + i * 4 + r * 4 + j by omega] at this
  exact this⟩
def MkA (w : World) (O B : Nat) (wr : World) : Prop :=
 (∃ L, Globe.validL L = true ∧ RowsAt wr B L) ∧ wr.cell? ⟨O, 0, none⟩ = some (.slice (some ⟨B, 0, none⟩) 24 24) ∧ BoxAt wr w.heap.size 0 (.slice none 0 0) ∧ Ext w wr
def RetAr (w : World) (e : Ending) (w' : World) : Prop :=
 ∃ (B : Nat) (L : List Int), e = .returned (.agg #[.slice (some ⟨B, 0, none⟩) 24 24]) ∧ w.heap.size ≤ B ∧ Globe.validL L = true ∧ RowsAt w' B L ∧ Ext w w'
set_option maxRecDepth 100000 in
set_option maxHeartbeats 8000000 in
theorem Area_c {w0 : World} {a : Option Addr} {n : Nat} (c : Nat) {q : Nat → Nat → Int} (w : World) (h : QAt w0 a n q) (hE0 : Ext w0 w) (hn : n ≤ 9223372036854775807) :
    Calls Tryz.prog 6 #[.slice a n c] w (RetAr w) := by
  have H := Lib.hid (h.ext hE0); clear h hE0
  go_enter Tryz.func6, Tryz.ntmps6
  go_wp2_with (go_at_call 38; refine (rEmpty_c _).mono ?_; rintro e w2 ⟨B, rfl, hB, hr, Bo⟩)
  obtain ⟨O, hO⟩ : ∃ O, O = w2.heap.size := ⟨_, rfl⟩
  have hBO : B < O := by have := hr.lt; omega
  have hwB : w.heap.size < B := by simp at hB; omega
  refine wp_name (fun V => MkA w O B V) ⟨⟨_, (by decide : Globe.validL Globe.zeroL = true), ?_⟩, ?_, ?_, ?_⟩ ?_
  · exact hr.ext (by (repeat' (first | (with_reducible assumption) | (with_reducible exact Ext.refl _) | (with_reducible refine Ext.alloc ?_ _) | (with_reducible refine Ext.drew ?_) | (with_reducible refine Ext.drewN ?_ _) | (with_reducible refine Ext.setCell ?_ ?_ _) | (with_reducible refine Ext.trans ?_ (by assumption)) | go_size)))
  · rw [hO]; simp [go_sem]
  · (repeat' (first | (with_reducible assumption) | (exact ⟨by simp [go_sem], by simp [go_sem]⟩) | (with_reducible refine BoxAt.ext (Ext.alloc (Ext.refl _) _) ?_) | (with_reducible refine BoxAt.ext (by with_reducible assumption) ?_)))
  · (repeat' (first | (with_reducible assumption) | (with_reducible exact Ext.refl _) | (with_reducible refine Ext.alloc ?_ _) | (with_reducible refine Ext.drew ?_) | (with_reducible refine Ext.drewN ?_ _) | (with_reducible refine Ext.setCell ?_ ?_ _) | (with_reducible refine Ext.trans ?_ (by assumption)) | go_size))
  intro V hF
  rw [← hO]
  clear hO hr Bo hB
  go_loopw [4] (fun p wr => ∃ i : Nat, i ≤ n ∧ i ≤ 3 ∧ p = .int .i64 i ∧ MkA w O B wr) (fun p _ => 3 - (intOf p).toNat)
  case atStart => exact ⟨0, by omega, by omega, rfl, hF⟩
  case round =>
    clear hF
    obtain ⟨i, hi, Bq, rfl, hF⟩ := hrel
    by_cases hlt : i < n ∧ i < 3
    · obtain ⟨B2, Bp⟩ := hlt
      obtain ⟨b, off, rfl, hq⟩ : ∃ b off, a = some ⟨b, off, none⟩ ∧ ∀ i, i < n → ∀ j, j < 4 → w.cell? ⟨b, off + i * 4 + j, none⟩ = some (.int .i64 (q i j)) ∧ IsI (q i j) := H.out.resolve_left (by omega)
      have B4 : w.cell? ⟨b, off + i * 4, none⟩ = some (.int .i64 (q i 0)) := (hq i B2 0 (by omega)).1
      have Bj := (hq i B2 1 (by omega)).1
      have B6 := (hq i B2 2 (by omega)).1
      have Bk := (hq i B2 3 (by omega)).1
      have I0 := Lib.hid (hq i B2 0 (by omega)).2
      have I1 := Lib.hid (hq i B2 1 (by omega)).2
      have I2 := Lib.hid (hq i B2 2 (by omega)).2
      have I3 := Lib.hid (hq i B2 3 (by omega)).2
      clear hq
      have hbl : b < w.heap.size := World.block_lt_of_cell? w _ B4
      have i0 : (0 : Int) ≤ (i : Int) := by omega
      have i1 : (i : Int) < (n : Int) := by omega
      have i2 : (i : Int) < 3 := by omega
      obtain ⟨h0, h1⟩ := @pickF_bd (q i 3) 3 (by omega)
      obtain ⟨g0, g1⟩ := @pickF_bd (q i 2) 5 (by omega)
      obtain ⟨y0, y1⟩ := @pickF_bd (q i 1) 4 (by omega)
      obtain ⟨x0, x1⟩ := @pickF_bd (q i 0) 7 (by omega)
      obtain ⟨wo, rfl⟩ : ∃ wo : World, wo = wr := ⟨_, rfl⟩
      go_wp2_with fail
      go_loopw [5] (fun p wr => ∃ y : Nat, (y : Int) ≤ pickF (q i 3) 3 + 1 ∧ p = .int .i64 y ∧ MkA w O B wr) (fun p _ => 4 - (intOf p).toNat)
      case atStart => exact ⟨0, by omega, rfl, hF⟩
      case round =>
        clear hF
        obtain ⟨y, hy, rfl, hF⟩ := hrel
        have hE := hF.2.2.2
        have q2 := hE.cell B6
        have q3 := hE.cell Bk
        by_cases hly : (y : Int) ≤ pickF (q i 3) 3
        · go_wp2_with (go_at_call 39; refine (rpick31_c _ _ _ I3.out (by omega) (by omega)).mono ?_; rintro e w' ⟨rfl, rfl⟩)
          obtain ⟨Bb, rfl⟩ : ∃ Bb : World, Bb = wr := ⟨_, rfl⟩
          clear q2 q3
          go_loopw [6] (fun p wr => ∃ k : Nat, (k : Int) ≤ pickF (q i 2) 5 + 1 ∧ p = .int .i64 k ∧ MkA w O B wr) (fun p _ => 6 - (intOf p).toNat)
          case atStart => exact ⟨0, by omega, rfl, hF⟩
          case round =>
            clear hF hE
            obtain ⟨k, hk, rfl, hF⟩ := hrel
            have hE := hF.2.2.2
            have q0 := hE.cell B4
            have q1 := hE.cell Bj
            have q2 := hE.cell B6
            by_cases hlk : (k : Int) ≤ pickF (q i 2) 5
            · go_wp2_with (go_at_call 39; refine (rpick31_c _ _ _ (by first | exact I1.out | exact I2.out) (by omega) (by omega)).mono ?_; rintro e w' ⟨rfl, rfl⟩)
              obtain ⟨C, hC⟩ : ∃ C : Nat, pickF (q i 0) 7 + (k : Int) = (C : Int) := ⟨(pickF (q i 0) 7 + (k : Int)).toNat, by omega⟩
              obtain ⟨Y, hY⟩ : ∃ Y : Nat, pickF (q i 1) 4 + (y : Int) = (Y : Int) := ⟨(pickF (q i 1) 4 + (y : Int)).toNat, by omega⟩
              have Ba : IntKind.i64.wrap (pickF (q i 0) 7 + (k : Int)) = (C : Int) := by rw [IntKind.wrap_i64]; omega
              have Bc : IntKind.i64.wrap (pickF (q i 1) 4 + (y : Int)) = (Y : Int) := by rw [IntKind.wrap_i64]; omega
              have B3 : C < 48 := by omega
              have B0 : Y < 24 := by omega
              try rw [hY] at *
              have KC := Lib.hid Ba
              have KY := Lib.hid Bc
              clear Ba Bc hC hY
              obtain ⟨⟨L, hvl, hr⟩, cO, b2, Bm⟩ := hF
              have hR := Globe.rowN_lt hvl Y
              have d3 : wr.cell? ⟨B, Y, none⟩ = some (.int .i64 (Globe.rowN L Y : Nat)) := by rw [← Globe.rowN_cast hvl]; exact hr.cell B0
              have d4 := hr.free B0
              have hbB : b ≠ B := by omega
              have hOB : O ≠ B := by omega
              obtain ⟨s0, s1, s2⟩ := p2_shl (n := C) (by omega)
              have s3 : bits .or .i64 (Globe.rowN L Y : Nat) (p2 C : Nat) = ((Globe.rowN L Y ||| p2 C : Nat) : Int) := or_i64 _ _ (by omega) (by omega)
              have z0 : (0 : Int) ≤ (Y : Int) := by omega
              have z1 : (Y : Int) < 24 := by omega
              have c0 : (0 : Int) ≤ (C : Int) := by omega
              have HV := Lib.hid (show Globe.validL (L.set Y ((Globe.rowN L Y ||| p2 C : Nat) : Int)) = true from Globe.valid_put hvl B3)
              clear hvl s1 s2 hR
              have Hr := Lib.hid hr; clear hr
              have B7 := Lib.hid Bm; clear Bm
              generalize Globe.rowN L Y ||| p2 C = RO at *
              generalize Globe.rowN L Y = R0 at *
              clear B4 Bj B6 Bk q2 hE
              refine wg_begin [(some 47, [3], []), (some 48, [47], [0]), (some 49, [7], []), (some 50, [3], []), (some 51, [50], [3]), (some 52, [7], []), (some 53, [51, 52], [4, 5]), (some 54, [53], [6]), (some 55, [0], []), (some 56, [4], []), (some 57, [55, 56], [8, 9]), (some 58, [57], [10]), (some 59, [58], [11]), (some 60, [59], [12]), (some 61, [6], []), (some 62, [60, 61], [13, 14]), (some 63, [62], [15]), (some 64, [54, 63], [7, 16]), (some 65, [48, 49], [1, 2, 0, 1, 2, 3, 4, 5, 6, 7, 8, 9, 10, 11, 12, 13, 14, 15, 16, 17]), (none, [65, 64], [18, 17, 13, 0, 1, 2, 3, 4, 5, 6, 7, 8, 9, 10, 11, 12, 13, 14, 15, 16, 17])] (fun w' => w'.cell? ⟨O, 0, none⟩ = some (.slice (some ⟨B, 0, none⟩) 24 24) ∧ w'.cell? ⟨b, off + i * 4, none⟩ = some (.int .i64 (q i 0))) (by kernel_rfl) (by kernel_rfl) (by kernel_rfl) (by kernel_rfl) (by intro c d v a w h; cases d <;> first | exact h | (exact nomatch h.1) | (dsimp +zetaDelta only [Exit.then, Exit.inBlock] at h ⊢; exact h)) (⟨cO, q0⟩) (fun ops Q L hL hR hK hHeld => ?_); replace hL := Lib.hid hL; have Bl := @evalW_tmp; have Be := @evalW_const; have Bh := @evalW_func; have Bf := @look_cons; have Bi := @look_nil
              have r3 := wg_read hL.out 3 rfl
              have r7 := wg_read hL.out 7 rfl
              have r0 := wg_read hL.out 0 rfl
              have r4 := wg_read hL.out 4 rfl
              have r6 := wg_read hL.out 6 rfl
              (refine wg_take 0 (v := ?_) hR rfl (by kernel_rfl) (by kernel_rfl) ?_ (by with_reducible assumption) ?_; rotate_left; (focus (intro w hSw; (try dsimp only at hSw); go_simp; (try with_reducible rfl))); (dsimp only [putW]))
              (refine wg_take 1 (v := ?_) hR rfl (by kernel_rfl) (by kernel_rfl) ?_ (by with_reducible assumption) ?_; rotate_left; (focus (intro w hSw; (try dsimp only at hSw); go_simp; (try with_reducible rfl))); (dsimp only [putW]))
              (refine wg_take 2 (v := ?_) hR rfl (by kernel_rfl) (by kernel_rfl) ?_ (by with_reducible assumption) ?_; rotate_left; (focus (intro w hSw; (try dsimp only at hSw); go_simp; (try with_reducible rfl))); (dsimp only [putW]))
              (refine wg_take 3 (v := ?_) hR rfl (by kernel_rfl) (by kernel_rfl) ?_ (by with_reducible assumption) ?_; rotate_left; (focus (intro w hSw; (try dsimp only at hSw); go_simp; (try with_reducible rfl))); (dsimp only [putW]))
              (refine wg_take 4 (v := ?_) hR rfl (by kernel_rfl) (by kernel_rfl) ?_ (by with_reducible assumption) ?_; rotate_left; (focus (intro w hSw; (try dsimp only at hSw); go_simp; (try with_reducible rfl))); (dsimp only [putW]))
              (refine wg_take 5 (v := ?_) hR rfl (by kernel_rfl) (by kernel_rfl) ?_ (by with_reducible assumption) ?_; rotate_left; (focus (intro w hSw; (try dsimp only at hSw); go_simp; (try with_reducible rfl))); (dsimp only [putW]))
              (refine wg_take 6 (v := ?_) hR rfl (by kernel_rfl) (by kernel_rfl) ?_ (by with_reducible assumption) ?_; rotate_left; (focus (intro w hSw; (try dsimp only at hSw); go_simp; (try with_reducible rfl))); (dsimp only [putW]))
              (refine wg_take 8 (v := ?_) hR rfl (by kernel_rfl) (by kernel_rfl) ?_ (by with_reducible assumption) ?_; rotate_left; (focus (intro w hSw; (try dsimp only at hSw); go_simp; (try with_reducible rfl))); (dsimp only [putW]))
              (refine wg_take 9 (v := ?_) hR rfl (by kernel_rfl) (by kernel_rfl) ?_ (by with_reducible assumption) ?_; rotate_left; (focus (intro w hSw; (try dsimp only at hSw); go_simp; (try with_reducible rfl))); (dsimp only [putW]))
              (refine wg_take 10 (v := ?_) hR rfl (by kernel_rfl) (by kernel_rfl) ?_ (by with_reducible assumption) ?_; rotate_left; (focus (intro w hSw; (try dsimp only at hSw); go_simp; (try with_reducible rfl))); (dsimp only [putW]))
              (refine wg_take 11 (v := ?_) hR rfl (by kernel_rfl) (by kernel_rfl) ?_ (by with_reducible assumption) ?_; rotate_left; (focus (intro w hSw; (try dsimp only at hSw); go_simp; (try with_reducible rfl))); (dsimp only [putW]))
              (refine wg_take 12 (v := ?_) hR rfl (by kernel_rfl) (by kernel_rfl) ?_ (by with_reducible assumption) ?_; rotate_left; (focus (intro w hSw; (try dsimp only at hSw); go_simp; (try with_reducible rfl))); (dsimp only [putW]))
              (refine wg_take 14 (v := ?_) hR rfl (by kernel_rfl) (by kernel_rfl) ?_ (by with_reducible assumption) ?_; rotate_left; (focus (intro w hSw; (try dsimp only at hSw); go_simp; (try with_reducible rfl))); (dsimp only [putW]))
              refine wg_two 7 13 hR rfl rfl (by kernel_rfl) (by kernel_rfl) (by kernel_rfl) (by kernel_rfl) ?_ ?_
              · (refine wg_eff (v := ?_) (w' := ?_) ?_ ?_ ?_; rotate_left; rotate_left; (focus (go_simp; first | done | (with_reducible rfl) | (refine ⟨?_, ?_⟩ <;> with_reducible rfl))); (focus (exact hHeld)); intro hHeld; (dsimp only [putW]))
                (refine wg_step 13 hR rfl (by kernel_rfl) (by kernel_rfl) ?_ (by kernel_rfl); refine wg_call (f := 39) (args := ?_) ?_ ?_; rotate_left; (focus (go_simp; first | done | (with_reducible rfl) | (refine ⟨?_, ?_⟩ <;> with_reducible rfl))); (go_at_call 39; refine (rpick31_c _ _ _ I0.out (by omega) (by omega)).mono ?_; rintro e w' ⟨rfl, rfl⟩); refine ⟨_, rfl, hHeld, fun hHeld => ?_⟩; (dsimp only [putW]))
                (refine wg_take 15 (v := ?_) hR rfl (by kernel_rfl) (by kernel_rfl) ?_ (by with_reducible assumption) ?_; rotate_left; (focus (intro w hSw; (try dsimp only at hSw); have k0 := KC.out; go_simp; (try with_reducible rfl))); (dsimp only [putW]))
                (refine wg_take 16 (v := ?_) hR rfl (by kernel_rfl) (by kernel_rfl) ?_ (by with_reducible assumption) ?_; rotate_left; (focus (intro w hSw; (try dsimp only at hSw); go_simp; (try with_reducible rfl))); (dsimp only [putW]))
                (refine wg_take 17 (v := ?_) hR rfl (by kernel_rfl) (by kernel_rfl) ?_ (by with_reducible assumption) ?_; rotate_left; (focus (intro w hSw; (try dsimp only at hSw); go_simp; (try with_reducible rfl))); (dsimp only [putW]))
                (refine wg_take 18 (v := ?_) hR rfl (by kernel_rfl) (by kernel_rfl) ?_ (by with_reducible assumption) ?_; rotate_left; (focus (intro w hSw; (try dsimp only at hSw); go_simp; (try with_reducible rfl))); (dsimp only [putW]))
                (refine wg_step 19 hR rfl (by kernel_rfl) (by kernel_rfl) ?_ (by kernel_rfl); refine wg_skp (w' := ?_) ?_ ?_ ?_; rotate_left; (focus (go_simp; first | done | (with_reducible rfl))); (focus (exact ⟨(World.cell?_setCell_other _ _ _ _ (fun e => hOB (congrArg Addr.block e).symm)).trans hHeld.1, (World.cell?_setCell_other _ _ _ _ (fun e => hbB (congrArg Addr.block e).symm)).trans hHeld.2⟩)); intro hHeld; (dsimp only [putW]))
                refine wg_fin hR hK [(47, 18), (0, 17), (0, 16), (0, 15), (0, 14), (0, 13), (0, 12), (0, 5), (0, 11), (0, 10), (0, 9), (0, 8), (0, 7), (0, 4), (0, 6), (0, 3), (0, 2), (0, 1), (0, 0)] (by kernel_rfl) (by kernel_rfl) (by dsimp only [mg, gsOf, valAt]) ?_; clear Bl Be Bh Bf Bi hR hK hL
                clear r3; clear r7; clear r0; clear r4; clear r6
                go_wp2
                go_roundw
                case rel => exact ⟨k + 1, by omega, by go_num, ⟨_, HV.out, (Hr.out.drew).set B0 _⟩, hHeld.1, b2.drew.other (p := ⟨B, Y, none⟩) (by show B ≠ _; omega) _, Ext.setCell (Ext.drew B7.out) (p := ⟨B, Y, none⟩) (by show _ ≤ B; omega) _⟩
                case measure => simp [intOf]; omega
              · (refine wg_call (f := 39) (args := ?_) ?_ ?_; rotate_left; (focus (go_simp; first | done | (with_reducible rfl) | (refine ⟨?_, ?_⟩ <;> with_reducible rfl))); (go_at_call 39; refine (rpick31_c _ _ _ I0.out (by omega) (by omega)).mono ?_; rintro e w' ⟨rfl, rfl⟩); refine ⟨_, rfl, hHeld, fun hHeld => ?_⟩; (dsimp only [putW]))
                (refine wg_take 15 (v := ?_) hR rfl (by kernel_rfl) (by kernel_rfl) ?_ (by with_reducible assumption) ?_; rotate_left; (focus (intro w hSw; (try dsimp only at hSw); have k0 := KC.out; go_simp; (try with_reducible rfl))); (dsimp only [putW]))
                (refine wg_take 16 (v := ?_) hR rfl (by kernel_rfl) (by kernel_rfl) ?_ (by with_reducible assumption) ?_; rotate_left; (focus (intro w hSw; (try dsimp only at hSw); go_simp; (try with_reducible rfl))); (dsimp only [putW]))
                (refine wg_step 7 hR rfl (by kernel_rfl) (by kernel_rfl) ?_ (by kernel_rfl); refine wg_eff (v := ?_) (w' := ?_) ?_ ?_ ?_; rotate_left; rotate_left; (focus (go_simp; first | done | (with_reducible rfl) | (refine ⟨?_, ?_⟩ <;> with_reducible rfl))); (focus (exact hHeld)); intro hHeld; (dsimp only [putW]))
                (refine wg_take 17 (v := ?_) hR rfl (by kernel_rfl) (by kernel_rfl) ?_ (by with_reducible assumption) ?_; rotate_left; (focus (intro w hSw; (try dsimp only at hSw); go_simp; (try with_reducible rfl))); (dsimp only [putW]))
                (refine wg_take 18 (v := ?_) hR rfl (by kernel_rfl) (by kernel_rfl) ?_ (by with_reducible assumption) ?_; rotate_left; (focus (intro w hSw; (try dsimp only at hSw); go_simp; (try with_reducible rfl))); (dsimp only [putW]))
                (refine wg_step 19 hR rfl (by kernel_rfl) (by kernel_rfl) ?_ (by kernel_rfl); refine wg_skp (w' := ?_) ?_ ?_ ?_; rotate_left; (focus (go_simp; first | done | (with_reducible rfl))); (focus (exact ⟨(World.cell?_setCell_other _ _ _ _ (fun e => hOB (congrArg Addr.block e).symm)).trans hHeld.1, (World.cell?_setCell_other _ _ _ _ (fun e => hbB (congrArg Addr.block e).symm)).trans hHeld.2⟩)); intro hHeld; (dsimp only [putW]))
                refine wg_fin hR hK [(47, 18), (0, 17), (0, 16), (0, 15), (0, 14), (0, 13), (0, 12), (0, 2), (0, 11), (0, 10), (0, 9), (0, 8), (0, 7), (0, 5), (0, 6), (0, 4), (0, 3), (0, 1), (0, 0)] (by kernel_rfl) (by kernel_rfl) (by dsimp only [mg, gsOf, valAt]) ?_; clear Bl Be Bh Bf Bi hR hK hL
                clear r3; clear r7; clear r0; clear r4; clear r6
                go_wp2
                go_roundw
                case rel => exact ⟨k + 1, by omega, by go_num, ⟨_, HV.out, (Hr.out.drew).set B0 _⟩, hHeld.1, b2.drew.other (p := ⟨B, Y, none⟩) (by show B ≠ _; omega) _, Ext.setCell (Ext.drew B7.out) (p := ⟨B, Y, none⟩) (by show _ ≤ B; omega) _⟩
                case measure => simp [intOf]; omega
            · go_wp2_with (go_at_call 39; refine (rpick31_c _ _ _ I2.out (by omega) (by omega)).mono ?_; rintro e w' ⟨rfl, rfl⟩)
              go_roundw
              case rel => exact ⟨y + 1, by omega, by go_num, hF⟩
              case measure => simp [intOf]; omega
        · go_wp2_with (go_at_call 39; refine (rpick31_c _ _ _ I3.out (by omega) (by omega)).mono ?_; rintro e w' ⟨rfl, rfl⟩)
          go_roundw
          case rel => exact ⟨i + 1, by omega, by omega, by go_num, hF⟩
          case measure => simp [intOf]; omega
    · obtain ⟨⟨L, hv, hr⟩, cO, ⟨c2, f2⟩, hE⟩ := hF
      have Bg := hr.other (p := ⟨w.heap.size, 0, none⟩) (by show w.heap.size ≠ B; omega) (.slice (some ⟨B, 0, none⟩) 24 24)
      by_cases hln : i < n
      · have j1 : (i : Int) < (n : Int) := by omega
        have j2 : ¬ (i : Int) < 3 := by omega
        go_wp2_with fail
        exact bodyPost_ret (v := .agg #[.slice (some ⟨B, 0, none⟩) 24 24]) (by simp [results, Tryz.results6, go_sem, c2]) rfl ⟨B, L, rfl, by omega, hv, Bg, by (repeat' (first | (with_reducible assumption) | (with_reducible exact Ext.refl _) | (with_reducible refine Ext.alloc ?_ _) | (with_reducible refine Ext.drew ?_) | (with_reducible refine Ext.drewN ?_ _) | (with_reducible refine Ext.setCell ?_ ?_ _) | (with_reducible refine Ext.trans ?_ (by assumption)) | go_size))⟩
      · have j1 : ¬ (i : Int) < (n : Int) := by omega
        go_wp2_with fail
        exact bodyPost_ret (v := .agg #[.slice (some ⟨B, 0, none⟩) 24 24]) (by simp [results, Tryz.results6, go_sem, c2]) rfl ⟨B, L, rfl, by omega, hv, Bg, by (repeat' (first | (with_reducible assumption) | (with_reducible exact Ext.refl _) | (with_reducible refine Ext.alloc ?_ _) | (with_reducible refine Ext.drew ?_) | (with_reducible refine Ext.drewN ?_ _) | (with_reducible refine Ext.setCell ?_ ?_ _) | (with_reducible refine Ext.trans ?_ (by assumption)) | go_size))⟩
instance {w w' : World} {a : Option Addr} {n : Nat} {q : Nat → Nat → Int} : MvC w w' (QAt w a n q) (QAt w' a n q) := ⟨fun e h => h.ext e⟩
end Go.Proofs.YtajdohcgjgknmaaGreatDoor

namespace Go.Proofs.YtajdohcgjgknmaaGreatDoor
set_option maxRecDepth 1000000
set_option maxHeartbeats 4000000
set_option synthInstance.maxHeartbeats 0
set_option synthInstance.maxSize 9999
open Go.RowKit
def Tz40_0 : List Row := [(some 15, [3], []), (some 16, [4], []), (some 17, [16], [1]), (some 18, [0], []), (some 19, [4], []), (some 20, [18, 19], [3, 4]), (some 21, [20], [5]), (some 22, [21], [6]), (some 23, [22], [7]), (some 24, [23], [8]), (some 25, [24], [9]), (some 26, [0], []), (some 27, [4], []), (some 28, [26, 27], [11, 12]), (some 29, [28], [13]), (some 30, [29], [14]), (some 31, [30], [15]), (some 32, [31], [16, 9]), (some 33, [32], [17]), (some 34, [0], []), (some 35, [4], []), (some 36, [4], []), (some 37, [36], [21]), (some 38, [34, 35, 37], [19, 20, 22]), (some 39, [38], [23, 17]), (some 40, [17, 25, 33, 39], [2, 10, 18, 24]), (some 41, [40], [25]), (some 42, [15, 41], [0, 26, 24]), (some 3, [42], [27, 27, 0, 1, 2, 3, 4, 5, 6, 7, 8, 9, 10, 11, 12, 13, 14, 15, 16, 17, 18, 19, 20, 21, 22, 23, 24, 25, 26, 27])]
theorem OwnL.cap {α : Type} {R : Rep α} {n₀ : Nat} {e : TypeId} {size : Nat} {a : Option Addr} {n c : Nat} {w : World} {l : List α} (h : OwnL R n₀ e size (.slice a n c) w l) (hl : l.length = n) : n ≤ c := by
 obtain ⟨cs, h1, h2, h3, h4⟩ := h
 rcases h3.2 with ⟨q, q2⟩ | ⟨g, cap, cur, q, _, _, hc, _⟩
 · injection q with r1 r2 r3; omega
 · injection q with r1 r2 r3; omega
theorem hasIm_of {l : List Prod.Pc} {im : Int} (h : ∀ q ∈ l, q.im ≠ im) : Prod.hasIm l im = false := by
  cases hh : Prod.hasIm l im
  · rfl
  · unfold Prod.hasIm at hh
    rw [List.any_eq_true] at hh
    obtain ⟨q, hq, e⟩ := hh
    exact absurd (by simpa using e) (h q hq)
theorem goodGo_of : ∀ {l pre : List Prod.Pc}, (∀ p ∈ l, Prod.okP p = true) → Prod.Dist l → (∀ p ∈ l, ∀ q ∈ pre, q.im ≠ p.im) → Prod.goodGo pre l = true
  | [], _, _, _, _ => rfl
  | x :: l, pre, h1, h2, h3 => by
    obtain ⟨d1, d2⟩ := Prod.Dist.cons.1 h2
    rw [Prod.goodGo, h1 x (by simp), hasIm_of (h3 x (by simp)), goodGo_of (fun p hp => h1 p (by simp [hp])) d2 (fun p hp q hq => ?_)]
    · rfl
    · rcases List.mem_append.1 hq with hq | hq
      · exact h3 p (by simp [hp]) q hq
      · rw [List.mem_singleton.1 hq]; exact d1 p hp
theorem goodL_of {l : List Prod.Pc} (h : ∀ p ∈ l, Prod.okP p = true) (hd : Prod.Dist l) : Prod.goodL l = true := goodGo_of h hd (fun _ _ q hq => by cases hq)
theorem eqb_nat (k m : Nat) : (((k : Nat) : Int) == ((m : Nat) : Int)) = decide (k = m) := by
 by_cases h : k = m
 · subst h; simp
 · rw [decide_eq_false h, beq_eq_false_iff_ne]; omega
theorem OwnL.pcs {n₀ e : Nat} {w : World} {a : Option Addr} {n c : Nat} {l : List Prod.Pc} (h : OwnL pieceR n₀ e 4 (.slice a n c) w l) (hl : l.length = n) (hn : n ≤ 140737488355328) : PcsAt w a n l := by
  obtain ⟨rs, r1, r2, r3, r4⟩ := own_raw (S := fun _ => True) (h.into fun _ _ _ _ _ _ => trivial)
  refine ⟨rs, ?_, r3 w (fun _ _ _ hu => hu)⟩
  rcases Nat.eq_zero_or_pos n with h0 | h0
  · subst h0; exact ⟨by omega, by omega, .inl rfl⟩
  · have hq : ∃ g, a = some ⟨g, 0, none⟩ := by
      obtain ⟨cs, q1, q2, q3, q4⟩ := h
      rcases q3.2 with ⟨_, q⟩ | ⟨g, cap, cur, hv, _⟩
      · omega
      · injection hv with e1; exact ⟨g, e1⟩
    obtain ⟨g, rfl⟩ := hq
    have := holds_raws (own_holds r1 (by omega)) (by omega)
    rwa [show rs.length = n by omega] at this
def GoodN (ps : List Prod.Pc) : Prop := ps.length ≤ 8 ∧ ∀ (i : Nat) p, ps[i]? = some p → p.im = 10 + (i : Int) ∧ (0 ≤ p.t ∧ p.t ≤ 300) ∧ Globe.validL p.rw = true
theorem GoodN.nil : GoodN [] := ⟨by simp, fun i p h => by simp at h⟩
theorem GoodN.snoc {ps : List Prod.Pc} {x : Prod.Pc} {i : Nat} (h : GoodN ps) (hl : ps.length = i) (hi : i < 8) (h1 : x.im = 10 + (i : Int)) (h2 : 0 ≤ x.t ∧ x.t ≤ 300) (h3 : Globe.validL x.rw = true) : GoodN (ps ++ [x]) := by
  subst hl
  refine ⟨by rw [List.length_append]; simp; omega, fun j p hp => ?_⟩
  rcases Nat.lt_or_ge j ps.length with hj | hj
  · rw [List.getElem?_append_left hj] at hp; exact h.2 j p hp
  · rw [List.getElem?_append_right hj] at hp
    rcases Nat.lt_or_ge j (ps.length + 1) with hk | hk
    · obtain rfl : j = ps.length := by omega
      rw [Nat.sub_self] at hp; cases hp; exact ⟨h1, h2, h3⟩
    · rw [List.getElem?_eq_none (by simp; omega)] at hp; cases hp
theorem GoodN.good {ps : List Prod.Pc} (h : GoodN ps) : Prod.goodL ps = true := by
  refine goodL_of (fun p hp => ?_) ?_
  · obtain ⟨i, hi⟩ := List.getElem?_of_mem hp
    obtain ⟨q1, q2, q3⟩ := h.2 i p hi
    have := (List.getElem?_eq_some_iff.1 hi).1
    have := h.1
    exact Prod.okP_t.2 ⟨by omega, by omega, q3⟩
  · rw [Prod.Dist, List.pairwise_iff_getElem]
    intro i j hi hj hij he
    have a := (h.2 i _ (List.getElem?_eq_getElem hi)).1
    have b := (h.2 j _ (List.getElem?_eq_getElem hj)).1
    rw [a, b] at he; omega
theorem quo_isI {x k : Int} (h : IsI x) (hk : 0 < k) : IsI (x.tdiv k) := by
 have h2 : (x.tdiv k).natAbs ≤ x.natAbs := by rw [Int.natAbs_tdiv]; exact Nat.div_le_self _ _
 have h3 : 0 ≤ x → 0 ≤ x.tdiv k := fun h => Int.tdiv_nonneg h (by omega)
 have h4 : x ≤ 0 → x.tdiv k ≤ 0 := fun h => by
  have := Int.tdiv_nonneg (a := -x) (b := k) (by omega) (by omega)
  rw [Int.neg_tdiv] at this; omega
 obtain ⟨h0, h1⟩ := h
 generalize x.tdiv k = q at h2 h3 h4 ⊢
 exact ⟨by omega, by omega⟩
def RetPs (w : World) (e : Ending) (w' : World) : Prop :=
 ∃ (a : Option Addr) (k c : Nat) (ps : List Prod.Pc), e = .returned (.slice a k c) ∧ OwnL (freshR w.heap.size pieceR) w.heap.size 49 4 (.slice a k c) w' ps ∧ ps.length = k ∧ k ≤ c ∧ GoodN ps ∧ Ext w w'
theorem Pieces_c {w0 : World} {a : Option Addr} {n c : Nat} {q : Nat → Nat → Int} (w : World) (h : QAt w0 a n q) (hE0 : Ext w0 w) (hnc : n ≤ c) (hc : c ≤ 9223372036854775807) :
  Calls Tryz.prog 22 #[.slice a n c] w (RetPs w) := by
 have Q0 := h.ext hE0;refine calls_cw 44 [(0, .slice a n c)] Tryz.func22 rfl Tryz.ntmps22 (by kernel_rfl) (by kernel_rfl) (fun L => ?_);have hE := Ext.refl w;refine zc (zp (pT (.slice none 0 0) ?_));refine zn (zc (zp (pT (.slice none 0 0) ?_)));refine zn (zc (zc (zp (pT (iv 0) ?_))));refine zn (cw_block ?_);refine cw_loop [0, 3, 4] (fun ws' wr m => ∃ a9 : Option Addr, ∃ i c9 : Nat, ∃ ps : List Prod.Pc, ws' = [(0, .slice a n c), (3, .slice a9 i c9), (4, iv i)] ∧ m = 8 - i ∧ w.heap.size ≤ wr.heap.size ∧ Ext w wr ∧ OwnL (freshR w.heap.size pieceR) w.heap.size 49 4 (.slice a9 i c9) wr ps ∧ ps.length = i ∧ i ≤ c9 ∧ GoodN ps ∧ i ≤ n) (ws0 := [(0, .slice a n c), (3, .slice none 0 0), (4, iv 0)]) (by kernel_rfl) _ ⟨none, 0, 0, [], rfl, rfl, Nat.le_refl _, hE, OwnL.nil _ _ _ _ _, rfl, Nat.le_refl 0, GoodN.nil, by omega⟩ ?_;clear hE;rintro m3 L ws w2 ⟨a9, i, c9, ps, rfl, rfl, Bs, hE, B7, Bh, Bo, Bq, hi⟩;have Bf := Ext.refl w2;have hbk := B7.lt;have C3 := Bq.1;have Cj : i < 8 → i < 8 := id;refine zc (zc (zp (pD (iv i) (.slice a n c) ?_)));refine pT (iv n) ?_
 by_cases Bw : ((i : Nat) : Int) < ((n : Nat) : Int)
 ·
  refine pU (.bool true) (ed (((i : Nat) : Int) < ((n : Nat) : Int)) (Bw)) ?_;refine pD (.bool true) (iv i) ?_
  by_cases Bt : ((i : Nat) : Int) < (8 : Int)
  ·
   refine pU (.bool true) (ed (((i : Nat) : Int) < (8 : Int)) (Bt)) ?_;refine pT (.bool true) ?_;refine zn (zt ?_);refine cw_skip (zq (zc (cw_block ?_)));obtain ⟨b, off, rfl, hq⟩ : ∃ b off, a = some ⟨b, off, none⟩ ∧ ∀ i, i < n → ∀ j, j < 4 → w.cell? ⟨b, off + i * 4 + j, none⟩ = some (iv (q i j)) ∧ IsI (q i j) := Q0.resolve_left (by omega);have QA := QAt.sub (i := i) (m := 1) hq (by omega);have C1 : w.cell? ⟨b, off + i * 4, none⟩ = some (iv (q i 0)) := (hq i (by omega) 0 (by omega)).1;have C2 := (hq i (by omega) 1 (by omega)).1;have Bu := (hq i (by omega) 0 (by omega)).2;have Bv := (hq i (by omega) 1 (by omega)).2;have hbl : b < w.heap.size := World.block_lt_of_cell? w _ C1;have Ca := quo_isI Bu (k := 7) (by omega);have C8 := quo_isI Bv (k := 4) (by omega);obtain ⟨Cg, C7⟩ := id Bu;obtain ⟨Cb, Cc⟩ := id Bv;clear hq;refine dE Tz40_0 (fun w' => Ext w w') (Ext.drew hE) (fun ops Q X7 hb hL hR hK => ?_);refine mv2 hb hE Bf fun hE Bf=>?_;have Bp := hb.size;refine wW 0 (.slice a9 i c9) 1 (iv i) hR hE ?_;refine wL 2 (iv ((10 + i : Nat) : Int)) hR (fun w _ => ev_wrap (by kernel_rfl) (by omega) (by omega)) hE ?_;refine wW 3 (sv b off n c) 4 (iv i) hR hE ?_;refine wL 5 (pw b (off + i * 4)) hR (fun w _ => ex_index (p := sv b off n c) (i := iv i) rfl (by kernel_rfl) (by kernel_rfl) (ix23 (k := i) (by omega))) hE ?_;refine wV 6 (pw b (off + i * 4)) hR hE ?_;refine wM 7 (iv (q i 0 : Int)) hR (fun w hS => ld3 (hS.cell C1)) hE ?_;refine wL 8 (iv ((q i 0 : Int).tdiv 7 : Int)) hR (fun w _ => ex_bin (a := (q i 0)) (b := 7) rfl (by kernel_rfl) (by kernel_rfl) (bin_tdiv (by omega) (by omega) (by omega))) hE ?_;refine wW 11 (sv b off n c) 12 (iv i) hR hE ?_;refine wL 13 (pw b (off + i * 4)) hR (fun w _ => ex_index (p := sv b off n c) (i := iv i) rfl (by kernel_rfl) (by kernel_rfl) (ix23 (k := i) (by omega))) hE ?_;refine wV 14 (pw b (off + i * 4 + 1)) hR hE ?_;refine wM 15 (iv (q i 1 : Int)) hR (fun w hS => ld3 (hS.cell C2)) hE ?_;refine wL 16 (iv ((q i 1 : Int).tdiv 4 : Int)) hR (fun w _ => ex_bin (a := (q i 1)) (b := 4) rfl (by kernel_rfl) (by kernel_rfl) (bin_tdiv (by omega) (by omega) (by omega))) hE ?_;refine wW 19 (sv b off n c) 20 (iv i) hR hE ?_;refine wV 21 (iv i) hR hE ?_;refine wL 22 (iv ((i + 1 : Nat) : Int)) hR (fun w _ => ev_wrap (by kernel_rfl) (by omega) (by omega)) hE ?_;refine wL 23 (sv b (off + i * 4) 1 (c - i)) hR (fun w _ => ev_val (ex_slice (p := sv b off n c) rfl (by kernel_rfl) (by kernel_rfl) (by kernel_rfl) (by kernel_rfl) (sl23_110 (k := i) (m := i + 1) (by omega) (by omega) (by omega))) (by rw [show i + 1 - i = 1 by omega])) hE ?_;refine wC 9 39 #[iv ((q i 0 : Int).tdiv 7 : Int), iv 4] hR ((rpick31N_c _ 4 _ Ca (by omega) (by omega)).mono ?_);rintro e w' ⟨kt, rfl, ktl, ktp, rfl⟩;refine ⟨_, rfl, hE, ?_⟩;refine wL 10 (iv ((100 * kt : Nat) : Int)) hR (fun w _ => ev_wrap (by kernel_rfl) (by omega) (by omega)) hE ?_;refine wC 17 39 #[iv ((q i 1 : Int).tdiv 4 : Int), iv 2] hR ((rpick31N_c _ 2 _ C8 (by omega) (by omega)).mono ?_);rintro e w' ⟨kc, rfl, kcl, kcp, rfl⟩;refine ⟨_, rfl, hE, ?_⟩;refine wL 18 (.bool (decide (kc = 1))) hR (fun w _ => ev_val (show _ = Result.ok (Next.value (Value.bool (((kc : Nat) : Int) == 1))) _ from by kernel_rfl) (by rw [← eqb_nat]; rfl)) hE ?_;refine wC 24 6 #[sv b (off + i * 4) 1 (c - i)] hR ((Area_c (c - i) _ QA hE (by omega)).mono ?_);rintro e Ci ⟨B9, Bx, rfl, Bk, Bm, B6, hb⟩;refine mv2 hb hE Bf fun hE Bf=>?_;have Bj := hb.size;have C6 := B6.lt;have B3 := B6.va Bm;have C4 := B3.lt;refine ⟨_, rfl, hE, ?_⟩;refine wV 25 (.agg #[iv ((10 + i : Nat) : Int), iv ((100 * kt : Nat) : Int), .bool (decide (kc = 1)), sv B9 0 24 24]) hR hE ?_;refine wS 26 hR (sn_newS (us := #[iv ((10 + i : Nat) : Int), iv ((100 * kt : Nat) : Int), .bool (decide (kc = 1)), sv B9 0 24 24]) (t := 49) (k := 1) (c := 1) (by kernel_rfl) ?_);intro C9 Ch Bz C0 hb hbx;have ⟨B4, Bc, Be, Bb⟩ := bq4 hbx;refine mv3 hb hE Bf B3 fun hE Bf B3=>?_;have Bl := hb.size;have Cf := B4.lt;refine ⟨hE, ?_⟩;obtain ⟨Bi, B0, C5, Bg, B2, Ba⟩ := own_app1 (P := Tryz.prog) (ty := 30) pieceT (B7.ext Bf) (T Bs (T Bp (T Bj Bl))) (k := i) Bh (O := C9) (c := 1) (x := (⟨((10 + i : Nat) : Int), ((100 * kt : Nat) : Int), decide (kc = 1), Bx⟩ : Prod.Pc)) (d := [iv ((10 + i : Nat) : Int), iv ((100 * kt : Nat) : Int), .bool (decide (kc = 1)), sv B9 0 24 24]) rfl (cells4 B4.1 Bc.1 Be.1 Bb.1) (by simp [Value.oneCell']) (⟨⟨_, _, _, rfl, B3, rfl⟩, fresh1 (T (T Bs Bp) Bk)⟩) (away1 hbk (T Bp Bk)) (by omega) (by omega);refine wS 27 hR (sn_eff (v := sv Bi 0 (i + 1) B0) (w' := C5) (ex_append rfl (by kernel_rfl) (by kernel_rfl) Bg) ?_);replace hE := Ba.ext _ hE (Nat.le_refl _);have Br := Ba.size;refine ⟨hE, ?_⟩;have Cd := B2.base Bi rfl;have Ce := B2.lt Bi rfl;refine wV 28 (sv Bi 0 (i + 1) B0) hR hE ?_;refine we hL hR hK ?_;refine qw_block (zq (cK [0,3,4] (fun L => ?_)));refine zp (pT (iv i) ?_);refine pU (iv ((i + 1 : Nat) : Int)) (ew (by omega) (by omega)) ?_;refine pT (iv ((i + 1 : Nat) : Int)) ?_;refine pl_nil (qw_round [0, 3, 4] (ws' := [(0, sv b off n c), (3, sv Bi 0 (i + 1) B0), (4, iv ((i + 1 : Nat) : Int))]) (by kernel_rfl) _ ?_ ⟨(some ⟨Bi, 0, none⟩), (i + 1), B0, (ps ++ [(⟨((10 + i : Nat) : Int), ((100 * kt : Nat) : Int), decide (kc = 1), Bx⟩ : Prod.Pc)]), rfl, rfl, (T Bs (T Bp (T Bj (T Bl Br)))), hE, B2, (by rw [List.length_append, Bh]; rfl), (OwnL.cap B2 (by rw [List.length_append, Bh]; rfl)), (Bq.snoc Bh (by omega) (by dsimp only; omega) (by dsimp only; omega) Bm), by omega⟩);omega
  ·
   refine pU (.bool false) (en (((i : Nat) : Int) < (8 : Int)) (Bt)) ?_;refine pT (.bool false) ?_;refine zn (zf ?_);refine cw_exit (qw_then_exit (qw_then_exit (qw_block_out (zq (zc (zp (pD (.slice a9 i c9) (.slice a9 i c9) ?_)))))));refine zn (cw_ret (qw_ret [.slice a9 i c9] rfl ⟨(by kernel_rfl), trivial⟩ ?_));exact ⟨a9, i, c9, ps, rfl, B7, Bh, Bo, Bq, hE⟩
 ·
  refine pU (.bool false) (en (((i : Nat) : Int) < ((n : Nat) : Int)) (Bw)) ?_;refine pT (.bool false) ?_;refine pK ?_;refine pK ?_;refine pT (.bool false) ?_;refine zn (zf ?_);refine cw_exit (qw_then_exit (qw_then_exit (qw_block_out (zq (zc (zp (pD (.slice a9 i c9) (.slice a9 i c9) ?_)))))));refine zn (cw_ret (qw_ret [.slice a9 i c9] rfl ⟨(by kernel_rfl), trivial⟩ ?_));exact ⟨a9, i, c9, ps, rfl, B7, Bh, Bo, Bq, hE⟩
end Go.Proofs.YtajdohcgjgknmaaGreatDoor

namespace Go.Proofs.YtajdohcgjgknmaaGreatDoor
set_option maxRecDepth 1000000
set_option maxHeartbeats 4000000
set_option synthInstance.maxHeartbeats 0
set_option synthInstance.maxSize 9999
open Go.RowKit
theorem rSame_q {w1 w2 : World} {a1 : Option Addr} {l1 : List Int} {n1 : Nat} (c1 : Nat) {v1 : Bool} {a2 : Option Addr} {l2 : List Int} {n2 : Nat} (c2 : Nat) {v2 r : Bool} (w : World) (h1 : AA w1 a1 l1 n1 v1) (e1 : Ext w1 w) (h2 : AA w2 a2 l2 n2 v2) (e2 : Ext w2 w) (hr : decide (l1 = l2) = r) : Calls Tryz.prog 16 #[.agg #[.slice a1 n1 c1], .agg #[.slice a2 n2 c2]] w fun e w' => e = .returned (.bool r) ∧ Ext w w' := hr ▸ rSame_c c1 c2 w h1 e1 h2 e2
theorem rpSame_c {w1 w2 w3 w4 : World} {id ver id2 ver2 : Int} {ar ar2 : List Int} {ps qs : List Prod.Pc} {a1 a b1 b : Option Addr} {n1 n m1 m : Nat} (c1 c d1 d : Nat) (w : World) (hA : AA w1 a1 ar n1 (Globe.validL ar)) (e1 : Ext w1 w) (hP : PcsAt w2 a n ps) (e2 : Ext w2 w) (hB : AA w3 b1 ar2 m1 (Globe.validL ar2)) (e3 : Ext w3 w) (hQ : PcsAt w4 b m qs) (e4 : Ext w4 w) : Calls Tryz.prog 32 #[.agg #[iv id, iv ver, .slice a1 n1 c1, .slice a n c], .agg #[iv id2, iv ver2, .slice b1 m1 d1, .slice b m d]] w fun e w' => e = .returned (.bool (Prod.sameP id ver ar ps id2 ver2 ar2 qs)) ∧ Ext w w' := by
 replace hA := hA.ext e1;replace hP := hP.ext e2;replace hB := hB.ext e3;replace hQ := hQ.ext e4;clear e1 e2 e3 e4;have hnb := hP.max;have hln := hP.len;have hmb := hQ.max;have hlm := hQ.len;refine calls_cw 81 [(1, .agg #[iv id2, iv ver2, .slice b1 m1 d1, .slice b m d]), (0, .agg #[iv id, iv ver, .slice a1 n1 c1, .slice a n c])] Tryz.func32 rfl Tryz.ntmps32 (by kernel_rfl) (by kernel_rfl) (fun L => ?_);have hE := Ext.refl w;refine zc (zp (pS (sw 53 #[iv id, iv ver, .slice a1 n1 c1, .slice a n c] ?_)));intro O1 X2 Db Df hb hbx;have ⟨B2, B4, B3, B0⟩ := bq4 hbx;replace hE := hE.trans hb;have D3 := hb.size;have D2 := B2.lt;refine pS (sw 53 #[iv id2, iv ver2, .slice b1 m1 d1, .slice b m d] ?_);intro O5 X6 D8 D6 hb hbx;have ⟨B6, Bc, Bb, B7⟩ := bq4 hbx;refine mv5 hb hE B2 B4 B3 B0 fun hE B2 B4 B3 B0=>?_;have Ci := hb.size;have D1 := B6.lt;refine pT (.bool false) ?_;refine zn (zc (zc (zp (pT (pw O1 0) ?_))));refine pU (iv id) (xl (ld3 (B2.1))) ?_;refine pT (pw O5 0) ?_;refine pU (iv id2) (xl (ld3 (B6.1))) ?_
 by_cases Bt : (id : Int) = (id2 : Int)
 ·
  refine pU (.bool false) (ev_nne (show _ = Result.ok (Next.value (Value.bool ((id : Int) != (id2 : Int)))) _ from by kernel_rfl) (Bt)) ?_;refine pD (.bool false) (pw O1 1) ?_;refine pU (iv ver) (xl (ld3 (B4.1))) ?_;refine pT (pw O5 1) ?_;refine pU (iv ver2) (xl (ld3 (Bc.1))) ?_
  by_cases Bl : (ver : Int) = (ver2 : Int)
  ·
   refine pU (.bool false) (ev_nne (show _ = Result.ok (Next.value (Value.bool ((ver : Int) != (ver2 : Int)))) _ from by kernel_rfl) (Bl)) ?_;refine pD (.bool false) (.bool false) ?_;refine pT (pw O1 2) ?_;refine pU (.agg #[.slice a1 n1 c1]) (xl (ld33 (B3.1))) ?_;refine pT (pw O5 2) ?_;refine pU (.agg #[.slice b1 m1 d1]) (xl (ld33 (Bb.1))) ?_;rcases Bool.eq_false_or_eq_true (decide (ar = ar2)) with Bm | Bm
   ·
    refine pS (sc 16 #[.agg #[.slice a1 n1 c1], .agg #[.slice b1 m1 d1]] ((rSame_q (r := true) _ _ _ (hA) hE (hB) hE Bm).mono ?_));rintro e Dc ⟨rfl, hb⟩;refine mv9 hb hE B2 B4 B3 B0 B6 Bc Bb B7 fun hE B2 B4 B3 B0 B6 Bc Bb B7=>?_;have Bs := hb.size;refine ⟨_, rfl, pD (.bool false) (.bool false) ?_⟩;refine pD (.bool false) (pw O1 3) ?_;refine pU (.slice a n c) (xl (ld30 (B0.1))) ?_;refine pD (iv n) (pw O5 3) ?_;refine pU (.slice b m d) (xl (ld30 (B7.1))) ?_;refine pT (iv m) ?_
    by_cases Bo : ((n : Nat) : Int) = ((m : Nat) : Int)
    ·
     refine pU (.bool false) (ev_nne (show _ = Result.ok (Next.value (Value.bool (((n : Nat) : Int) != ((m : Nat) : Int)))) _ from by kernel_rfl) (Bo)) ?_;refine pT (.bool false) ?_;refine zn (cK [2,3,36] (fun L => ?_));refine zf ?_;refine cw_skip (zq (zc (cw_seq ?_)));obtain rfl : n = m := by omega
     refine zp (pT (iv 0) ?_);refine zn (cw_block ?_);refine cw_loop [2, 3, 5] (fun ws' wr m => ∃ i : Nat, ws' = [(2, pw O1 0), (3, pw O5 0), (5, iv i)] ∧ m = n - i ∧ Dc.heap.size ≤ wr.heap.size ∧ Ext w wr ∧ BoxAt wr O1 0 (iv id) ∧ BoxAt wr O1 1 (iv ver) ∧ BoxAt wr O1 2 (.slice a1 n1 c1) ∧ BoxAt wr O1 3 (.slice a n c) ∧ BoxAt wr O5 0 (iv id2) ∧ BoxAt wr O5 1 (iv ver2) ∧ BoxAt wr O5 2 (.slice b1 m1 d1) ∧ BoxAt wr O5 3 (.slice b n d) ∧ i ≤ n ∧ Prod.sameL ps qs = Prod.sameL (ps.drop i) (qs.drop i)) (ws0 := [(2, pw O1 0), (3, pw O5 0), (5, iv 0)]) (by kernel_rfl) _ ⟨0, rfl, rfl, Nat.le_refl _, hE, B2, B4, B3, B0, B6, Bc, Bb, B7, by omega, rfl⟩ ?_;clear B2 B4 B3 B0 B6 Bc Bb B7 hE;rintro Dk L ws Dg ⟨i, rfl, rfl, Bp, hE, B2, B4, B3, B0, B6, Bc, Bb, B7, hi, Hv⟩
     by_cases hlt : i < n
     ·
      obtain ⟨Cg, Ch, p, Bu, C6, C9, rfl, Cs, Cx, Cu, Cw, Cl, Cf⟩ := hP.at hlt;obtain ⟨Ct, Ck, q, Br, C8, C7, rfl, Cq, Cp, Co, Cj, Cr, Cd⟩ := hQ.at hlt;have hst := Prod.sameL_step Cs Cq;refine zc (zc (zp (pD (iv i) (pw O1 3) ?_)));refine pU (sv Cg Ch n c) (xl (ld30 (B0.1))) ?_;refine pT (iv n) ?_;refine pU (.bool true) (ed (((i : Nat) : Int) < ((n : Nat) : Int)) (by omega)) ?_;refine zn (zt ?_);refine cw_skip (zq (zc (cw_block ?_)));refine zc (zp (pT (pw O1 3) ?_));refine pU (sv Cg Ch n c) (xl (ld30 (B0.1))) ?_;refine pT (iv i) ?_;refine pU (pw Cg (Ch + i * 4)) (xi (sv Cg Ch n c) (iv i) (ix30 (k := i) (by omega))) ?_;refine pU (.agg #[iv p.im, iv p.t, .bool p.cl, .slice Bu C6 C9]) (xl (ld49 ((hE.cell Cx)) ((hE.cell Cu)) ((hE.cell Cw)) ((hE.cell Cl)))) ?_;refine pS (sw 49 #[iv 0, iv 0, .bool false, .slice none 0 0] ?_);intro C2 De C1 D0 hb hbx;have ⟨Ba, Be, Bf, Bg⟩ := bq4 hbx;refine mv9 hb hE B2 B4 B3 B0 B6 Bc Bb B7 fun hE B2 B4 B3 B0 B6 Bc Bb B7=>?_;have C3 := hb.size;have Cn := Ba.lt;refine pP (zG C2 (iv p.im) (iv p.t) (.bool p.cl) (.slice Bu C6 C9) (st49 Ba.1 Ba.2 Be.1 Be.2 Bf.1 Bf.2 Bg.1 Bg.2) Ba Be Bf Bg ?_);intro Da ho Ba Be Bf Bg hk;replace hE := ho.ext hE (by omega);have q9 := ho.bx O1 (by omega);replace B2 := q9 B2;replace B4 := q9 B4;replace B3 := q9 B3;replace B0 := q9 B0;clear q9;have q9 := ho.bx O5 (by omega);replace B6 := q9 B6;replace Bc := q9 Bc;replace Bb := q9 Bb;replace B7 := q9 B7;clear q9;have Bw := Nat.le_of_eq ho.size.symm;clear ho hk;refine zn (zc (zp (pT (pw O5 3) ?_)));refine pU (sv Ct Ck n d) (xl (ld30 (B7.1))) ?_;refine pT (iv i) ?_;refine pU (pw Ct (Ck + i * 4)) (xi (sv Ct Ck n d) (iv i) (ix30 (k := i) (by omega))) ?_;refine pU (.agg #[iv q.im, iv q.t, .bool q.cl, .slice Br C8 C7]) (xl (ld49 ((hE.cell Cp)) ((hE.cell Co)) ((hE.cell Cj)) ((hE.cell Cr)))) ?_;refine pS (sw 49 #[iv 0, iv 0, .bool false, .slice none 0 0] ?_);intro C4 D4 Bq Cz hb hbx;have ⟨Bh, Bj, Bi, Bk⟩ := bq4 hbx;refine mv12 hb hE B2 B4 B3 B0 B6 Bc Bb B7 Ba Be Bf fun hE B2 B4 B3 B0 B6 Bc Bb B7 Ba Be Bf=>?_;replace Bg := Bg.x hb;have Cv := hb.size;have D7 := Bh.lt;refine pP (zG C4 (iv q.im) (iv q.t) (.bool q.cl) (.slice Br C8 C7) (st49 Bh.1 Bh.2 Bj.1 Bj.2 Bi.1 Bi.2 Bk.1 Bk.2) Bh Bj Bi Bk ?_);intro D9 ho Bh Bj Bi Bk hk;replace hE := ho.ext hE (by omega);have q9 := ho.bx O1 (by omega);replace B2 := q9 B2;replace B4 := q9 B4;replace B3 := q9 B3;replace B0 := q9 B0;clear q9;have q9 := ho.bx O5 (by omega);replace B6 := q9 B6;replace Bc := q9 Bc;replace Bb := q9 Bb;replace B7 := q9 B7;clear q9;have q9 := ho.bx C2 (by omega);replace Ba := q9 Ba;replace Be := q9 Be;replace Bf := q9 Bf;replace Bg := q9 Bg;clear q9;have Cy := Nat.le_of_eq ho.size.symm;clear ho hk;refine zn (cK [2,3,5,6,7] (fun L => ?_));refine cw_seq ?_;rcases Bool.eq_false_or_eq_true (p.cl != q.cl) with hcl | hcl
      ·
       refine zp (pT (pw C2 0) ?_);refine pU (iv p.im) (xl (ld3 (Ba.1))) ?_;refine pT (pw C4 0) ?_;refine pU (iv q.im) (xl (ld3 (Bh.1))) ?_
       by_cases C0 : (p.im : Int) = (q.im : Int)
       ·
        refine pU (.bool false) (ev_nne (show _ = Result.ok (Next.value (Value.bool ((p.im : Int) != (q.im : Int)))) _ from by kernel_rfl) (C0)) ?_;refine pD (.bool false) (pw C2 1) ?_;refine pU (iv p.t) (xl (ld3 (Be.1))) ?_;refine pT (pw C4 1) ?_;refine pU (iv q.t) (xl (ld3 (Bj.1))) ?_
        by_cases C5 : (p.t : Int) = (q.t : Int)
        ·
         refine pU (.bool false) (ev_nne (show _ = Result.ok (Next.value (Value.bool ((p.t : Int) != (q.t : Int)))) _ from by kernel_rfl) (C5)) ?_;refine pD (.bool false) (.bool false) ?_;refine pT (pw C2 2) ?_;refine pU (.bool p.cl) (xl (ld4 (Bf.1))) ?_;refine pT (pw C4 2) ?_;refine pU (.bool q.cl) (xl (ld4 (Bi.1))) ?_;refine pU (.bool true) (ev_bool (show _ = Result.ok (Next.value (Value.bool (p.cl != q.cl))) _ from by kernel_rfl) hcl) ?_;refine pD (.bool true) (.bool true) ?_;refine pK ?_;refine pK ?_;refine pK ?_;refine pK ?_;refine pK ?_;refine pK ?_;refine pT (.bool true) ?_;refine zn (cK [2,3,5,80] (fun L => ?_));refine zt ?_;refine zc (zp (pT (.bool false) ?_));refine zn (cw_ret (qw_block_ret (qw_then_ret (qw_then_ret (qw_block_ret (qw_then_ret (qw_ret [.bool false] rfl ⟨(by kernel_rfl), trivial⟩ ?_)))))));exact ⟨rb (show Prod.sameP id ver ar ps id2 ver2 ar2 qs = false by unfold Prod.sameP; rw [show Prod.sameL ps qs = false from by rw [Hv, hst, (show Prod.sameB p q = false by unfold Prod.sameB; simp [Bm, Bt, Bl, Bo, C0, C5, (show (p.cl == q.cl) = false by simpa using hcl)])]; rfl]; simp []).symm, hE⟩
        ·
         refine pU (.bool true) (eM (p.t : Int) (q.t : Int) (C5)) ?_;refine pD (.bool true) (.bool true) ?_;refine pK ?_;refine pK ?_;refine pK ?_;refine pK ?_;refine pK ?_;refine pD (.bool true) (.bool true) ?_;refine pK ?_;refine pK ?_;refine pK ?_;refine pK ?_;refine pK ?_;refine pK ?_;refine pT (.bool true) ?_;refine zn (cK [2,3,5,80] (fun L => ?_));refine zt ?_;refine zc (zp (pT (.bool false) ?_));refine zn (cw_ret (qw_block_ret (qw_then_ret (qw_then_ret (qw_block_ret (qw_then_ret (qw_ret [.bool false] rfl ⟨(by kernel_rfl), trivial⟩ ?_)))))));exact ⟨rb (show Prod.sameP id ver ar ps id2 ver2 ar2 qs = false by unfold Prod.sameP; rw [show Prod.sameL ps qs = false from by rw [Hv, hst, (show Prod.sameB p q = false by unfold Prod.sameB; simp [Bm, Bt, Bl, Bo, C0, C5, (show (p.cl == q.cl) = false by simpa using hcl)])]; rfl]; simp []).symm, hE⟩
       ·
        refine pU (.bool true) (eM (p.im : Int) (q.im : Int) (C0)) ?_;refine pT (.bool true) ?_;refine pK ?_;refine pK ?_;refine pK ?_;refine pK ?_;refine pK ?_;refine pD (.bool true) (.bool true) ?_;refine pK ?_;refine pK ?_;refine pK ?_;refine pK ?_;refine pK ?_;refine pD (.bool true) (.bool true) ?_;refine pK ?_;refine pK ?_;refine pK ?_;refine pK ?_;refine pK ?_;refine pK ?_;refine pT (.bool true) ?_;refine zn (cK [2,3,5,80] (fun L => ?_));refine zt ?_;refine zc (zp (pT (.bool false) ?_));refine zn (cw_ret (qw_block_ret (qw_then_ret (qw_then_ret (qw_block_ret (qw_then_ret (qw_ret [.bool false] rfl ⟨(by kernel_rfl), trivial⟩ ?_)))))));exact ⟨rb (show Prod.sameP id ver ar ps id2 ver2 ar2 qs = false by unfold Prod.sameP; rw [show Prod.sameL ps qs = false from by rw [Hv, hst, (show Prod.sameB p q = false by unfold Prod.sameB; simp [Bm, Bt, Bl, Bo, C0, (show (p.cl == q.cl) = false by simpa using hcl)])]; rfl]; simp []).symm, hE⟩
      ·
       refine zp (pT (pw C2 0) ?_);refine pU (iv p.im) (xl (ld3 (Ba.1))) ?_;refine pT (pw C4 0) ?_;refine pU (iv q.im) (xl (ld3 (Bh.1))) ?_
       by_cases Bv : (p.im : Int) = (q.im : Int)
       ·
        refine pU (.bool false) (ev_nne (show _ = Result.ok (Next.value (Value.bool ((p.im : Int) != (q.im : Int)))) _ from by kernel_rfl) (Bv)) ?_;refine pD (.bool false) (pw C2 1) ?_;refine pU (iv p.t) (xl (ld3 (Be.1))) ?_;refine pT (pw C4 1) ?_;refine pU (iv q.t) (xl (ld3 (Bj.1))) ?_
        by_cases Bx : (p.t : Int) = (q.t : Int)
        ·
         refine pU (.bool false) (ev_nne (show _ = Result.ok (Next.value (Value.bool ((p.t : Int) != (q.t : Int)))) _ from by kernel_rfl) (Bx)) ?_;refine pD (.bool false) (.bool false) ?_;refine pT (pw C2 2) ?_;refine pU (.bool p.cl) (xl (ld4 (Bf.1))) ?_;refine pT (pw C4 2) ?_;refine pU (.bool q.cl) (xl (ld4 (Bi.1))) ?_;refine pU (.bool false) (ev_bool (show _ = Result.ok (Next.value (Value.bool (p.cl != q.cl))) _ from by kernel_rfl) hcl) ?_;refine pD (.bool false) (.bool false) ?_;refine pT (pw C2 3) ?_;refine pU (.agg #[.slice Bu C6 C9]) (xl (ld33 (Bg.1))) ?_;refine pT (pw C4 3) ?_;refine pU (.agg #[.slice Br C8 C7]) (xl (ld33 (Bk.1))) ?_;rcases Bool.eq_false_or_eq_true (decide (p.rw = q.rw)) with Bz | Bz
         ·
          refine pS (sc 16 #[.agg #[.slice Bu C6 C9], .agg #[.slice Br C8 C7]] ((rSame_q (r := true) _ _ _ (Cf) hE (Cd) hE Bz).mono ?_));rintro e Dh ⟨rfl, hb⟩;refine mv9 hb hE B2 B4 B3 B0 B6 Bc Bb B7 fun hE B2 B4 B3 B0 B6 Bc Bb B7=>?_;have Cm := hb.size;refine ⟨_, rfl, pD (.bool false) (.bool false) ?_⟩;refine zn (cK [2,3,5,80] (fun L => ?_));refine zf ?_;refine cw_skip (qw_block (zq (zp (pT (iv i) ?_))));refine pU (iv ((i + 1 : Nat) : Int)) (ew (by omega) (by omega)) ?_;refine pT (iv ((i + 1 : Nat) : Int)) ?_;refine pl_nil (qw_round [2, 3, 5] (ws' := [(2, pw O1 0), (3, pw O5 0), (5, iv ((i + 1 : Nat) : Int))]) (by kernel_rfl) _ ?_ ⟨(i + 1), rfl, rfl, (T Bp (T C3 (T Bw (T Cv (T Cy Cm))))), hE, B2, B4, B3, B0, B6, Bc, Bb, B7, by omega, (by rw [Hv, hst, (show Prod.sameB p q = true by unfold Prod.sameB; simp [Bm, Bz, Bt, Bl, Bo, Bv, Bx, (show (p.cl == q.cl) = true by simpa using hcl)])]; rfl)⟩);omega
         ·
          refine pS (sc 16 #[.agg #[.slice Bu C6 C9], .agg #[.slice Br C8 C7]] ((rSame_q (r := false) _ _ _ (Cf) hE (Cd) hE Bz).mono ?_));rintro e Dj ⟨rfl, hb⟩;refine mv2 hb hE B0 fun hE B0=>?_;have Dd := hb.size;refine ⟨_, rfl, pD (.bool true) (.bool true) ?_⟩;refine zn (cK [2,3,5,80] (fun L => ?_));refine zt ?_;refine zc (zp (pT (.bool false) ?_));refine zn (cw_ret (qw_block_ret (qw_then_ret (qw_then_ret (qw_block_ret (qw_then_ret (qw_ret [.bool false] rfl ⟨(by kernel_rfl), trivial⟩ ?_)))))));exact ⟨rb (show Prod.sameP id ver ar ps id2 ver2 ar2 qs = false by unfold Prod.sameP; rw [show Prod.sameL ps qs = false from by rw [Hv, hst, (show Prod.sameB p q = false by unfold Prod.sameB; simp [Bm, Bz, Bt, Bl, Bo, Bv, Bx, (show (p.cl == q.cl) = true by simpa using hcl)])]; rfl]; simp []).symm, hE⟩
        ·
         refine pU (.bool true) (eM (p.t : Int) (q.t : Int) (Bx)) ?_;refine pD (.bool true) (.bool true) ?_;refine pK ?_;refine pK ?_;refine pK ?_;refine pK ?_;refine pK ?_;refine pD (.bool true) (.bool true) ?_;refine pK ?_;refine pK ?_;refine pK ?_;refine pK ?_;refine pK ?_;refine pK ?_;refine pT (.bool true) ?_;refine zn (cK [2,3,5,80] (fun L => ?_));refine zt ?_;refine zc (zp (pT (.bool false) ?_));refine zn (cw_ret (qw_block_ret (qw_then_ret (qw_then_ret (qw_block_ret (qw_then_ret (qw_ret [.bool false] rfl ⟨(by kernel_rfl), trivial⟩ ?_)))))));exact ⟨rb (show Prod.sameP id ver ar ps id2 ver2 ar2 qs = false by unfold Prod.sameP; rw [show Prod.sameL ps qs = false from by rw [Hv, hst, (show Prod.sameB p q = false by unfold Prod.sameB; simp [Bm, Bt, Bl, Bo, Bv, Bx, (show (p.cl == q.cl) = true by simpa using hcl)])]; rfl]; simp []).symm, hE⟩
       ·
        refine pU (.bool true) (eM (p.im : Int) (q.im : Int) (Bv)) ?_;refine pT (.bool true) ?_;refine pK ?_;refine pK ?_;refine pK ?_;refine pK ?_;refine pK ?_;refine pD (.bool true) (.bool true) ?_;refine pK ?_;refine pK ?_;refine pK ?_;refine pK ?_;refine pK ?_;refine pD (.bool true) (.bool true) ?_;refine pK ?_;refine pK ?_;refine pK ?_;refine pK ?_;refine pK ?_;refine pK ?_;refine pT (.bool true) ?_;refine zn (cK [2,3,5,80] (fun L => ?_));refine zt ?_;refine zc (zp (pT (.bool false) ?_));refine zn (cw_ret (qw_block_ret (qw_then_ret (qw_then_ret (qw_block_ret (qw_then_ret (qw_ret [.bool false] rfl ⟨(by kernel_rfl), trivial⟩ ?_)))))));exact ⟨rb (show Prod.sameP id ver ar ps id2 ver2 ar2 qs = false by unfold Prod.sameP; rw [show Prod.sameL ps qs = false from by rw [Hv, hst, (show Prod.sameB p q = false by unfold Prod.sameB; simp [Bm, Bt, Bl, Bo, Bv, (show (p.cl == q.cl) = true by simpa using hcl)])]; rfl]; simp []).symm, hE⟩
     ·
      have hin : i = n := by omega
      refine zc (zc (zp (pD (iv i) (pw O1 3) ?_)));refine pU (.slice a n c) (xl (ld30 (B0.1))) ?_;refine pT (iv n) ?_;refine pU (.bool false) (en (((i : Nat) : Int) < ((n : Nat) : Int)) (by omega)) ?_;refine zn (zf ?_);refine cw_exit (qw_then_exit (qw_then_exit (qw_block_out (zq (zc (zp (pT (.bool true) ?_)))))));refine zn (cw_ret (qw_ret [.bool true] rfl ⟨(by kernel_rfl), trivial⟩ ?_));exact ⟨rb (show Prod.sameP id ver ar ps id2 ver2 ar2 qs = true by unfold Prod.sameP; rw [show Prod.sameL ps qs = true from by rw [Hv, hin, List.drop_of_length_le (Nat.le_of_eq hln), List.drop_of_length_le (Nat.le_of_eq hlm)]; rfl]; simp [Bm, Bt, Bl, Bo]).symm, hE⟩
    ·
     refine pU (.bool true) (eM ((n : Nat) : Int) ((m : Nat) : Int) (Bo)) ?_;refine pT (.bool true) ?_;refine zn (cK [2,3,36] (fun L => ?_));refine zt ?_;refine zc (zp (pT (.bool false) ?_));refine zn (cw_ret (qw_then_ret (qw_ret [.bool false] rfl ⟨(by kernel_rfl), trivial⟩ ?_)));exact ⟨rb (show Prod.sameP id ver ar ps id2 ver2 ar2 qs = false by unfold Prod.sameP; rw [show Prod.sameL ps qs = false from Prod.sameL_len (by omega)]; simp []).symm, hE⟩
   ·
    refine pS (sc 16 #[.agg #[.slice a1 n1 c1], .agg #[.slice b1 m1 d1]] ((rSame_q (r := false) _ _ _ (hA) hE (hB) hE Bm).mono ?_));rintro e Di ⟨rfl, hb⟩;replace hE := hE.trans hb;have D5 := hb.size;refine ⟨_, rfl, pD (.bool true) (.bool true) ?_⟩;refine pT (.bool true) ?_;refine pK ?_;refine pK ?_;refine pK ?_;refine pK ?_;refine pK ?_;refine pK ?_;refine pK ?_;refine pT (.bool true) ?_;refine zn (cK [2,3,36] (fun L => ?_));refine zt ?_;refine zc (zp (pT (.bool false) ?_));refine zn (cw_ret (qw_then_ret (qw_ret [.bool false] rfl ⟨(by kernel_rfl), trivial⟩ ?_)));exact ⟨rb (show Prod.sameP id ver ar ps id2 ver2 ar2 qs = false by unfold Prod.sameP; simp [Bm, Bt, Bl]).symm, hE⟩
  ·
   refine pU (.bool true) (eM (ver : Int) (ver2 : Int) (Bl)) ?_;refine pD (.bool true) (.bool true) ?_;refine pK ?_;refine pK ?_;refine pK ?_;refine pK ?_;refine pK ?_;refine pK ?_;refine pD (.bool true) (.bool true) ?_;refine pK ?_;refine pK ?_;refine pK ?_;refine pK ?_;refine pK ?_;refine pK ?_;refine pK ?_;refine pT (.bool true) ?_;refine zn (cK [2,3,36] (fun L => ?_));refine zt ?_;refine zc (zp (pT (.bool false) ?_));refine zn (cw_ret (qw_then_ret (qw_ret [.bool false] rfl ⟨(by kernel_rfl), trivial⟩ ?_)));exact ⟨rb (show Prod.sameP id ver ar ps id2 ver2 ar2 qs = false by unfold Prod.sameP; simp [Bt, Bl]).symm, hE⟩
 ·
  refine pU (.bool true) (eM (id : Int) (id2 : Int) (Bt)) ?_;refine pT (.bool true) ?_;refine pK ?_;refine pK ?_;refine pK ?_;refine pK ?_;refine pK ?_;refine pD (.bool true) (.bool true) ?_;refine pK ?_;refine pK ?_;refine pK ?_;refine pK ?_;refine pK ?_;refine pK ?_;refine pD (.bool true) (.bool true) ?_;refine pK ?_;refine pK ?_;refine pK ?_;refine pK ?_;refine pK ?_;refine pK ?_;refine pK ?_;refine pT (.bool true) ?_;refine zn (cK [2,3,36] (fun L => ?_));refine zt ?_;refine zc (zp (pT (.bool false) ?_));refine zn (cw_ret (qw_then_ret (qw_ret [.bool false] rfl ⟨(by kernel_rfl), trivial⟩ ?_)));exact ⟨rb (show Prod.sameP id ver ar ps id2 ver2 ar2 qs = false by unfold Prod.sameP; simp [Bt]).symm, hE⟩
end Go.Proofs.YtajdohcgjgknmaaGreatDoor
