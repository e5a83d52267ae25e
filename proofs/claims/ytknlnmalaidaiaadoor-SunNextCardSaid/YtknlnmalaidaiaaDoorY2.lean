/- The walk of the law SunNext. -/
import Derived.Test.YtknlnmalaidaiaaDoorS8
import Derived.Test.YtknlnmalaidaiaaDoorS6
import Derived.Test.YtknlnmalaidaiaaDoorM8
namespace Go.Proofs.YtknlnmalaidaiaaDoor
open Go.RowKit

/-- What Next returned, at a minute before which it was not as asked for. -/
theorem next_at {x y t nx : Int} {lit : Bool} {N j : Nat} (h : (nx = -1 ∧ ∀ i, i < N → (Sun.litB x y (t + (i : Int)) == lit) = false) ∨
    ∃ i0, i0 < N ∧ nx = t + (i0 : Int) ∧ (Sun.litB x y (t + (i0 : Int)) == lit) = true ∧ ∀ i, i < i0 → (Sun.litB x y (t + (i : Int)) == lit) = false)
    (ht : 0 ≤ t) (hj : j < N) (hp : ∀ i, i < j → nx ≠ t + (i : Int)) : ∃ b, (Sun.litB x y (t + (j : Int)) == lit) = b ∧ (t + (j : Int) == nx) = b := by
  rcases h with ⟨h1, h2⟩ | ⟨i0, h1, h2, h3, h4⟩
  · exact ⟨false, h2 j hj, by simp; omega⟩
  · by_cases e : j = i0
    · subst e; exact ⟨true, h3, by simp; omega⟩
    · refine ⟨false, h4 j ?_, by simp; omega⟩
      rcases Nat.lt_or_ge j i0 with h | h
      · exact h
      · exact absurd h2 (hp i0 (by omega))

set_option maxHeartbeats 4000000 in
theorem SunNext_walk (a0 : Int) (w0 : IsI a0) (a1 : Int) (w1 : IsI a1) (a2 : Int) (w2 : IsI a2) (lit : Bool) (w : World) (hT : Tab w) :
    Calls Tryd.prog 8 #[.int .i64 a0, .int .i64 a1, .int .i64 a2, .bool lit] w fun e w' => e = .returned (.bool true) ∧ Ext w w' := by
  obtain ⟨x0, x1⟩ := @pickF_bd a0 48 (by omega)
  obtain ⟨y0, y1⟩ := @pickF_bd a1 24 (by omega)
  obtain ⟨t0, t1⟩ := @pickF_bd a2 1000001 (by omega)
  have hN := Sun.nmin_spec t0 (by omega)
  have hsp := Sun.next_spec (pickF a0 48) (pickF a1 24) (pickF a2 1000001) lit
  obtain ⟨nx, hnx⟩ : ∃ nx, Sun.next (pickF a0 48) (pickF a1 24) (pickF a2 1000001) lit = nx := ⟨_, rfl⟩
  rw [hnx] at hsp
  have Hnx := Lib.hid hnx; clear hnx
  generalize Sun.nmin (pickF a2 1000001) = N at *
  have hb1 : (nx = -1 ∧ (nx != -1) = false) ∨ ((nx != -1) = true ∧ pickF a2 1000001 ≤ nx ∧ nx ≤ pickF a2 1000001 + 1440 ∧ nx ≤ 1000000) := by
    rcases hsp with ⟨h, _⟩ | ⟨i0, h1, h2, _⟩
    · exact .inl ⟨h, by rw [h]; rfl⟩
    · right; refine ⟨?_, by omega, by omega, by omega⟩; simp; omega
  have Hat : Hid (∀ j, j < N → (∀ i, i < j → nx ≠ pickF a2 1000001 + (i : Int)) → ∃ b, (Sun.litB (pickF a0 48) (pickF a1 24) (pickF a2 1000001 + (j : Int)) == lit) = b ∧ (pickF a2 1000001 + (j : Int) == nx) = b) := fun j hj hp => next_at hsp t0 hj hp
  have Hend : Hid ((∀ i, i < N → nx ≠ pickF a2 1000001 + (i : Int)) → nx = -1) := fun h => by
    rcases hsp with ⟨h1, _⟩ | ⟨i0, h1, h2, _⟩
    · exact h1
    · exact absurd h2 (h i0 h1)
  clear hsp
  rcases hb1 with ⟨rfl, n1⟩ | ⟨n1, n2, n3, n4⟩
  · go_enter Tryd.func8, Tryd.ntmps8
    go_wp2_with (first | (go_at_call 11; refine (sane_c _ hT).mono ?_; rintro e wS ⟨rfl, hbS⟩; have hcS := hbS.cellE; have hfS := hbS.frozenE; have hzS := hbS.size; have haS := alloc_keeps wS; (try simp only [World.size_alloc] at hcS hfS hzS); (try simp only [World.size_setCell] at hcS hfS hzS); (try simp only [World.size_drew] at hcS hfS hzS)) | (go_at_call 13; refine (pick_c _ _ _ (by assumption) (by omega) (by omega)).mono ?_; rintro e w' ⟨rfl, rfl⟩) | (go_at_call 12; refine (rCell_c _ _ _ (by assumption) (by assumption)).mono ?_; rintro e wC ⟨rfl, hbC⟩; have hcC := hbC.cellE; have hfC := hbC.frozenE; have hzC := hbC.size; have haC := alloc_keeps wC; (try simp only [World.size_alloc] at hcC hfC hzC); (try simp only [World.size_setCell] at hcC hfC hzC); (try simp only [World.size_drew] at hcC hfC hzC)) | (go_at_call 20; refine (Next_yes _ _ _ _ _ (Sun.minB_t.2 (by omega)) (Globe.vcB_t.2 (by omega))).mono ?_; rintro e wX ⟨rfl, hbX⟩; have hcX := hbX.cellE; have hfX := hbX.frozenE; have hzX := hbX.size; have haX := alloc_keeps wX; (try simp only [World.size_alloc] at hcX hfX hzX); (try simp only [World.size_setCell] at hcX hfX hzX); (try simp only [World.size_drew] at hcX hfX hzX); rw [Hnx.out]))
    have c0 : wX.cell? ⟨wC.heap.size, 0, none⟩ = some (.int .i64 (pickF a0 48)) := hbX.cell (by simp [go_sem])
    have c1 : wX.cell? ⟨wC.heap.size, 1, none⟩ = some (.int .i64 (pickF a1 24)) := hbX.cell (by simp [go_sem])
    have hE : Ext w wX := by (repeat' (first | (with_reducible assumption) | (with_reducible exact Ext.refl _) | (with_reducible refine Ext.alloc ?_ _) | (with_reducible refine Ext.drew ?_) | (with_reducible refine Ext.drewN ?_ _) | (with_reducible refine Ext.setCell ?_ ?_ _) | (with_reducible refine Ext.trans ?_ (by assumption)) | go_size))
    clear hcS hfS haS hcC hfC haC hcX hfX haX hbX
    go_loopw [13] (fun p wr => ∃ j : Nat, j ≤ N ∧ p = .int .i64 (pickF a2 1000001 + j) ∧ Hid (∀ i, i < j → (-1) ≠ pickF a2 1000001 + (i : Int)) ∧ Ext wX wr) (fun p _ => (pickF a2 1000001 + N - intOf p).toNat)
    case atStart => exact ⟨0, by omega, by simp, fun i hi => by omega, Ext.refl _⟩
    case round =>
      obtain ⟨j, hj, rfl, Hp, hEr⟩ := hrel
      replace c0 := hEr.cell c0
      replace c1 := hEr.cell c1
      have hzE := hEr.size
      by_cases hlt : j < N
      · obtain ⟨bb, q1, q2⟩ := Hat.out j hlt Hp.out
        cases bb
        all_goals
          go_wp2_with (go_at_call 22; refine (Lit_c _ _ _ _).mono ?_; rintro e w1 ⟨rfl, hb⟩; have hc := hb.cellE; have hf := hb.frozenE; have hz := hb.size; have ha := alloc_keeps w1; (try simp only [World.size_alloc] at hc hf hz); (try simp only [World.size_setCell] at hc hf hz); (try simp only [World.size_drew] at hc hf hz))
        · go_roundw
          case rel => exact ⟨j + 1, by omega, by go_num, fun i hi => by
            rcases Nat.lt_or_ge i j with h | h
            · exact Hp.out i h
            · rw [show i = j by omega]; simp at q2; omega, by (repeat' (first | (with_reducible assumption) | (with_reducible exact Ext.refl _) | (with_reducible refine Ext.alloc ?_ _) | (with_reducible refine Ext.drew ?_) | (with_reducible refine Ext.drewN ?_ _) | (with_reducible refine Ext.setCell ?_ ?_ _) | (with_reducible refine Ext.trans ?_ (by assumption)) | go_size))⟩
          case measure => simp [intOf]; omega
        · go_ret
          exact ⟨rfl, by (repeat' (first | (with_reducible assumption) | (with_reducible exact Ext.refl _) | (with_reducible refine Ext.alloc ?_ _) | (with_reducible refine Ext.drew ?_) | (with_reducible refine Ext.drewN ?_ _) | (with_reducible refine Ext.setCell ?_ ?_ _) | (with_reducible refine Ext.trans ?_ (by assumption)) | go_size))⟩
      · obtain rfl : j = N := by omega
        have hnx := Hend.out Hp.out
        have hnb : ((-1 : Int) == -1) = true := by first | rfl | (rw [hnx]; rfl)
        clear hnx
        go_wp2_with fail
        all_goals
          go_ret
          exact ⟨by first | rfl | exact ret_bool hnb, by (repeat' (first | (with_reducible assumption) | (with_reducible exact Ext.refl _) | (with_reducible refine Ext.alloc ?_ _) | (with_reducible refine Ext.drew ?_) | (with_reducible refine Ext.drewN ?_ _) | (with_reducible refine Ext.setCell ?_ ?_ _) | (with_reducible refine Ext.trans ?_ (by assumption)) | go_size))⟩

  · go_enter Tryd.func8, Tryd.ntmps8
    go_wp2_with (first | (go_at_call 11; refine (sane_c _ hT).mono ?_; rintro e wS ⟨rfl, hbS⟩; have hcS := hbS.cellE; have hfS := hbS.frozenE; have hzS := hbS.size; have haS := alloc_keeps wS; (try simp only [World.size_alloc] at hcS hfS hzS); (try simp only [World.size_setCell] at hcS hfS hzS); (try simp only [World.size_drew] at hcS hfS hzS)) | (go_at_call 13; refine (pick_c _ _ _ (by assumption) (by omega) (by omega)).mono ?_; rintro e w' ⟨rfl, rfl⟩) | (go_at_call 12; refine (rCell_c _ _ _ (by assumption) (by assumption)).mono ?_; rintro e wC ⟨rfl, hbC⟩; have hcC := hbC.cellE; have hfC := hbC.frozenE; have hzC := hbC.size; have haC := alloc_keeps wC; (try simp only [World.size_alloc] at hcC hfC hzC); (try simp only [World.size_setCell] at hcC hfC hzC); (try simp only [World.size_drew] at hcC hfC hzC)) | (go_at_call 20; refine (Next_yes _ _ _ _ _ (Sun.minB_t.2 (by omega)) (Globe.vcB_t.2 (by omega))).mono ?_; rintro e wX ⟨rfl, hbX⟩; have hcX := hbX.cellE; have hfX := hbX.frozenE; have hzX := hbX.size; have haX := alloc_keeps wX; (try simp only [World.size_alloc] at hcX hfX hzX); (try simp only [World.size_setCell] at hcX hfX hzX); (try simp only [World.size_drew] at hcX hfX hzX); rw [Hnx.out]))
    have c0 : wX.cell? ⟨wC.heap.size, 0, none⟩ = some (.int .i64 (pickF a0 48)) := hbX.cell (by simp [go_sem])
    have c1 : wX.cell? ⟨wC.heap.size, 1, none⟩ = some (.int .i64 (pickF a1 24)) := hbX.cell (by simp [go_sem])
    have hE : Ext w wX := by (repeat' (first | (with_reducible assumption) | (with_reducible exact Ext.refl _) | (with_reducible refine Ext.alloc ?_ _) | (with_reducible refine Ext.drew ?_) | (with_reducible refine Ext.drewN ?_ _) | (with_reducible refine Ext.setCell ?_ ?_ _) | (with_reducible refine Ext.trans ?_ (by assumption)) | go_size))
    clear hcS hfS haS hcC hfC haC hcX hfX haX hbX
    go_loopw [13] (fun p wr => ∃ j : Nat, j ≤ N ∧ p = .int .i64 (pickF a2 1000001 + j) ∧ Hid (∀ i, i < j → nx ≠ pickF a2 1000001 + (i : Int)) ∧ Ext wX wr) (fun p _ => (pickF a2 1000001 + N - intOf p).toNat)
    case atStart => exact ⟨0, by omega, by simp, fun i hi => by omega, Ext.refl _⟩
    case round =>
      obtain ⟨j, hj, rfl, Hp, hEr⟩ := hrel
      replace c0 := hEr.cell c0
      replace c1 := hEr.cell c1
      have hzE := hEr.size
      by_cases hlt : j < N
      · obtain ⟨bb, q1, q2⟩ := Hat.out j hlt Hp.out
        cases bb
        all_goals
          go_wp2_with (go_at_call 22; refine (Lit_c _ _ _ _).mono ?_; rintro e w1 ⟨rfl, hb⟩; have hc := hb.cellE; have hf := hb.frozenE; have hz := hb.size; have ha := alloc_keeps w1; (try simp only [World.size_alloc] at hc hf hz); (try simp only [World.size_setCell] at hc hf hz); (try simp only [World.size_drew] at hc hf hz))
        · go_roundw
          case rel => exact ⟨j + 1, by omega, by go_num, fun i hi => by
            rcases Nat.lt_or_ge i j with h | h
            · exact Hp.out i h
            · rw [show i = j by omega]; simp at q2; omega, by (repeat' (first | (with_reducible assumption) | (with_reducible exact Ext.refl _) | (with_reducible refine Ext.alloc ?_ _) | (with_reducible refine Ext.drew ?_) | (with_reducible refine Ext.drewN ?_ _) | (with_reducible refine Ext.setCell ?_ ?_ _) | (with_reducible refine Ext.trans ?_ (by assumption)) | go_size))⟩
          case measure => simp [intOf]; omega
        · go_ret
          exact ⟨rfl, by (repeat' (first | (with_reducible assumption) | (with_reducible exact Ext.refl _) | (with_reducible refine Ext.alloc ?_ _) | (with_reducible refine Ext.drew ?_) | (with_reducible refine Ext.drewN ?_ _) | (with_reducible refine Ext.setCell ?_ ?_ _) | (with_reducible refine Ext.trans ?_ (by assumption)) | go_size))⟩
      · obtain rfl : j = N := by omega
        have hnx := Hend.out Hp.out
        have hnb : (nx == -1) = true := by first | rfl | (rw [hnx]; rfl)
        clear hnx
        go_wp2_with fail
        all_goals
          go_ret
          exact ⟨by first | rfl | exact ret_bool hnb, by (repeat' (first | (with_reducible assumption) | (with_reducible exact Ext.refl _) | (with_reducible refine Ext.alloc ?_ _) | (with_reducible refine Ext.drew ?_) | (with_reducible refine Ext.drewN ?_ _) | (with_reducible refine Ext.setCell ?_ ?_ _) | (with_reducible refine Ext.trans ?_ (by assumption)) | go_size))⟩

end Go.Proofs.YtknlnmalaidaiaaDoor
