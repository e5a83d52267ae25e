/- The walk of the law SunFalls. -/
import Derived.Test.YtknlnmalaidaiaaDoorS8
import Derived.Test.YtknlnmalaidaiaaDoorS6
import Derived.Test.YtknlnmalaidaiaaDoorM9
import Derived.Deep.CutRange
namespace Go.Proofs.YtknlnmalaidaiaaDoor
open Go.RowKit

set_option maxRecDepth 100000 in
set_option maxHeartbeats 8000000 in
theorem SunFalls_walk (a0 : Int) (w0 : IsI a0) (a1 : Int) (w1 : IsI a1) (a2 : Int) (w2 : IsI a2) (a3 : Int) (w3 : IsI a3) (a4 : Int) (w4 : IsI a4) (w : World) (hT : Tab w) :
    Calls Tryd.prog 6 #[.int .i64 a0, .int .i64 a1, .int .i64 a2, .int .i64 a3, .int .i64 a4] w fun e w' => e = .returned (.bool true) ∧ Ext w w' := by
  obtain ⟨x0, x1⟩ := @pickF_bd a0 48 (by omega)
  obtain ⟨y0, y1⟩ := @pickF_bd a1 24 (by omega)
  obtain ⟨d0, d1⟩ := @pickF_bd a2 690 (by omega)
  obtain ⟨p0, p1⟩ := @pickF_bd a3 720 (by omega)
  obtain ⟨q0, q1⟩ := @pickF_bd a4 720 (by omega)
  have Hb : Hid (∀ s, 0 ≤ s → s < 1440 → (s = 1425 - 30 * pickF a0 48 ∧ Sun.ac (pickF a0 48) (1440 * pickF a2 690 + s) = 0) ∨ (s ≠ 1425 - 30 * pickF a0 48 ∧ 0 < Sun.ac (pickF a0 48) (1440 * pickF a2 690 + s))) :=
    fun s h h' => Sun.ac_best _ _ s x0 (by omega) h h'
  have Hc : Hid (∀ s, 0 ≤ s → s < 1440 → Sun.ac (pickF a0 48) (1440 * pickF a2 690 + s) ≤ 24000) :=
    fun s h h' => (Sun.ac_bd (by omega) x0 (by omega)).2
  go_enter Tryd.func6, Tryd.ntmps6
  go_wp2_with (first | (go_at_call 11; refine (sane_c _ hT).mono ?_; rintro e wS ⟨rfl, hb⟩; have hE := hb; clear hb) | (go_at_call 30; refine (day_c _ _ (by assumption)).mono ?_; rintro e w' ⟨rfl, rfl⟩) | (go_at_call 12; refine (rCell_c _ _ _ (by assumption) (by assumption)).mono ?_; rintro e wC ⟨rfl, hb⟩; replace hE := hE.trans hb; clear hb))
  refine wp_name (fun V => Ext w V ∧ V.cell? ⟨wC.heap.size, 0, none⟩ = some (.int .i64 (pickF a0 48)) ∧ V.cell? ⟨wC.heap.size, 1, none⟩ = some (.int .i64 (pickF a1 24))) ⟨by (repeat' (first | (with_reducible assumption) | (with_reducible exact Ext.refl _) | (with_reducible refine Ext.alloc ?_ _) | (with_reducible refine Ext.drew ?_) | (with_reducible refine Ext.drewN ?_ _) | (with_reducible refine Ext.setCell ?_ ?_ _) | (with_reducible refine Ext.trans ?_ (by assumption)) | go_size)), by simp [go_sem], by simp [go_sem]⟩ ?_
  rintro V ⟨hE, c0, c1⟩
  generalize wC.heap.size = B at *
  go_loopw [13, 14, 15] (fun bb l t wr => ∃ j : Int, 0 ≤ j ∧ j ≤ 1440 ∧ t = .int .i64 (1440 * pickF a2 690 + j) ∧ wr = V ∧ ∃ bv lv : Int, bb = .int .i64 bv ∧ l = .int .i64 lv ∧ 0 ≤ lv ∧ lv ≤ 48000 ∧
      (1440 * pickF a2 690 ≤ bv ∧ bv ≤ 1440 * pickF a2 690 + 1440) ∧ ((j ≤ 1425 - 30 * pickF a0 48 ∧ 0 < lv) ∨ (1425 - 30 * pickF a0 48 < j ∧ lv = 0 ∧ bv = 1440 * pickF a2 690 + (1425 - 30 * pickF a0 48))))
    (fun _ _ t _ => (1440 * pickF a2 690 + 1440 - intOf t).toNat)
  case atStart => exact ⟨0, by omega, by omega, by simp, rfl, _, _, rfl, rfl, by omega, by omega, by omega, .inl (by omega)⟩
  case round =>
    obtain ⟨j, hj0, hj1, rfl, rfl, bv, lv, rfl, rfl, hl0, hl1, hbv, hrel⟩ := hrel
    by_cases hlt : j < 1440
    · have hac := Hc.out j hj0 hlt
      have hbs := Hb.out j hj0 hlt
      have hF := hrel
      rcases hrel with ⟨h1, h2⟩ | ⟨h1, h2, h3⟩
      · rcases hbs with ⟨rfl, h5⟩ | ⟨h4, h5⟩
        all_goals
          clear hF
          go_wp2_with (go_at_call 31; refine (across_c _ _ _ (Sun.minB_t.2 (by omega)) (by omega) (by omega)).mono ?_; rintro e w' ⟨rfl, rfl⟩)
        all_goals go_roundw
        all_goals (first | (skip; case measure => simp [intOf]; omega) | skip)
        all_goals first | exact ⟨j + 1, by omega, by omega, by go_num, by trivial, _, _, rfl, rfl, by omega, by omega, by omega, by omega⟩ | exact ⟨1425 - 30 * pickF a0 48 + 1, by omega, by omega, by go_num, by trivial, _, _, rfl, rfl, by omega, by omega, by omega, by omega⟩
      · rcases hbs with ⟨h4, h5⟩ | ⟨h4, h5⟩
        · exact absurd h1 (by omega)
        · clear hF
          go_wp2_with (go_at_call 31; refine (across_c _ _ _ (Sun.minB_t.2 (by omega)) (by omega) (by omega)).mono ?_; rintro e w' ⟨rfl, rfl⟩)
          all_goals go_roundw
          all_goals (first | (skip; case measure => simp [intOf]; omega) | skip)
          all_goals exact ⟨j + 1, by omega, by omega, by go_num, by trivial, _, _, rfl, rfl, by omega, by omega, by omega, by omega⟩
    · have hbe : bv = 1440 * pickF a2 690 + (1425 - 30 * pickF a0 48) := by omega
      obtain rfl : j = 1440 := by omega
      subst hbe
      clear hrel hbv
      have K1 : ∀ a b, 0 ≤ a → a ≤ b → b < 720 → (1440 ≤ 1425 - 30 * pickF a0 48 + b ∨ Sun.height (pickF a0 48) (pickF a1 24) (1440 * pickF a2 690 + (1425 - 30 * pickF a0 48) + b) ≤ Sun.height (pickF a0 48) (pickF a1 24) (1440 * pickF a2 690 + (1425 - 30 * pickF a0 48) + a)) := fun a b h1 h2 h3 => by
        rcases Int.lt_or_le (1425 - 30 * pickF a0 48 + b) 1440 with e | e
        · right; rw [Int.add_assoc, Int.add_assoc]; exact Sun.fall_after _ _ _ a b x0 (by omega) h1 h2 h3 e
        · exact .inl e
      have K2 : ∀ a b, 0 ≤ a → a ≤ b → b < 720 → (1425 - 30 * pickF a0 48 - b < 0 ∨ Sun.height (pickF a0 48) (pickF a1 24) (1440 * pickF a2 690 + (1425 - 30 * pickF a0 48) - b) ≤ Sun.height (pickF a0 48) (pickF a1 24) (1440 * pickF a2 690 + (1425 - 30 * pickF a0 48) - a)) := fun a b h1 h2 h3 => by
        rcases Int.lt_or_le (1425 - 30 * pickF a0 48 - b) 0 with e | e
        · exact .inl e
        · right; rw [Int.add_sub_assoc, Int.add_sub_assoc]; exact Sun.fall_before _ _ _ a b x0 (by omega) h1 h2 h3 e
      rcases Int.lt_trichotomy (pickF a3 720) (pickF a4 720) with hq | hq | hq
      · have k1 := K1 (pickF a3 720) (pickF a4 720) p0 (by omega) q1
        have k2 := K2 (pickF a3 720) (pickF a4 720) p0 (by omega) q1
        clear K1 K2
        go_wp2_with (first | (go_at_call 13; refine (pick_c _ _ _ (by assumption) (by omega) (by omega)).mono ?_; rintro e w' ⟨rfl, rfl⟩) | (go_at_call 18; refine (Height_yes _ _ _ _ (Sun.minB_t.2 (by omega)) (Globe.vcB_t.2 (by omega))).mono ?_; rintro e wH ⟨rfl, hb⟩; replace hE := hE.trans hb; replace c0 := hb.cell c0; replace c1 := hb.cell c1; clear hb))
        all_goals (go_ret; exact ⟨rfl, hE⟩)
      · have k1 : ∀ t, Sun.height (pickF a0 48) (pickF a1 24) (t + pickF a3 720) = Sun.height (pickF a0 48) (pickF a1 24) (t + pickF a4 720) := fun t => by rw [hq]
        have k2 : ∀ t, Sun.height (pickF a0 48) (pickF a1 24) (t - pickF a3 720) = Sun.height (pickF a0 48) (pickF a1 24) (t - pickF a4 720) := fun t => by rw [hq]
        replace k1 := k1 (1440 * pickF a2 690 + (1425 - 30 * pickF a0 48))
        replace k2 := k2 (1440 * pickF a2 690 + (1425 - 30 * pickF a0 48))
        clear K1 K2
        go_wp2_with (first | (go_at_call 13; refine (pick_c _ _ _ (by assumption) (by omega) (by omega)).mono ?_; rintro e w' ⟨rfl, rfl⟩) | (go_at_call 18; refine (Height_yes _ _ _ _ (Sun.minB_t.2 (by omega)) (Globe.vcB_t.2 (by omega))).mono ?_; rintro e wH ⟨rfl, hb⟩; replace hE := hE.trans hb; replace c0 := hb.cell c0; replace c1 := hb.cell c1; clear hb))
        all_goals (go_ret; exact ⟨rfl, hE⟩)
      · have k1 := K1 (pickF a4 720) (pickF a3 720) q0 (by omega) p1
        have k2 := K2 (pickF a4 720) (pickF a3 720) q0 (by omega) p1
        clear K1 K2
        go_wp2_with (first | (go_at_call 13; refine (pick_c _ _ _ (by assumption) (by omega) (by omega)).mono ?_; rintro e w' ⟨rfl, rfl⟩) | (go_at_call 18; refine (Height_yes _ _ _ _ (Sun.minB_t.2 (by omega)) (Globe.vcB_t.2 (by omega))).mono ?_; rintro e wH ⟨rfl, hb⟩; replace hE := hE.trans hb; replace c0 := hb.cell c0; replace c1 := hb.cell c1; clear hb))
        all_goals (go_ret; exact ⟨rfl, hE⟩)

end Go.Proofs.YtknlnmalaidaiaaDoor
