/- The walks of the laws SunAround, SunShadow, SunNext. -/
import Derived.Test.YtknlnmalaidaiaaDoorS8
import Derived.Test.YtknlnmalaidaiaaDoorS6
import Derived.Test.YtknlnmalaidaiaaDoorM8
namespace Go.Proofs.YtknlnmalaidaiaaDoor
open Go.RowKit

set_option maxHeartbeats 2000000 in
theorem SunAround_walk (a0 : Int) (w0 : IsI a0) (a1 : Int) (w1 : IsI a1) (a2 : Int) (w2 : IsI a2) (a3 : Int) (w3 : IsI a3) (a4 : Int) (w4 : IsI a4) (w : World) (hT : Tab w) :
    Calls Tryd.prog 4 #[.int .i64 a0, .int .i64 a1, .int .i64 a2, .int .i64 a3, .int .i64 a4] w fun e w' => e = .returned (.bool true) ∧ Ext w w' := by
  obtain ⟨x0, x1⟩ := @pickF_bd a0 48 (by omega)
  obtain ⟨y0, y1⟩ := @pickF_bd a1 24 (by omega)
  obtain ⟨d0, d1⟩ := @pickF_bd a2 690 (by omega)
  obtain ⟨k0, k1⟩ := @pickF_bd a4 48 (by omega)
  obtain ⟨m0, m1⟩ := @pickF_bd a3 (1440 - 30 * pickF a4 48) (by omega)
  have hh := @Sun.height_around (pickF a0 48) (pickF a1 24) (pickF a4 48) (1440 * pickF a2 690 + pickF a3 (1440 - 30 * pickF a4 48)) _ (pickF a2 690) x0 (by omega) k0 (by omega) m0 (by omega) rfl
  have hl : Sun.litB (pickF a0 48) (pickF a1 24) (1440 * pickF a2 690 + pickF a3 (1440 - 30 * pickF a4 48) + 30 * pickF a4 48) = decide (0 < Sun.height (pickF a0 48) (pickF a1 24) (1440 * pickF a2 690 + pickF a3 (1440 - 30 * pickF a4 48) + 30 * pickF a4 48)) := by
    rw [Sun.litB, Sun.minB_t.2 (by omega), Globe.vcB_t.2 (by omega)]; rfl
  rw [hh] at hl
  have hxk0 : 0 ≤ (pickF a0 48 + pickF a4 48) % 48 := by omega
  have hxk1 : (pickF a0 48 + pickF a4 48) % 48 < 48 := by omega
  go_enter Tryd.func4, Tryd.ntmps4
  go_wp2_with (first | (go_at_call 11; refine (sane_c _ hT).mono ?_; rintro e w1 ⟨rfl, hb⟩; have hc := hb.cellE; have hf := hb.frozenE; have hz := hb.size; have ha := alloc_keeps w1; (try simp only [World.size_alloc] at hc hf hz); (try simp only [World.size_setCell] at hc hf hz); (try simp only [World.size_drew] at hc hf hz)) | (go_at_call 13; refine (pick_c _ _ _ (by assumption) (by omega) (by omega)).mono ?_; rintro e w' ⟨rfl, rfl⟩) | (go_at_call 30; refine (day_c _ _ (by assumption)).mono ?_; rintro e w' ⟨rfl, rfl⟩) | (go_at_call 12; refine (rCell_c _ _ _ (by assumption) (by assumption)).mono ?_; rintro e w1 ⟨rfl, hb⟩; have hc := hb.cellE; have hf := hb.frozenE; have hz := hb.size; have ha := alloc_keeps w1; (try simp only [World.size_alloc] at hc hf hz); (try simp only [World.size_setCell] at hc hf hz); (try simp only [World.size_drew] at hc hf hz)) | (go_at_call 18; refine (Height_yes _ _ _ _ (Sun.minB_t.2 (by omega)) (Globe.vcB_t.2 (by omega))).mono ?_; rintro e w1 ⟨rfl, hb⟩; have hc := hb.cellE; have hf := hb.frozenE; have hz := hb.size; have ha := alloc_keeps w1; (try simp only [World.size_alloc] at hc hf hz); (try simp only [World.size_setCell] at hc hf hz); (try simp only [World.size_drew] at hc hf hz)) | (go_at_call 22; refine (Lit_c _ _ _ _).mono ?_; rintro e w1 ⟨rfl, hb⟩; have hc := hb.cellE; have hf := hb.frozenE; have hz := hb.size; have ha := alloc_keeps w1; (try simp only [World.size_alloc] at hc hf hz); (try simp only [World.size_setCell] at hc hf hz); (try simp only [World.size_drew] at hc hf hz)))
  go_ret
  exact ⟨rfl, by (repeat' (first | (with_reducible assumption) | (with_reducible exact Ext.refl _) | (with_reducible refine Ext.alloc ?_ _) | (with_reducible refine Ext.drew ?_) | (with_reducible refine Ext.drewN ?_ _) | (with_reducible refine Ext.setCell ?_ ?_ _) | (with_reducible refine Ext.trans ?_ (by assumption)) | go_size))⟩

set_option maxHeartbeats 2000000 in
theorem SunShadow_walk (a0 : Int) (w0 : IsI a0) (a1 : Int) (w1 : IsI a1) (a2 : Int) (w2 : IsI a2) (a3 : Int) (w3 : IsI a3) (a4 : Int) (w4 : IsI a4) (w : World) (hT : Tab w) :
    Calls Tryd.prog 7 #[.int .i64 a0, .int .i64 a1, .int .i64 a2, .int .i64 a3, .int .i64 a4] w fun e w' => e = .returned (.bool true) ∧ Ext w w' := by
  obtain ⟨x0, x1⟩ := @pickF_bd a0 48 (by omega)
  obtain ⟨y0, y1⟩ := @pickF_bd a1 24 (by omega)
  obtain ⟨u0, u1⟩ := @pickF_bd a2 48 (by omega)
  obtain ⟨v0, v1⟩ := @pickF_bd a3 24 (by omega)
  obtain ⟨t0, t1⟩ := @pickF_bd a4 1000001 (by omega)
  have hl : ∀ {x y : Int}, 0 ≤ x → x < 48 → 0 ≤ y → y < 24 → Sun.litB x y (pickF a4 1000001) = decide (0 < Sun.height x y (pickF a4 1000001)) ∧ Sun.darkB x y (pickF a4 1000001) = decide (Sun.height x y (pickF a4 1000001) < -20) := fun h1 h2 h3 h4 => by
    rw [Sun.litB, Sun.darkB, Sun.minB_t.2 (by omega), Globe.vcB_t.2 (by omega)]; exact ⟨rfl, rfl⟩
  obtain ⟨l1, l2⟩ := hl x0 x1 y0 y1
  obtain ⟨l3, l4⟩ := hl u0 u1 v0 v1
  clear hl
  go_enter Tryd.func7, Tryd.ntmps7
  go_wp2_with (first | (go_at_call 11; refine (sane_c _ hT).mono ?_; rintro e w1 ⟨rfl, hb⟩; have hc := hb.cellE; have hf := hb.frozenE; have hz := hb.size; have ha := alloc_keeps w1; (try simp only [World.size_alloc] at hc hf hz); (try simp only [World.size_setCell] at hc hf hz); (try simp only [World.size_drew] at hc hf hz)) | (go_at_call 13; refine (pick_c _ _ _ (by assumption) (by omega) (by omega)).mono ?_; rintro e w' ⟨rfl, rfl⟩) | (go_at_call 12; refine (rCell_c _ _ _ (by assumption) (by assumption)).mono ?_; rintro e w1 ⟨rfl, hb⟩; have hc := hb.cellE; have hf := hb.frozenE; have hz := hb.size; have ha := alloc_keeps w1; (try simp only [World.size_alloc] at hc hf hz); (try simp only [World.size_setCell] at hc hf hz); (try simp only [World.size_drew] at hc hf hz)) | (go_at_call 18; refine (Height_yes _ _ _ _ (Sun.minB_t.2 (by omega)) (Globe.vcB_t.2 (by omega))).mono ?_; rintro e w1 ⟨rfl, hb⟩; have hc := hb.cellE; have hf := hb.frozenE; have hz := hb.size; have ha := alloc_keeps w1; (try simp only [World.size_alloc] at hc hf hz); (try simp only [World.size_setCell] at hc hf hz); (try simp only [World.size_drew] at hc hf hz)) | (go_at_call 22; refine (Lit_c _ _ _ _).mono ?_; rintro e w1 ⟨rfl, hb⟩; have hc := hb.cellE; have hf := hb.frozenE; have hz := hb.size; have ha := alloc_keeps w1; (try simp only [World.size_alloc] at hc hf hz); (try simp only [World.size_setCell] at hc hf hz); (try simp only [World.size_drew] at hc hf hz)) | (go_at_call 24; refine (Dark_c _ _ _ _).mono ?_; rintro e w1 ⟨rfl, hb⟩; have hc := hb.cellE; have hf := hb.frozenE; have hz := hb.size; have ha := alloc_keeps w1; (try simp only [World.size_alloc] at hc hf hz); (try simp only [World.size_setCell] at hc hf hz); (try simp only [World.size_drew] at hc hf hz)))
  all_goals
    go_ret
    refine ⟨ret_bool ?_, by (repeat' (first | (with_reducible assumption) | (with_reducible exact Ext.refl _) | (with_reducible refine Ext.alloc ?_ _) | (with_reducible refine Ext.drew ?_) | (with_reducible refine Ext.drewN ?_ _) | (with_reducible refine Ext.setCell ?_ ?_ _) | (with_reducible refine Ext.trans ?_ (by assumption)) | go_size))⟩
    first | rfl | (simp; omega)

end Go.Proofs.YtknlnmalaidaiaaDoor
