/- The walk of the law SunYear. -/
import Derived.Test.YtknlnmalaidaiaaDoorS8
import Derived.Test.YtknlnmalaidaiaaDoorP6
namespace Go.Proofs.YtknlnmalaidaiaaDoor
open Go.RowKit

set_option maxHeartbeats 2000000 in
theorem SunYear_walk (a0 : Int) (w0 : IsI a0) (a1 : Int) (w1 : IsI a1) (a2 : Int) (w2 : IsI a2) (w : World) (hT : Tab w) :
    Calls Tryd.prog 9 #[.int .i64 a0, .int .i64 a1, .int .i64 a2] w fun e w' => e = .returned (.bool true) ∧ Ext w w' := by
  obtain ⟨p0, p1⟩ := @pickF_bd a0 330 (by omega)
  obtain ⟨m0, m1⟩ := @pickF_bd a1 1440 (by omega)
  obtain ⟨k0, k1⟩ := @pickF_bd a2 300 (by omega)
  have hs := Sun.season_bd (1440 * pickF a0 330 + pickF a1 1440)
  have hh := Sun.season_half (1440 * pickF a0 330 + pickF a1 1440)
  have hu := Sun.season_bd (1440 * pickF a0 330 + pickF a1 1440 + 259200)
  have Hh := Lib.hid hh; clear hh
  have e1 := Sun.noon_day (1440 * pickF a0 330 + pickF a1 1440) (pickF a2 300)
  have e2 := Sun.season_year (1440 * pickF a0 330 + pickF a1 1440)
  go_enter Tryd.func9, Tryd.ntmps9
  go_wp2_with (first | (go_at_call 11; refine (sane_c _ hT).mono ?_; rintro e w1 ⟨rfl, hb⟩; have hc := hb.cellE; have hf := hb.frozenE; have hz := hb.size; have ha := alloc_keeps w1; (try simp only [World.size_alloc] at hc hf hz); (try simp only [World.size_setCell] at hc hf hz); (try simp only [World.size_drew] at hc hf hz)) | (go_at_call 13; refine (pick_c _ _ _ (by assumption) (by omega) (by omega)).mono ?_; rintro e w' ⟨rfl, rfl⟩) | (go_at_call 14; refine (Noon_yes _ _ (Sun.minB_t.2 (by omega))).mono ?_; rintro e w' ⟨rfl, rfl⟩) | (go_at_call 16; refine (Season_yes _ _ (Sun.minB_t.2 (by omega))).mono ?_; rintro e w1 ⟨rfl, hb⟩; have hc := hb.cellE; have hf := hb.frozenE; have hz := hb.size; have ha := alloc_keeps w1; (try simp only [World.size_alloc] at hc hf hz); (try simp only [World.size_setCell] at hc hf hz); (try simp only [World.size_drew] at hc hf hz)))
  all_goals
    go_ret
    exact ⟨ret_bool (by first | rfl | (have := Hh.out; simp; omega)), by (repeat' (first | (with_reducible assumption) | (with_reducible exact Ext.refl _) | (with_reducible refine Ext.alloc ?_ _) | (with_reducible refine Ext.drew ?_) | (with_reducible refine Ext.drewN ?_ _) | (with_reducible refine Ext.setCell ?_ ?_ _) | (with_reducible refine Ext.trans ?_ (by assumption)) | go_size))⟩

end Go.Proofs.YtknlnmalaidaiaaDoor
