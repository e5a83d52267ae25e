/- Contracts of package globe: Near. -/
import Derived.Test.YtnfknekbbdfdfaaDoorG1
import Derived.Test.YtnfknekbbdfdfaaDoorMN
namespace Go.Proofs.YtnfknekbbdfdfaaDoor
open Go.RowKit

/-- The distance of two cells; -1: not both are valid. -/
def nearI (x y x' y' : Int) : Int := if Globe.vcB x y && Globe.vcB x' y' then (Globe.nearN x.toNat y.toNat x'.toNat y'.toNat : Nat) else -1
theorem nearI_no {x y x' y' : Int} (h : (Globe.vcB x y && Globe.vcB x' y') = false) : nearI x y x' y' = -1 := by rw [nearI, h]; rfl
/-- The distance of two columns, around. -/
def circI (x x' : Int) : Int := min (max (x - x') (x' - x)) (48 - max (x - x') (x' - x))
def rowI (y y' : Int) : Int := max (y - y') (y' - y)
theorem rowI_or (y y' : Int) : (rowI y y' = y - y' ∧ y' ≤ y) ∨ (rowI y y' = y' - y ∧ y ≤ y') := by unfold rowI; omega
theorem circI_or (x x' : Int) : (circI x x' = rowI x x' ∧ rowI x x' ≤ 24) ∨ (circI x x' = 48 - rowI x x' ∧ 24 ≤ rowI x x') := by unfold circI rowI; omega
theorem circ_cast {a b : Nat} (ha : a < 48) (hb : b < 48) : ((Globe.circ a b : Nat) : Int) = circI a b := by
  rcases circI_or a b with h | h <;> rcases rowI_or a b with h' | h' <;> (unfold Globe.circ; omega)
theorem nearI_yes {x y x' y' : Int} (h : Globe.vcB x y = true) (h' : Globe.vcB x' y' = true) : nearI x y x' y' = max (rowI y y') (circI x x') := by
  rw [nearI, h, h']
  rw [Globe.vcB_t] at h h'
  simp only [Bool.and_self, if_true]
  have e := @circ_cast x.toNat x'.toNat (by omega) (by omega)
  rw [Int.toNat_of_nonneg (by omega), Int.toNat_of_nonneg (by omega)] at e
  rw [← e]
  unfold Globe.nearN
  generalize Globe.circ x.toNat x'.toNat = k
  rcases rowI_or y y' with h2 | h2 <;> rw [h2.1] <;> omega
set_option maxHeartbeats 2000000 in
theorem Near_c (x y x' y' : Int) (w : World) :
    Calls Tryd.prog 17 #[.agg #[.int .i64 x, .int .i64 y], .agg #[.int .i64 x', .int .i64 y']] w fun e w' => e = .returned (.int .i64 (nearI x y x' y')) ∧ Ext w w' := by
  cases h1 : Globe.vcB x y
  · have hr := nearI_no (x := x) (y := y) (x' := x') (y' := y') (by rw [h1]; rfl)
    have Hr := Lib.hid hr; clear hr
    go_enter Tryd.func17, Tryd.ntmps17
    go_wp2_with (go_at_call 15; refine (ValidCell_c _ _ _).mono ?_; rintro e w1 ⟨rfl, hb⟩; have hc := hb.cellE; have hf := hb.frozenE; have hz := hb.size; have ha := alloc_keeps w1; (try simp only [World.size_alloc] at hc hf hz); (try simp only [World.size_setCell] at hc hf hz); (try simp only [World.size_drew] at hc hf hz))
    go_ret
    exact ⟨ret_int Hr.out.symm, by (repeat' (first | (with_reducible assumption) | (with_reducible exact Ext.refl _) | (with_reducible refine Ext.alloc ?_ _) | (with_reducible refine Ext.drew ?_) | (with_reducible refine Ext.drewN ?_ _) | (with_reducible refine Ext.setCell ?_ ?_ _) | (with_reducible refine Ext.trans ?_ (by assumption)) | go_size))⟩
  · cases h2 : Globe.vcB x' y'
    · have hr := nearI_no (x := x) (y := y) (x' := x') (y' := y') (by rw [h1, h2]; rfl)
      have Hr := Lib.hid hr; clear hr
      go_enter Tryd.func17, Tryd.ntmps17
      go_wp2_with (go_at_call 15; refine (ValidCell_c _ _ _).mono ?_; rintro e w1 ⟨rfl, hb⟩; have hc := hb.cellE; have hf := hb.frozenE; have hz := hb.size; have ha := alloc_keeps w1; (try simp only [World.size_alloc] at hc hf hz); (try simp only [World.size_setCell] at hc hf hz); (try simp only [World.size_drew] at hc hf hz))
      go_ret
      exact ⟨ret_int Hr.out.symm, by (repeat' (first | (with_reducible assumption) | (with_reducible exact Ext.refl _) | (with_reducible refine Ext.alloc ?_ _) | (with_reducible refine Ext.drew ?_) | (with_reducible refine Ext.drewN ?_ _) | (with_reducible refine Ext.setCell ?_ ?_ _) | (with_reducible refine Ext.trans ?_ (by assumption)) | go_size))⟩
    · have hr := nearI_yes h1 h2
      have Hr := Lib.hid hr; clear hr
      obtain ⟨a1, a2, a3, a4⟩ := Globe.vcB_t.1 h1
      obtain ⟨b1, b2, b3, b4⟩ := Globe.vcB_t.1 h2
      go_enter Tryd.func17, Tryd.ntmps17
      go_wp2_with (go_at_call 15; refine (ValidCell_c _ _ _).mono ?_; rintro e w1 ⟨rfl, hb⟩; have hc := hb.cellE; have hf := hb.frozenE; have hz := hb.size; have ha := alloc_keeps w1; (try simp only [World.size_alloc] at hc hf hz); (try simp only [World.size_setCell] at hc hf hz); (try simp only [World.size_drew] at hc hf hz))
      all_goals
        go_ret
        refine ⟨ret_int ?_, by (repeat' (first | (with_reducible assumption) | (with_reducible exact Ext.refl _) | (with_reducible refine Ext.alloc ?_ _) | (with_reducible refine Ext.drew ?_) | (with_reducible refine Ext.drewN ?_ _) | (with_reducible refine Ext.setCell ?_ ?_ _) | (with_reducible refine Ext.trans ?_ (by assumption)) | go_size))⟩
        rw [Hr.out]
        clear hc hf hz ha hb
        rcases circI_or x x' with ⟨h, h'⟩ | ⟨h, h'⟩ <;> rw [h] <;> (unfold rowI at *; omega)

end Go.Proofs.YtnfknekbbdfdfaaDoor
