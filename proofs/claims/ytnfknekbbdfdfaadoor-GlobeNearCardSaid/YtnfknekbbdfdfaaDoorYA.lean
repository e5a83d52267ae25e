/- pick, in chapter 5's laws. -/
import Derived.Test.YtnfknekbbdfdfaaDoorSA
import Derived.Test.YtnfknekbbdfdfaaDoorLQ
namespace Go.Proofs.YtnfknekbbdfdfaaDoor
open Go.RowKit

theorem pick_c (c n : Int) (w : World) (hc : IsI c) (h0 : 0 < n) (h1 : n ≤ 100000000) : Calls Tryd.prog 12 #[.int .i64 c, .int .i64 n] w fun e w' => e = .returned (.int .i64 (pickF c n)) ∧ w = w' := by
  obtain ⟨h2, h3⟩ := hc
  by_cases h : c < 0
  · go_enter Tryd.func12, Tryd.ntmps12
    go_wp2
    go_ret
    exact ⟨ret_int (by rw [pickF_neg h, ← Int.neg_tmod, Int.tmod_eq_emod_of_nonneg (by omega)]), rfl⟩
  · have h' : 0 ≤ c := by omega
    go_enter Tryd.func12, Tryd.ntmps12
    go_wp2
    go_ret
    exact ⟨ret_int (by rw [pickF_pos h']), rfl⟩

theorem Has_v {w0 : World} {b o : Nat} (c : Nat) {l : List Int} {x y : Nat} (w : World) (h : VA w0 b o l) (hE : Ext w0 w) (hx : x < 48) (hy : y < 24) :
    Calls Tryd.prog 31 #[.agg #[.slice (some ⟨b, o, none⟩) 24 c], .agg #[.int .i64 (x : Int), .int .i64 (y : Int)]] w fun e w' => e = .returned (.bool (Globe.hasL l x y)) ∧ Ext w w' :=
  Has_y b o c l x y w (h.ext hE).1 h.2 hx hy
theorem Contains_r {w1 w2 : World} {b1 o1 b2 o2 : Nat} (c1 c2 : Nat) {l1 l2 : List Int} {r : Bool} (w : World) (h1 : VA w1 b1 o1 l1) (e1 : Ext w1 w) (h2 : VA w2 b2 o2 l2) (e2 : Ext w2 w) (hr : Globe.containsB l1 l2 = r) :
    Calls Tryd.prog 43 #[.agg #[.slice (some ⟨b1, o1, none⟩) 24 c1], .agg #[.slice (some ⟨b2, o2, none⟩) 24 c2]] w fun e w' => e = .returned (.bool r) ∧ Ext w w' := hr ▸ Contains_v c1 c2 w h1 e1 h2 e2
theorem rSame_r {w1 w2 : World} {b1 o1 b2 o2 : Nat} (c1 c2 : Nat) {l1 l2 : List Int} {r : Bool} (w : World) (h1 : VA w1 b1 o1 l1) (e1 : Ext w1 w) (h2 : VA w2 b2 o2 l2) (e2 : Ext w2 w) (hr : decide (l1 = l2) = r) :
    Calls Tryd.prog 21 #[.agg #[.slice (some ⟨b1, o1, none⟩) 24 c1], .agg #[.slice (some ⟨b2, o2, none⟩) 24 c2]] w fun e w' => e = .returned (.bool r) ∧ Ext w w' := hr ▸ rSame_c c1 c2 w h1.aa e1 h2.aa e2
theorem Has_r {w0 : World} {b o : Nat} (c : Nat) {l : List Int} {x y : Nat} {r : Bool} (w : World) (h : VA w0 b o l) (hE : Ext w0 w) (hx : x < 48) (hy : y < 24) (hr : Globe.hasL l x y = r) :
    Calls Tryd.prog 31 #[.agg #[.slice (some ⟨b, o, none⟩) 24 c], .agg #[.int .i64 (x : Int), .int .i64 (y : Int)]] w fun e w' => e = .returned (.bool r) ∧ Ext w w' := hr ▸ Has_v c w h hE hx hy
theorem Count_r {w0 : World} {b o : Nat} (c : Nat) {l : List Int} {n : Nat} (w : World) (h : VA w0 b o l) (hE : Ext w0 w) (hT : Tab w) (hn : (Globe.cellsTo l 24).length = n) :
    Calls Tryd.prog 24 #[.agg #[.slice (some ⟨b, o, none⟩) 24 c]] w fun e w' => e = .returned (.int .i64 (n : Int)) ∧ Ext w w' := hn ▸ Count_v c w h hE hT

end Go.Proofs.YtnfknekbbdfdfaaDoor
