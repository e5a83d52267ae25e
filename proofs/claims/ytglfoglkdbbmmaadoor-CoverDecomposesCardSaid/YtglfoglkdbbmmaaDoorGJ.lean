/- Contracts of package globe: Count. -/
import Derived.Test.YtglfoglkdbbmmaaDoorG5
import Derived.Test.YtglfoglkdbbmmaaDoorW5
namespace Go.Proofs.YtglfoglkdbbmmaaDoor
open Go.RowKit

/-- How many cells. -/
theorem Count_c {w0 : World} {a : Option Addr} {l : List Int} {n : Nat} (c : Nat) {v : Bool} (w : World) (h : AA w0 a l n v) (hE : Ext w0 w) (hT : Tab w) :
    Calls Tryd.prog 29 #[.agg #[.slice a n c]] w fun e w' => e = .returned (.int .i64 (Globe.countL l : Nat)) ∧ Ext w w' := by
  replace h := h.ext hE
  obtain ⟨h1, rfl, h3, h4⟩ := h
  unfold Globe.countL Globe.cellsL
  rw [h4]
  cases v
  · exact Count_no a l c w h1 h3 h4
  · obtain ⟨b, o, rfl, hr⟩ := h1.rows (Globe.len_of_valid h4)
    have := Globe.len_of_valid h4
    exact Count_yes b o c l w (fun i hi => hr i (by omega)) h4 hT
theorem Count_v {w0 : World} {b o : Nat} (c : Nat) {l : List Int} (w : World) (h : VA w0 b o l) (hE : Ext w0 w) (hT : Tab w) :
    Calls Tryd.prog 29 #[.agg #[.slice (some ⟨b, o, none⟩) 24 c]] w fun e w' => e = .returned (.int .i64 ((Globe.cellsTo l 24).length : Nat)) ∧ Ext w w' := by
  have := Count_c c w h.aa hE hT
  unfold Globe.countL Globe.cellsL at this
  rwa [h.2] at this

theorem Count_r {w0 : World} {b o : Nat} (c : Nat) {l : List Int} {n : Nat} (w : World) (h : VA w0 b o l) (hE : Ext w0 w) (hT : Tab w) (hn : (Globe.cellsTo l 24).length = n) :
    Calls Tryd.prog 29 #[.agg #[.slice (some ⟨b, o, none⟩) 24 c]] w fun e w' => e = .returned (.int .i64 (n : Int)) ∧ Ext w w' := hn ▸ Count_v c w h hE hT

end Go.Proofs.YtglfoglkdbbmmaaDoor
