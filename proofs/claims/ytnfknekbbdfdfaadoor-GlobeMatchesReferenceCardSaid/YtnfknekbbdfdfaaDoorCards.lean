/-
  DERIVED. GIVEN WITH THE SEED: THE CARDS: each row of YtnfknekbbdfdfaaDoorRows.lean that lists a variable, with what it lists TIED to the program's text (the seventh form; the later family's looks); each row that meets fmt, with fmt's text TOLD by the authors' own Lean function (tested against real Go, not proved from fmt's source: count such statements apart). THE CARD IS WHAT COUNTS. Prove the row's statement (the work); the ties are given (YtnfknekbbdfdfaaDoorTie.lean); close each card by the builder's one call (the guide's Derived/Test/ToyasCard.lean, 'card_holds'). Laid BY PROGRAM, IN A SANDBOX (cutbox-door.mjs). By AI agents, Wed Nov 11 2026. No macro, syntax, notation, axiom, sorry.
-/
import Derived.Test.YtnfknekbbdfdfaaDoorRows
import GoSem.ClaimSeven
namespace Go.Proofs.YtnfknekbbdfdfaaDoor
namespace Rows

/-- THE TIED CARD OF 'nadirlaw05.GlobeMatchesReference'. -/
def globeMatchesReferenceCard : Claim7 := { stood := { row := globeMatchesReferenceRow, standIns := [], harness := (true, "22d6b9366ba70c16117b3c4699687aa5a917e6a0cde4d74fea59e9ab0bf0f0f4"), looks := false }, kinds := [], alts := [], laidByText := true, laidKinds := [.data, .data], laidTests := true, laidLooks := .later }
def GlobeMatchesReferenceCardSaid : Prop := Claim7.holds Tryd.pinned (.plain (OpenSpec.ofChange globeMatchesReferenceSpec)) globeMatchesReferenceCard

/-- THE TIED CARD OF 'nadirlaw05.GlobeSets'. -/
def globeSetsCard : Claim7 := { stood := { row := globeSetsRow, standIns := [], harness := (true, "22d6b9366ba70c16117b3c4699687aa5a917e6a0cde4d74fea59e9ab0bf0f0f4"), looks := false }, kinds := [], alts := [], laidByText := true, laidKinds := [.data, .data], laidTests := true, laidLooks := .later }
def GlobeSetsCardSaid : Prop := Claim7.holds Tryd.pinned (.plain (OpenSpec.ofChange globeSetsSpec)) globeSetsCard

/-- THE TIED CARD OF 'nadirlaw05.GlobeAround'. -/
def globeAroundCard : Claim7 := { stood := { row := globeAroundRow, standIns := [], harness := (true, "22d6b9366ba70c16117b3c4699687aa5a917e6a0cde4d74fea59e9ab0bf0f0f4"), looks := false }, kinds := [], alts := [], laidByText := true, laidKinds := [.data, .data], laidTests := true, laidLooks := .later }
def GlobeAroundCardSaid : Prop := Claim7.holds Tryd.pinned (.plain (OpenSpec.ofChange globeAroundSpec)) globeAroundCard

/-- THE TIED CARD OF 'nadirlaw05.GlobeGrows'. -/
def globeGrowsCard : Claim7 := { stood := { row := globeGrowsRow, standIns := [], harness := (true, "22d6b9366ba70c16117b3c4699687aa5a917e6a0cde4d74fea59e9ab0bf0f0f4"), looks := false }, kinds := [], alts := [], laidByText := true, laidKinds := [.data, .data], laidTests := true, laidLooks := .later }
def GlobeGrowsCardSaid : Prop := Claim7.holds Tryd.pinned (.plain (OpenSpec.ofChange globeGrowsSpec)) globeGrowsCard

/-- THE TIED CARD OF 'nadirlaw05.GlobeNear'. -/
def globeNearCard : Claim7 := { stood := { row := globeNearRow, standIns := [], harness := (true, "22d6b9366ba70c16117b3c4699687aa5a917e6a0cde4d74fea59e9ab0bf0f0f4"), looks := false }, kinds := [], alts := [], laidByText := true, laidKinds := [.data, .data], laidTests := true, laidLooks := .later }
def GlobeNearCardSaid : Prop := Claim7.holds Tryd.pinned (.plain (OpenSpec.ofChange globeNearSpec)) globeNearCard

/-- THE TIED CARD OF 'nadirlaw05.GlobeBoxes'. -/
def globeBoxesCard : Claim7 := { stood := { row := globeBoxesRow, standIns := [], harness := (true, "22d6b9366ba70c16117b3c4699687aa5a917e6a0cde4d74fea59e9ab0bf0f0f4"), looks := false }, kinds := [], alts := [], laidByText := true, laidKinds := [.data, .data], laidTests := true, laidLooks := .later }
def GlobeBoxesCardSaid : Prop := Claim7.holds Tryd.pinned (.plain (OpenSpec.ofChange globeBoxesSpec)) globeBoxesCard

/-- THE TIED CARD OF 'nadirlaw05.GlobeCells'. -/
def globeCellsCard : Claim7 := { stood := { row := globeCellsRow, standIns := [], harness := (true, "22d6b9366ba70c16117b3c4699687aa5a917e6a0cde4d74fea59e9ab0bf0f0f4"), looks := false }, kinds := [], alts := [], laidByText := true, laidKinds := [.data, .data], laidTests := true, laidLooks := .later }
def GlobeCellsCardSaid : Prop := Claim7.holds Tryd.pinned (.plain (OpenSpec.ofChange globeCellsSpec)) globeCellsCard

/-- THE SECOND FORM's CARD OF 'nadirlaw05.GlobeMatchesReference'. -/
def globeMatchesReferenceUptoCard : Claim7 := { stood := { row := globeMatchesReferenceUptoRow, standIns := [], harness := (true, "22d6b9366ba70c16117b3c4699687aa5a917e6a0cde4d74fea59e9ab0bf0f0f4"), looks := false }, kinds := [], alts := [], laidByText := true, laidKinds := [.data, .data], laidTests := true, laidLooks := .later }
def GlobeMatchesReferenceUptoCardSaid : Prop := Claim7.holds Tryd.pinned (.plain (OpenSpec.upto globeMatchesReferenceSpec)) globeMatchesReferenceUptoCard

/-- THE SECOND FORM's CARD OF 'nadirlaw05.GlobeSets'. -/
def globeSetsUptoCard : Claim7 := { stood := { row := globeSetsUptoRow, standIns := [], harness := (true, "22d6b9366ba70c16117b3c4699687aa5a917e6a0cde4d74fea59e9ab0bf0f0f4"), looks := false }, kinds := [], alts := [], laidByText := true, laidKinds := [.data, .data], laidTests := true, laidLooks := .later }
def GlobeSetsUptoCardSaid : Prop := Claim7.holds Tryd.pinned (.plain (OpenSpec.upto globeSetsSpec)) globeSetsUptoCard

/-- THE SECOND FORM's CARD OF 'nadirlaw05.GlobeAround'. -/
def globeAroundUptoCard : Claim7 := { stood := { row := globeAroundUptoRow, standIns := [], harness := (true, "22d6b9366ba70c16117b3c4699687aa5a917e6a0cde4d74fea59e9ab0bf0f0f4"), looks := false }, kinds := [], alts := [], laidByText := true, laidKinds := [.data, .data], laidTests := true, laidLooks := .later }
def GlobeAroundUptoCardSaid : Prop := Claim7.holds Tryd.pinned (.plain (OpenSpec.upto globeAroundSpec)) globeAroundUptoCard

/-- THE SECOND FORM's CARD OF 'nadirlaw05.GlobeGrows'. -/
def globeGrowsUptoCard : Claim7 := { stood := { row := globeGrowsUptoRow, standIns := [], harness := (true, "22d6b9366ba70c16117b3c4699687aa5a917e6a0cde4d74fea59e9ab0bf0f0f4"), looks := false }, kinds := [], alts := [], laidByText := true, laidKinds := [.data, .data], laidTests := true, laidLooks := .later }
def GlobeGrowsUptoCardSaid : Prop := Claim7.holds Tryd.pinned (.plain (OpenSpec.upto globeGrowsSpec)) globeGrowsUptoCard

/-- THE SECOND FORM's CARD OF 'nadirlaw05.GlobeNear'. -/
def globeNearUptoCard : Claim7 := { stood := { row := globeNearUptoRow, standIns := [], harness := (true, "22d6b9366ba70c16117b3c4699687aa5a917e6a0cde4d74fea59e9ab0bf0f0f4"), looks := false }, kinds := [], alts := [], laidByText := true, laidKinds := [.data, .data], laidTests := true, laidLooks := .later }
def GlobeNearUptoCardSaid : Prop := Claim7.holds Tryd.pinned (.plain (OpenSpec.upto globeNearSpec)) globeNearUptoCard

/-- THE SECOND FORM's CARD OF 'nadirlaw05.GlobeBoxes'. -/
def globeBoxesUptoCard : Claim7 := { stood := { row := globeBoxesUptoRow, standIns := [], harness := (true, "22d6b9366ba70c16117b3c4699687aa5a917e6a0cde4d74fea59e9ab0bf0f0f4"), looks := false }, kinds := [], alts := [], laidByText := true, laidKinds := [.data, .data], laidTests := true, laidLooks := .later }
def GlobeBoxesUptoCardSaid : Prop := Claim7.holds Tryd.pinned (.plain (OpenSpec.upto globeBoxesSpec)) globeBoxesUptoCard

/-- THE SECOND FORM's CARD OF 'nadirlaw05.GlobeCells'. -/
def globeCellsUptoCard : Claim7 := { stood := { row := globeCellsUptoRow, standIns := [], harness := (true, "22d6b9366ba70c16117b3c4699687aa5a917e6a0cde4d74fea59e9ab0bf0f0f4"), looks := false }, kinds := [], alts := [], laidByText := true, laidKinds := [.data, .data], laidTests := true, laidLooks := .later }
def GlobeCellsUptoCardSaid : Prop := Claim7.holds Tryd.pinned (.plain (OpenSpec.upto globeCellsSpec)) globeCellsUptoCard
end Rows
end Go.Proofs.YtnfknekbbdfdfaaDoor
