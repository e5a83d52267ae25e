/-
  DERIVED. GIVEN WITH THE SEED: THE CARDS: each row of YtknlnmalaidaiaaDoorRows.lean that lists a variable, with what it lists TIED to the program's text (the seventh form; the later family's looks); each row that meets fmt, with fmt's text TOLD by the authors' own Lean function (tested against real Go, not proved from fmt's source: count such statements apart). THE CARD IS WHAT COUNTS. Prove the row's statement (the work); the ties are given (YtknlnmalaidaiaaDoorTie.lean); close each card by the builder's one call (the guide's Derived/Test/ToyasCard.lean, 'card_holds'). Laid BY PROGRAM, IN A SANDBOX (cutbox-door.mjs). By AI agents, Wed Nov 11 2026. No macro, syntax, notation, axiom, sorry.
-/
import Derived.Test.YtknlnmalaidaiaaDoorRows
import GoSem.ClaimSeven
namespace Go.Proofs.YtknlnmalaidaiaaDoor
namespace Rows

/-- THE TIED CARD OF 'nadirlaw06.SunMatchesReference'. -/
def sunMatchesReferenceCard : Claim7 := { stood := { row := sunMatchesReferenceRow, standIns := [], harness := (true, "27718cfbf681b852f34d8c25b18c628299c1c3520f101da33b153e2e068eda1c"), looks := false }, kinds := [], alts := [], laidByText := true, laidKinds := [.data, .data], laidTests := true, laidLooks := .later }
def SunMatchesReferenceCardSaid : Prop := Claim7.holds Tryd.pinned (.plain (OpenSpec.ofChange sunMatchesReferenceSpec)) sunMatchesReferenceCard

/-- THE TIED CARD OF 'nadirlaw06.SunAround'. -/
def sunAroundCard : Claim7 := { stood := { row := sunAroundRow, standIns := [], harness := (true, "27718cfbf681b852f34d8c25b18c628299c1c3520f101da33b153e2e068eda1c"), looks := false }, kinds := [], alts := [], laidByText := true, laidKinds := [.data, .data], laidTests := true, laidLooks := .later }
def SunAroundCardSaid : Prop := Claim7.holds Tryd.pinned (.plain (OpenSpec.ofChange sunAroundSpec)) sunAroundCard

/-- THE TIED CARD OF 'nadirlaw06.SunNoon'. -/
def sunNoonCard : Claim7 := { stood := { row := sunNoonRow, standIns := [], harness := (true, "27718cfbf681b852f34d8c25b18c628299c1c3520f101da33b153e2e068eda1c"), looks := false }, kinds := [], alts := [], laidByText := true, laidKinds := [.data, .data], laidTests := true, laidLooks := .later }
def SunNoonCardSaid : Prop := Claim7.holds Tryd.pinned (.plain (OpenSpec.ofChange sunNoonSpec)) sunNoonCard

/-- THE TIED CARD OF 'nadirlaw06.SunFalls'. -/
def sunFallsCard : Claim7 := { stood := { row := sunFallsRow, standIns := [], harness := (true, "27718cfbf681b852f34d8c25b18c628299c1c3520f101da33b153e2e068eda1c"), looks := false }, kinds := [], alts := [], laidByText := true, laidKinds := [.data, .data], laidTests := true, laidLooks := .later }
def SunFallsCardSaid : Prop := Claim7.holds Tryd.pinned (.plain (OpenSpec.ofChange sunFallsSpec)) sunFallsCard

/-- THE TIED CARD OF 'nadirlaw06.SunShadow'. -/
def sunShadowCard : Claim7 := { stood := { row := sunShadowRow, standIns := [], harness := (true, "27718cfbf681b852f34d8c25b18c628299c1c3520f101da33b153e2e068eda1c"), looks := false }, kinds := [], alts := [], laidByText := true, laidKinds := [.data, .data], laidTests := true, laidLooks := .later }
def SunShadowCardSaid : Prop := Claim7.holds Tryd.pinned (.plain (OpenSpec.ofChange sunShadowSpec)) sunShadowCard

/-- THE TIED CARD OF 'nadirlaw06.SunNext'. -/
def sunNextCard : Claim7 := { stood := { row := sunNextRow, standIns := [], harness := (true, "27718cfbf681b852f34d8c25b18c628299c1c3520f101da33b153e2e068eda1c"), looks := false }, kinds := [], alts := [], laidByText := true, laidKinds := [.data, .data], laidTests := true, laidLooks := .later }
def SunNextCardSaid : Prop := Claim7.holds Tryd.pinned (.plain (OpenSpec.ofChange sunNextSpec)) sunNextCard

/-- THE TIED CARD OF 'nadirlaw06.SunYear'. -/
def sunYearCard : Claim7 := { stood := { row := sunYearRow, standIns := [], harness := (true, "27718cfbf681b852f34d8c25b18c628299c1c3520f101da33b153e2e068eda1c"), looks := false }, kinds := [], alts := [], laidByText := true, laidKinds := [.data, .data], laidTests := true, laidLooks := .later }
def SunYearCardSaid : Prop := Claim7.holds Tryd.pinned (.plain (OpenSpec.ofChange sunYearSpec)) sunYearCard

/-- THE TIED CARD OF 'nadirlaw06.SunRanges'. -/
def sunRangesCard : Claim7 := { stood := { row := sunRangesRow, standIns := [], harness := (true, "27718cfbf681b852f34d8c25b18c628299c1c3520f101da33b153e2e068eda1c"), looks := false }, kinds := [], alts := [], laidByText := true, laidKinds := [.data, .data], laidTests := true, laidLooks := .later }
def SunRangesCardSaid : Prop := Claim7.holds Tryd.pinned (.plain (OpenSpec.ofChange sunRangesSpec)) sunRangesCard

/-- THE SECOND FORM's CARD OF 'nadirlaw06.SunMatchesReference'. -/
def sunMatchesReferenceUptoCard : Claim7 := { stood := { row := sunMatchesReferenceUptoRow, standIns := [], harness := (true, "27718cfbf681b852f34d8c25b18c628299c1c3520f101da33b153e2e068eda1c"), looks := false }, kinds := [], alts := [], laidByText := true, laidKinds := [.data, .data], laidTests := true, laidLooks := .later }
def SunMatchesReferenceUptoCardSaid : Prop := Claim7.holds Tryd.pinned (.plain (OpenSpec.upto sunMatchesReferenceSpec)) sunMatchesReferenceUptoCard

/-- THE SECOND FORM's CARD OF 'nadirlaw06.SunAround'. -/
def sunAroundUptoCard : Claim7 := { stood := { row := sunAroundUptoRow, standIns := [], harness := (true, "27718cfbf681b852f34d8c25b18c628299c1c3520f101da33b153e2e068eda1c"), looks := false }, kinds := [], alts := [], laidByText := true, laidKinds := [.data, .data], laidTests := true, laidLooks := .later }
def SunAroundUptoCardSaid : Prop := Claim7.holds Tryd.pinned (.plain (OpenSpec.upto sunAroundSpec)) sunAroundUptoCard

/-- THE SECOND FORM's CARD OF 'nadirlaw06.SunNoon'. -/
def sunNoonUptoCard : Claim7 := { stood := { row := sunNoonUptoRow, standIns := [], harness := (true, "27718cfbf681b852f34d8c25b18c628299c1c3520f101da33b153e2e068eda1c"), looks := false }, kinds := [], alts := [], laidByText := true, laidKinds := [.data, .data], laidTests := true, laidLooks := .later }
def SunNoonUptoCardSaid : Prop := Claim7.holds Tryd.pinned (.plain (OpenSpec.upto sunNoonSpec)) sunNoonUptoCard

/-- THE SECOND FORM's CARD OF 'nadirlaw06.SunFalls'. -/
def sunFallsUptoCard : Claim7 := { stood := { row := sunFallsUptoRow, standIns := [], harness := (true, "27718cfbf681b852f34d8c25b18c628299c1c3520f101da33b153e2e068eda1c"), looks := false }, kinds := [], alts := [], laidByText := true, laidKinds := [.data, .data], laidTests := true, laidLooks := .later }
def SunFallsUptoCardSaid : Prop := Claim7.holds Tryd.pinned (.plain (OpenSpec.upto sunFallsSpec)) sunFallsUptoCard

/-- THE SECOND FORM's CARD OF 'nadirlaw06.SunShadow'. -/
def sunShadowUptoCard : Claim7 := { stood := { row := sunShadowUptoRow, standIns := [], harness := (true, "27718cfbf681b852f34d8c25b18c628299c1c3520f101da33b153e2e068eda1c"), looks := false }, kinds := [], alts := [], laidByText := true, laidKinds := [.data, .data], laidTests := true, laidLooks := .later }
def SunShadowUptoCardSaid : Prop := Claim7.holds Tryd.pinned (.plain (OpenSpec.upto sunShadowSpec)) sunShadowUptoCard

/-- THE SECOND FORM's CARD OF 'nadirlaw06.SunNext'. -/
def sunNextUptoCard : Claim7 := { stood := { row := sunNextUptoRow, standIns := [], harness := (true, "27718cfbf681b852f34d8c25b18c628299c1c3520f101da33b153e2e068eda1c"), looks := false }, kinds := [], alts := [], laidByText := true, laidKinds := [.data, .data], laidTests := true, laidLooks := .later }
def SunNextUptoCardSaid : Prop := Claim7.holds Tryd.pinned (.plain (OpenSpec.upto sunNextSpec)) sunNextUptoCard

/-- THE SECOND FORM's CARD OF 'nadirlaw06.SunYear'. -/
def sunYearUptoCard : Claim7 := { stood := { row := sunYearUptoRow, standIns := [], harness := (true, "27718cfbf681b852f34d8c25b18c628299c1c3520f101da33b153e2e068eda1c"), looks := false }, kinds := [], alts := [], laidByText := true, laidKinds := [.data, .data], laidTests := true, laidLooks := .later }
def SunYearUptoCardSaid : Prop := Claim7.holds Tryd.pinned (.plain (OpenSpec.upto sunYearSpec)) sunYearUptoCard

/-- THE SECOND FORM's CARD OF 'nadirlaw06.SunRanges'. -/
def sunRangesUptoCard : Claim7 := { stood := { row := sunRangesUptoRow, standIns := [], harness := (true, "27718cfbf681b852f34d8c25b18c628299c1c3520f101da33b153e2e068eda1c"), looks := false }, kinds := [], alts := [], laidByText := true, laidKinds := [.data, .data], laidTests := true, laidLooks := .later }
def SunRangesUptoCardSaid : Prop := Claim7.holds Tryd.pinned (.plain (OpenSpec.upto sunRangesSpec)) sunRangesUptoCard
end Rows
end Go.Proofs.YtknlnmalaidaiaaDoor
