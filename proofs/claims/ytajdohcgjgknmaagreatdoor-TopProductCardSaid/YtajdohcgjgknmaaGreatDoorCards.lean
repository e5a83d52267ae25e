/-
  DERIVED. GIVEN WITH THE SEED: THE CARDS: each row of YtajdohcgjgknmaaGreatDoorRows.lean that lists a variable, with what it lists TIED to the program's text (the seventh form; the later family's looks); each row that meets fmt, with fmt's text TOLD by the authors' own Lean function (tested against real Go, not proved from fmt's source: count such statements apart). THE CARD IS WHAT COUNTS. Prove the row's statement (the work); the ties are given (YtajdohcgjgknmaaGreatDoorTie.lean); close each card by the builder's one call (the guide's Derived/Test/ToyasCard.lean, 'card_holds'). Laid BY PROGRAM, IN A SANDBOX (cutbox-door.mjs). By AI agents, Wed Nov 11 2026. No macro, syntax, notation, axiom, sorry.
-/
import Derived.Test.YtajdohcgjgknmaaGreatDoorRows
import GoSem.ClaimSeven
namespace Go.Proofs.YtajdohcgjgknmaaGreatDoor
namespace Rows

/-- THE TIED CARD OF 'nadirtop.TopProduct'. -/
def topProductCard : Claim7 := { stood := { row := topProductRow, standIns := [], harness := (true, "aa25421201f598ccf533b05b83f1bc9f76325ca074e1421ab6b6978299397108"), looks := false }, kinds := [], alts := [], laidByText := true, laidKinds := [.data, .data], laidTests := true, laidLooks := .later }
def TopProductCardSaid : Prop := Claim7.holds Tryz.pinned (.plain (OpenSpec.ofChange topProductSpec)) topProductCard

/-- THE TIED CARD OF 'nadirlaw31.ProductMatchesReference'. -/
def productMatchesReferenceCard : Claim7 := { stood := { row := productMatchesReferenceRow, standIns := [], harness := (true, "aa25421201f598ccf533b05b83f1bc9f76325ca074e1421ab6b6978299397108"), looks := false }, kinds := [], alts := [], laidByText := true, laidKinds := [.data, .data], laidTests := true, laidLooks := .later }
def ProductMatchesReferenceCardSaid : Prop := Claim7.holds Tryz.pinned (.plain (OpenSpec.ofChange productMatchesReferenceSpec)) productMatchesReferenceCard

/-- THE SECOND FORM's CARD OF 'nadirtop.TopProduct'. -/
def topProductUptoCard : Claim7 := { stood := { row := topProductUptoRow, standIns := [], harness := (true, "aa25421201f598ccf533b05b83f1bc9f76325ca074e1421ab6b6978299397108"), looks := false }, kinds := [], alts := [], laidByText := true, laidKinds := [.data, .data], laidTests := true, laidLooks := .later }
def TopProductUptoCardSaid : Prop := Claim7.holds Tryz.pinned (.plain (OpenSpec.upto topProductSpec)) topProductUptoCard

/-- THE SECOND FORM's CARD OF 'nadirlaw31.ProductMatchesReference'. -/
def productMatchesReferenceUptoCard : Claim7 := { stood := { row := productMatchesReferenceUptoRow, standIns := [], harness := (true, "aa25421201f598ccf533b05b83f1bc9f76325ca074e1421ab6b6978299397108"), looks := false }, kinds := [], alts := [], laidByText := true, laidKinds := [.data, .data], laidTests := true, laidLooks := .later }
def ProductMatchesReferenceUptoCardSaid : Prop := Claim7.holds Tryz.pinned (.plain (OpenSpec.upto productMatchesReferenceSpec)) productMatchesReferenceUptoCard
end Rows
end Go.Proofs.YtajdohcgjgknmaaGreatDoor
