/-
  DERIVED. GIVEN WITH THE SEED: THE CARDS: each row of YtajdohcgjgknmaaDoorRows.lean that lists a variable, with what it lists TIED to the program's text (the seventh form; the later family's looks); each row that meets fmt, with fmt's text TOLD by the authors' own Lean function (tested against real Go, not proved from fmt's source: count such statements apart). THE CARD IS WHAT COUNTS. Prove the row's statement (the work); the ties are given (YtajdohcgjgknmaaDoorTie.lean); close each card by the builder's one call (the guide's Derived/Test/ToyasCard.lean, 'card_holds'). Laid BY PROGRAM, IN A SANDBOX (cutbox-door.mjs). By AI agents, Wed Nov 11 2026. No macro, syntax, notation, axiom, sorry.
-/
import Derived.Test.YtajdohcgjgknmaaDoorRows
import GoSem.ClaimSeven
namespace Go.Proofs.YtajdohcgjgknmaaDoor
namespace Rows

/-- THE TIED CARD OF 'nadirlaw31.ProductBest'. -/
def productBestCard : Claim7 := { stood := { row := productBestRow, standIns := [], harness := (true, "8b5a7a53c537ff8737778701348fb3568628a2c5eeac7583eb34b5657efa7458"), looks := false }, kinds := [], alts := [], laidByText := true, laidKinds := [.data, .data], laidTests := true, laidLooks := .later }
def ProductBestCardSaid : Prop := Claim7.holds Tryd.pinned (.plain (OpenSpec.ofChange productBestSpec)) productBestCard

/-- THE TIED CARD OF 'nadirlaw31.ProductOrder'. -/
def productOrderCard : Claim7 := { stood := { row := productOrderRow, standIns := [], harness := (true, "8b5a7a53c537ff8737778701348fb3568628a2c5eeac7583eb34b5657efa7458"), looks := false }, kinds := [], alts := [], laidByText := true, laidKinds := [.data, .data], laidTests := true, laidLooks := .later }
def ProductOrderCardSaid : Prop := Claim7.holds Tryd.pinned (.plain (OpenSpec.ofChange productOrderSpec)) productOrderCard

/-- THE TIED CARD OF 'nadirlaw31.ProductOneByOne'. -/
def productOneByOneCard : Claim7 := { stood := { row := productOneByOneRow, standIns := [], harness := (true, "8b5a7a53c537ff8737778701348fb3568628a2c5eeac7583eb34b5657efa7458"), looks := false }, kinds := [], alts := [], laidByText := true, laidKinds := [.data, .data], laidTests := true, laidLooks := .later }
def ProductOneByOneCardSaid : Prop := Claim7.holds Tryd.pinned (.plain (OpenSpec.ofChange productOneByOneSpec)) productOneByOneCard

/-- THE TIED CARD OF 'nadirlaw31.ProductVersions'. -/
def productVersionsCard : Claim7 := { stood := { row := productVersionsRow, standIns := [], harness := (true, "8b5a7a53c537ff8737778701348fb3568628a2c5eeac7583eb34b5657efa7458"), looks := false }, kinds := [], alts := [], laidByText := true, laidKinds := [.data, .data], laidTests := true, laidLooks := .later }
def ProductVersionsCardSaid : Prop := Claim7.holds Tryd.pinned (.plain (OpenSpec.ofChange productVersionsSpec)) productVersionsCard

/-- THE TIED CARD OF 'nadirlaw31.ProductMissing'. -/
def productMissingCard : Claim7 := { stood := { row := productMissingRow, standIns := [], harness := (true, "8b5a7a53c537ff8737778701348fb3568628a2c5eeac7583eb34b5657efa7458"), looks := false }, kinds := [], alts := [], laidByText := true, laidKinds := [.data, .data], laidTests := true, laidLooks := .later }
def ProductMissingCardSaid : Prop := Claim7.holds Tryd.pinned (.plain (OpenSpec.ofChange productMissingSpec)) productMissingCard

/-- THE SECOND FORM's CARD OF 'nadirlaw31.ProductBest'. -/
def productBestUptoCard : Claim7 := { stood := { row := productBestUptoRow, standIns := [], harness := (true, "8b5a7a53c537ff8737778701348fb3568628a2c5eeac7583eb34b5657efa7458"), looks := false }, kinds := [], alts := [], laidByText := true, laidKinds := [.data, .data], laidTests := true, laidLooks := .later }
def ProductBestUptoCardSaid : Prop := Claim7.holds Tryd.pinned (.plain (OpenSpec.upto productBestSpec)) productBestUptoCard

/-- THE SECOND FORM's CARD OF 'nadirlaw31.ProductOrder'. -/
def productOrderUptoCard : Claim7 := { stood := { row := productOrderUptoRow, standIns := [], harness := (true, "8b5a7a53c537ff8737778701348fb3568628a2c5eeac7583eb34b5657efa7458"), looks := false }, kinds := [], alts := [], laidByText := true, laidKinds := [.data, .data], laidTests := true, laidLooks := .later }
def ProductOrderUptoCardSaid : Prop := Claim7.holds Tryd.pinned (.plain (OpenSpec.upto productOrderSpec)) productOrderUptoCard

/-- THE SECOND FORM's CARD OF 'nadirlaw31.ProductOneByOne'. -/
def productOneByOneUptoCard : Claim7 := { stood := { row := productOneByOneUptoRow, standIns := [], harness := (true, "8b5a7a53c537ff8737778701348fb3568628a2c5eeac7583eb34b5657efa7458"), looks := false }, kinds := [], alts := [], laidByText := true, laidKinds := [.data, .data], laidTests := true, laidLooks := .later }
def ProductOneByOneUptoCardSaid : Prop := Claim7.holds Tryd.pinned (.plain (OpenSpec.upto productOneByOneSpec)) productOneByOneUptoCard

/-- THE SECOND FORM's CARD OF 'nadirlaw31.ProductVersions'. -/
def productVersionsUptoCard : Claim7 := { stood := { row := productVersionsUptoRow, standIns := [], harness := (true, "8b5a7a53c537ff8737778701348fb3568628a2c5eeac7583eb34b5657efa7458"), looks := false }, kinds := [], alts := [], laidByText := true, laidKinds := [.data, .data], laidTests := true, laidLooks := .later }
def ProductVersionsUptoCardSaid : Prop := Claim7.holds Tryd.pinned (.plain (OpenSpec.upto productVersionsSpec)) productVersionsUptoCard

/-- THE SECOND FORM's CARD OF 'nadirlaw31.ProductMissing'. -/
def productMissingUptoCard : Claim7 := { stood := { row := productMissingUptoRow, standIns := [], harness := (true, "8b5a7a53c537ff8737778701348fb3568628a2c5eeac7583eb34b5657efa7458"), looks := false }, kinds := [], alts := [], laidByText := true, laidKinds := [.data, .data], laidTests := true, laidLooks := .later }
def ProductMissingUptoCardSaid : Prop := Claim7.holds Tryd.pinned (.plain (OpenSpec.upto productMissingSpec)) productMissingUptoCard
end Rows
end Go.Proofs.YtajdohcgjgknmaaDoor
