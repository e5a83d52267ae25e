/-
  DERIVED. GIVEN WITH THE SEED: THE CARDS: each row of YtfmoabgjaclkpaaGreatDoorRows.lean that lists a variable, with what it lists TIED to the program's text (the seventh form; the later family's looks); each row that meets fmt, with fmt's text TOLD by the authors' own Lean function (tested against real Go, not proved from fmt's source: count such statements apart). THE CARD IS WHAT COUNTS. Prove the row's statement (the work); the ties are given (YtfmoabgjaclkpaaGreatDoorTie.lean); close each card by the builder's one call (the guide's Derived/Test/ToyasCard.lean, 'card_holds'). Laid BY PROGRAM, IN A SANDBOX (cutbox-door.mjs). By AI agents, Wed Nov 11 2026. No macro, syntax, notation, axiom, sorry.
-/
import Derived.Test.YtfmoabgjaclkpaaGreatDoorRows
import GoSem.ClaimSeven
namespace Go.Proofs.YtfmoabgjaclkpaaGreatDoor
namespace Rows

/-- THE TIED CARD OF 'nadirlaw35.ReplicaMatchesReference'. -/
def replicaMatchesReferenceCard : Claim7 := { stood := { row := replicaMatchesReferenceRow, standIns := [], harness := (true, "f9bd7bf2428558407907bdf4a3d03e3e627b39690f181bd9906d008ddbe31a7e"), looks := false }, kinds := [], alts := [], laidByText := true, laidKinds := [.data], laidTests := true, laidLooks := .later }
def ReplicaMatchesReferenceCardSaid : Prop := Claim7.holds Tryz.pinned (.plain (OpenSpec.ofChange replicaMatchesReferenceSpec)) replicaMatchesReferenceCard

/-- THE TIED CARD OF 'nadirlaw35.ReplicaOrder'. -/
def replicaOrderCard : Claim7 := { stood := { row := replicaOrderRow, standIns := [], harness := (true, "f9bd7bf2428558407907bdf4a3d03e3e627b39690f181bd9906d008ddbe31a7e"), looks := false }, kinds := [], alts := [], laidByText := true, laidKinds := [.data], laidTests := true, laidLooks := .later }
def ReplicaOrderCardSaid : Prop := Claim7.holds Tryz.pinned (.plain (OpenSpec.ofChange replicaOrderSpec)) replicaOrderCard

/-- THE TIED CARD OF 'nadirlaw35.ReplicaKeeps'. -/
def replicaKeepsCard : Claim7 := { stood := { row := replicaKeepsRow, standIns := [], harness := (true, "f9bd7bf2428558407907bdf4a3d03e3e627b39690f181bd9906d008ddbe31a7e"), looks := false }, kinds := [], alts := [], laidByText := true, laidKinds := [.data], laidTests := true, laidLooks := .later }
def ReplicaKeepsCardSaid : Prop := Claim7.holds Tryz.pinned (.plain (OpenSpec.ofChange replicaKeepsSpec)) replicaKeepsCard

/-- THE TIED CARD OF 'nadirlaw35.ReplicaCorrected'. -/
def replicaCorrectedCard : Claim7 := { stood := { row := replicaCorrectedRow, standIns := [], harness := (true, "f9bd7bf2428558407907bdf4a3d03e3e627b39690f181bd9906d008ddbe31a7e"), looks := false }, kinds := [], alts := [], laidByText := true, laidKinds := [.data], laidTests := true, laidLooks := .later }
def ReplicaCorrectedCardSaid : Prop := Claim7.holds Tryz.pinned (.plain (OpenSpec.ofChange replicaCorrectedSpec)) replicaCorrectedCard

/-- THE TIED CARD OF 'nadirlaw35.ReplicaHistories'. -/
def replicaHistoriesCard : Claim7 := { stood := { row := replicaHistoriesRow, standIns := [], harness := (true, "f9bd7bf2428558407907bdf4a3d03e3e627b39690f181bd9906d008ddbe31a7e"), looks := false }, kinds := [], alts := [], laidByText := true, laidKinds := [.data], laidTests := true, laidLooks := .later }
def ReplicaHistoriesCardSaid : Prop := Claim7.holds Tryz.pinned (.plain (OpenSpec.ofChange replicaHistoriesSpec)) replicaHistoriesCard

/-- THE TIED CARD OF 'nadirlaw35.ReplicaMeets'. -/
def replicaMeetsCard : Claim7 := { stood := { row := replicaMeetsRow, standIns := [], harness := (true, "f9bd7bf2428558407907bdf4a3d03e3e627b39690f181bd9906d008ddbe31a7e"), looks := false }, kinds := [], alts := [], laidByText := true, laidKinds := [.data], laidTests := true, laidLooks := .later }
def ReplicaMeetsCardSaid : Prop := Claim7.holds Tryz.pinned (.plain (OpenSpec.ofChange replicaMeetsSpec)) replicaMeetsCard

/-- THE TIED CARD OF 'nadirlaw35.ReplicaCode'. -/
def replicaCodeCard : Claim7 := { stood := { row := replicaCodeRow, standIns := [], harness := (true, "f9bd7bf2428558407907bdf4a3d03e3e627b39690f181bd9906d008ddbe31a7e"), looks := false }, kinds := [], alts := [], laidByText := true, laidKinds := [.data], laidTests := true, laidLooks := .later }
def ReplicaCodeCardSaid : Prop := Claim7.holds Tryz.pinned (.plain (OpenSpec.ofChange replicaCodeSpec)) replicaCodeCard

/-- THE SECOND FORM's CARD OF 'nadirlaw35.ReplicaMatchesReference'. -/
def replicaMatchesReferenceUptoCard : Claim7 := { stood := { row := replicaMatchesReferenceUptoRow, standIns := [], harness := (true, "f9bd7bf2428558407907bdf4a3d03e3e627b39690f181bd9906d008ddbe31a7e"), looks := false }, kinds := [], alts := [], laidByText := true, laidKinds := [.data], laidTests := true, laidLooks := .later }
def ReplicaMatchesReferenceUptoCardSaid : Prop := Claim7.holds Tryz.pinned (.plain (OpenSpec.upto replicaMatchesReferenceSpec)) replicaMatchesReferenceUptoCard

/-- THE SECOND FORM's CARD OF 'nadirlaw35.ReplicaOrder'. -/
def replicaOrderUptoCard : Claim7 := { stood := { row := replicaOrderUptoRow, standIns := [], harness := (true, "f9bd7bf2428558407907bdf4a3d03e3e627b39690f181bd9906d008ddbe31a7e"), looks := false }, kinds := [], alts := [], laidByText := true, laidKinds := [.data], laidTests := true, laidLooks := .later }
def ReplicaOrderUptoCardSaid : Prop := Claim7.holds Tryz.pinned (.plain (OpenSpec.upto replicaOrderSpec)) replicaOrderUptoCard

/-- THE SECOND FORM's CARD OF 'nadirlaw35.ReplicaKeeps'. -/
def replicaKeepsUptoCard : Claim7 := { stood := { row := replicaKeepsUptoRow, standIns := [], harness := (true, "f9bd7bf2428558407907bdf4a3d03e3e627b39690f181bd9906d008ddbe31a7e"), looks := false }, kinds := [], alts := [], laidByText := true, laidKinds := [.data], laidTests := true, laidLooks := .later }
def ReplicaKeepsUptoCardSaid : Prop := Claim7.holds Tryz.pinned (.plain (OpenSpec.upto replicaKeepsSpec)) replicaKeepsUptoCard

/-- THE SECOND FORM's CARD OF 'nadirlaw35.ReplicaCorrected'. -/
def replicaCorrectedUptoCard : Claim7 := { stood := { row := replicaCorrectedUptoRow, standIns := [], harness := (true, "f9bd7bf2428558407907bdf4a3d03e3e627b39690f181bd9906d008ddbe31a7e"), looks := false }, kinds := [], alts := [], laidByText := true, laidKinds := [.data], laidTests := true, laidLooks := .later }
def ReplicaCorrectedUptoCardSaid : Prop := Claim7.holds Tryz.pinned (.plain (OpenSpec.upto replicaCorrectedSpec)) replicaCorrectedUptoCard

/-- THE SECOND FORM's CARD OF 'nadirlaw35.ReplicaHistories'. -/
def replicaHistoriesUptoCard : Claim7 := { stood := { row := replicaHistoriesUptoRow, standIns := [], harness := (true, "f9bd7bf2428558407907bdf4a3d03e3e627b39690f181bd9906d008ddbe31a7e"), looks := false }, kinds := [], alts := [], laidByText := true, laidKinds := [.data], laidTests := true, laidLooks := .later }
def ReplicaHistoriesUptoCardSaid : Prop := Claim7.holds Tryz.pinned (.plain (OpenSpec.upto replicaHistoriesSpec)) replicaHistoriesUptoCard

/-- THE SECOND FORM's CARD OF 'nadirlaw35.ReplicaMeets'. -/
def replicaMeetsUptoCard : Claim7 := { stood := { row := replicaMeetsUptoRow, standIns := [], harness := (true, "f9bd7bf2428558407907bdf4a3d03e3e627b39690f181bd9906d008ddbe31a7e"), looks := false }, kinds := [], alts := [], laidByText := true, laidKinds := [.data], laidTests := true, laidLooks := .later }
def ReplicaMeetsUptoCardSaid : Prop := Claim7.holds Tryz.pinned (.plain (OpenSpec.upto replicaMeetsSpec)) replicaMeetsUptoCard

/-- THE SECOND FORM's CARD OF 'nadirlaw35.ReplicaCode'. -/
def replicaCodeUptoCard : Claim7 := { stood := { row := replicaCodeUptoRow, standIns := [], harness := (true, "f9bd7bf2428558407907bdf4a3d03e3e627b39690f181bd9906d008ddbe31a7e"), looks := false }, kinds := [], alts := [], laidByText := true, laidKinds := [.data], laidTests := true, laidLooks := .later }
def ReplicaCodeUptoCardSaid : Prop := Claim7.holds Tryz.pinned (.plain (OpenSpec.upto replicaCodeSpec)) replicaCodeUptoCard
end Rows
end Go.Proofs.YtfmoabgjaclkpaaGreatDoor
