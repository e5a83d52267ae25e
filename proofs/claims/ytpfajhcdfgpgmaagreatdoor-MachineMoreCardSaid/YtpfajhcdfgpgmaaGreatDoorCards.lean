/-
  DERIVED. GIVEN WITH THE SEED: THE CARDS: each row of YtpfajhcdfgpgmaaGreatDoorRows.lean that lists a variable, with what it lists TIED to the program's text (the seventh form; the later family's looks); each row that meets fmt, with fmt's text TOLD by the authors' own Lean function (tested against real Go, not proved from fmt's source: count such statements apart). THE CARD IS WHAT COUNTS. Prove the row's statement (the work); the ties are given (YtpfajhcdfgpgmaaGreatDoorTie.lean); close each card by the builder's one call (the guide's Derived/Test/ToyasCard.lean, 'card_holds'). Laid BY PROGRAM, IN A SANDBOX (cutbox-door.mjs). By AI agents, Wed Nov 11 2026. No macro, syntax, notation, axiom, sorry.
-/
import Derived.Test.YtpfajhcdfgpgmaaGreatDoorRows
import GoSem.ClaimSeven
namespace Go.Proofs.YtpfajhcdfgpgmaaGreatDoor
namespace Rows

/-- THE TIED CARD OF 'nadirlaw14.MachineCompiledMatchesReference'. -/
def machineCompiledMatchesReferenceCard : Claim7 := { stood := { row := machineCompiledMatchesReferenceRow, standIns := [], harness := (true, "41552c739eab9a9bb0724d2d9fe9797d2b43ced27ae098c38dc81d20eaa6b0f5"), looks := false }, kinds := [], alts := [], laidByText := true, laidKinds := [.data, .data], laidTests := true, laidLooks := .later }
def MachineCompiledMatchesReferenceCardSaid : Prop := Claim7.holds Tryz.pinned (.plain (OpenSpec.ofChange machineCompiledMatchesReferenceSpec)) machineCompiledMatchesReferenceCard

/-- THE TIED CARD OF 'nadirlaw14.MachineMore'. -/
def machineMoreCard : Claim7 := { stood := { row := machineMoreRow, standIns := [], harness := (true, "41552c739eab9a9bb0724d2d9fe9797d2b43ced27ae098c38dc81d20eaa6b0f5"), looks := false }, kinds := [], alts := [], laidByText := true, laidKinds := [.data, .data], laidTests := true, laidLooks := .later }
def MachineMoreCardSaid : Prop := Claim7.holds Tryz.pinned (.plain (OpenSpec.ofChange machineMoreSpec)) machineMoreCard

/-- THE TIED CARD OF 'nadirlaw14.MachineMatchesReference'. -/
def machineMatchesReferenceCard : Claim7 := { stood := { row := machineMatchesReferenceRow, standIns := [], harness := (true, "41552c739eab9a9bb0724d2d9fe9797d2b43ced27ae098c38dc81d20eaa6b0f5"), looks := false }, kinds := [], alts := [], laidByText := true, laidKinds := [.data, .data], laidTests := true, laidLooks := .later }
def MachineMatchesReferenceCardSaid : Prop := Claim7.holds Tryz.pinned (.plain (OpenSpec.ofChange machineMatchesReferenceSpec)) machineMatchesReferenceCard

/-- THE SECOND FORM's CARD OF 'nadirlaw14.MachineCompiledMatchesReference'. -/
def machineCompiledMatchesReferenceUptoCard : Claim7 := { stood := { row := machineCompiledMatchesReferenceUptoRow, standIns := [], harness := (true, "41552c739eab9a9bb0724d2d9fe9797d2b43ced27ae098c38dc81d20eaa6b0f5"), looks := false }, kinds := [], alts := [], laidByText := true, laidKinds := [.data, .data], laidTests := true, laidLooks := .later }
def MachineCompiledMatchesReferenceUptoCardSaid : Prop := Claim7.holds Tryz.pinned (.plain (OpenSpec.upto machineCompiledMatchesReferenceSpec)) machineCompiledMatchesReferenceUptoCard

/-- THE SECOND FORM's CARD OF 'nadirlaw14.MachineMore'. -/
def machineMoreUptoCard : Claim7 := { stood := { row := machineMoreUptoRow, standIns := [], harness := (true, "41552c739eab9a9bb0724d2d9fe9797d2b43ced27ae098c38dc81d20eaa6b0f5"), looks := false }, kinds := [], alts := [], laidByText := true, laidKinds := [.data, .data], laidTests := true, laidLooks := .later }
def MachineMoreUptoCardSaid : Prop := Claim7.holds Tryz.pinned (.plain (OpenSpec.upto machineMoreSpec)) machineMoreUptoCard

/-- THE SECOND FORM's CARD OF 'nadirlaw14.MachineMatchesReference'. -/
def machineMatchesReferenceUptoCard : Claim7 := { stood := { row := machineMatchesReferenceUptoRow, standIns := [], harness := (true, "41552c739eab9a9bb0724d2d9fe9797d2b43ced27ae098c38dc81d20eaa6b0f5"), looks := false }, kinds := [], alts := [], laidByText := true, laidKinds := [.data, .data], laidTests := true, laidLooks := .later }
def MachineMatchesReferenceUptoCardSaid : Prop := Claim7.holds Tryz.pinned (.plain (OpenSpec.upto machineMatchesReferenceSpec)) machineMatchesReferenceUptoCard
end Rows
end Go.Proofs.YtpfajhcdfgpgmaaGreatDoor
