/-
  DERIVED. GIVEN WITH THE SEED: THE CARDS: each row of YtpfajhcdfgpgmaaDoorRows.lean that lists a variable, with what it lists TIED to the program's text (the seventh form; the later family's looks); each row that meets fmt, with fmt's text TOLD by the authors' own Lean function (tested against real Go, not proved from fmt's source: count such statements apart). THE CARD IS WHAT COUNTS. Prove the row's statement (the work); the ties are given (YtpfajhcdfgpgmaaDoorTie.lean); close each card by the builder's one call (the guide's Derived/Test/ToyasCard.lean, 'card_holds'). Laid BY PROGRAM, IN A SANDBOX (cutbox-door.mjs). By AI agents, Wed Nov 11 2026. No macro, syntax, notation, axiom, sorry.
-/
import Derived.Test.YtpfajhcdfgpgmaaDoorRows
import GoSem.ClaimSeven
namespace Go.Proofs.YtpfajhcdfgpgmaaDoor
namespace Rows

/-- THE TIED CARD OF 'nadirlaw14.MachineKnown'. -/
def machineKnownCard : Claim7 := { stood := { row := machineKnownRow, standIns := [], harness := (true, "77088cae796989b9b7d7ed0bfc54bf2c9026f538ed3b54f1166d44fe7e944d1a"), looks := false }, kinds := [], alts := [], laidByText := true, laidKinds := [.data, .data], laidTests := true, laidLooks := .later }
def MachineKnownCardSaid : Prop := Claim7.holds Tryd.pinned (.plain (OpenSpec.ofChange machineKnownSpec)) machineKnownCard

/-- THE TIED CARD OF 'nadirlaw14.MachineCheapest'. -/
def machineCheapestCard : Claim7 := { stood := { row := machineCheapestRow, standIns := [], harness := (true, "77088cae796989b9b7d7ed0bfc54bf2c9026f538ed3b54f1166d44fe7e944d1a"), looks := false }, kinds := [], alts := [], laidByText := true, laidKinds := [.data, .data], laidTests := true, laidLooks := .later }
def MachineCheapestCardSaid : Prop := Claim7.holds Tryd.pinned (.plain (OpenSpec.ofChange machineCheapestSpec)) machineCheapestCard

/-- THE TIED CARD OF 'nadirlaw14.MachineAlgebra'. -/
def machineAlgebraCard : Claim7 := { stood := { row := machineAlgebraRow, standIns := [], harness := (true, "77088cae796989b9b7d7ed0bfc54bf2c9026f538ed3b54f1166d44fe7e944d1a"), looks := false }, kinds := [], alts := [], laidByText := true, laidKinds := [.data, .data], laidTests := true, laidLooks := .later }
def MachineAlgebraCardSaid : Prop := Claim7.holds Tryd.pinned (.plain (OpenSpec.ofChange machineAlgebraSpec)) machineAlgebraCard

/-- THE TIED CARD OF 'nadirlaw14.MachineLeast'. -/
def machineLeastCard : Claim7 := { stood := { row := machineLeastRow, standIns := [], harness := (true, "77088cae796989b9b7d7ed0bfc54bf2c9026f538ed3b54f1166d44fe7e944d1a"), looks := false }, kinds := [], alts := [], laidByText := true, laidKinds := [.data, .data], laidTests := true, laidLooks := .later }
def MachineLeastCardSaid : Prop := Claim7.holds Tryd.pinned (.plain (OpenSpec.ofChange machineLeastSpec)) machineLeastCard

/-- THE SECOND FORM's CARD OF 'nadirlaw14.MachineKnown'. -/
def machineKnownUptoCard : Claim7 := { stood := { row := machineKnownUptoRow, standIns := [], harness := (true, "77088cae796989b9b7d7ed0bfc54bf2c9026f538ed3b54f1166d44fe7e944d1a"), looks := false }, kinds := [], alts := [], laidByText := true, laidKinds := [.data, .data], laidTests := true, laidLooks := .later }
def MachineKnownUptoCardSaid : Prop := Claim7.holds Tryd.pinned (.plain (OpenSpec.upto machineKnownSpec)) machineKnownUptoCard

/-- THE SECOND FORM's CARD OF 'nadirlaw14.MachineCheapest'. -/
def machineCheapestUptoCard : Claim7 := { stood := { row := machineCheapestUptoRow, standIns := [], harness := (true, "77088cae796989b9b7d7ed0bfc54bf2c9026f538ed3b54f1166d44fe7e944d1a"), looks := false }, kinds := [], alts := [], laidByText := true, laidKinds := [.data, .data], laidTests := true, laidLooks := .later }
def MachineCheapestUptoCardSaid : Prop := Claim7.holds Tryd.pinned (.plain (OpenSpec.upto machineCheapestSpec)) machineCheapestUptoCard

/-- THE SECOND FORM's CARD OF 'nadirlaw14.MachineAlgebra'. -/
def machineAlgebraUptoCard : Claim7 := { stood := { row := machineAlgebraUptoRow, standIns := [], harness := (true, "77088cae796989b9b7d7ed0bfc54bf2c9026f538ed3b54f1166d44fe7e944d1a"), looks := false }, kinds := [], alts := [], laidByText := true, laidKinds := [.data, .data], laidTests := true, laidLooks := .later }
def MachineAlgebraUptoCardSaid : Prop := Claim7.holds Tryd.pinned (.plain (OpenSpec.upto machineAlgebraSpec)) machineAlgebraUptoCard

/-- THE SECOND FORM's CARD OF 'nadirlaw14.MachineLeast'. -/
def machineLeastUptoCard : Claim7 := { stood := { row := machineLeastUptoRow, standIns := [], harness := (true, "77088cae796989b9b7d7ed0bfc54bf2c9026f538ed3b54f1166d44fe7e944d1a"), looks := false }, kinds := [], alts := [], laidByText := true, laidKinds := [.data, .data], laidTests := true, laidLooks := .later }
def MachineLeastUptoCardSaid : Prop := Claim7.holds Tryd.pinned (.plain (OpenSpec.upto machineLeastSpec)) machineLeastUptoCard
end Rows
end Go.Proofs.YtpfajhcdfgpgmaaDoor
