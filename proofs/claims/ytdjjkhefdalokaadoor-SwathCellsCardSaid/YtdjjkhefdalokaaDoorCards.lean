/-
  DERIVED. GIVEN WITH THE SEED: THE CARDS: each row of YtdjjkhefdalokaaDoorRows.lean that lists a variable, with what it lists TIED to the program's text (the seventh form; the later family's looks); each row that meets fmt, with fmt's text TOLD by the authors' own Lean function (tested against real Go, not proved from fmt's source: count such statements apart). THE CARD IS WHAT COUNTS. Prove the row's statement (the work); the ties are given (YtdjjkhefdalokaaDoorTie.lean); close each card by the builder's one call (the guide's Derived/Test/ToyasCard.lean, 'card_holds'). Laid BY PROGRAM, IN A SANDBOX (cutbox-door.mjs). By AI agents, Wed Nov 11 2026. No macro, syntax, notation, axiom, sorry.
-/
import Derived.Test.YtdjjkhefdalokaaDoorRows
import GoSem.ClaimSeven
namespace Go.Proofs.YtdjjkhefdalokaaDoor
namespace Rows

/-- THE TIED CARD OF 'nadirlaw08.SwathCells'. -/
def swathCellsCard : Claim7 := { stood := { row := swathCellsRow, standIns := [], harness := (true, "902de5488c9475f6116b8a8cd6bdb348b0a58ba257e985381721fd7dfc34ea2c"), looks := false }, kinds := [], alts := [], laidByText := true, laidKinds := [.data, .data], laidTests := true, laidLooks := .later }
def SwathCellsCardSaid : Prop := Claim7.holds Tryd.pinned (.plain (OpenSpec.ofChange swathCellsSpec)) swathCellsCard

/-- THE SECOND FORM's CARD OF 'nadirlaw08.SwathCells'. -/
def swathCellsUptoCard : Claim7 := { stood := { row := swathCellsUptoRow, standIns := [], harness := (true, "902de5488c9475f6116b8a8cd6bdb348b0a58ba257e985381721fd7dfc34ea2c"), looks := false }, kinds := [], alts := [], laidByText := true, laidKinds := [.data, .data], laidTests := true, laidLooks := .later }
def SwathCellsUptoCardSaid : Prop := Claim7.holds Tryd.pinned (.plain (OpenSpec.upto swathCellsSpec)) swathCellsUptoCard
end Rows
end Go.Proofs.YtdjjkhefdalokaaDoor
