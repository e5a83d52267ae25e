/-
  DERIVED. GIVEN WITH THE SEED: THE CARDS: each row of YtglfoglkdbbmmaaDoorRows.lean that lists a variable, with what it lists TIED to the program's text (the seventh form; the later family's looks); each row that meets fmt, with fmt's text TOLD by the authors' own Lean function (tested against real Go, not proved from fmt's source: count such statements apart). THE CARD IS WHAT COUNTS. Prove the row's statement (the work); the ties are given (YtglfoglkdbbmmaaDoorTie.lean); close each card by the builder's one call (the guide's Derived/Test/ToyasCard.lean, 'card_holds'). Laid BY PROGRAM, IN A SANDBOX (cutbox-door.mjs). By AI agents, Wed Nov 11 2026. No macro, syntax, notation, axiom, sorry.
-/
import Derived.Test.YtglfoglkdbbmmaaDoorRows
import GoSem.ClaimSeven
namespace Go.Proofs.YtglfoglkdbbmmaaDoor
namespace Rows

/-- THE TIED CARD OF 'nadirlaw16.CoverMatchesReference'. -/
def coverMatchesReferenceCard : Claim7 := { stood := { row := coverMatchesReferenceRow, standIns := [], harness := (true, "f3c7cfc24bd30fe2366dd98a5567a6f2f4e716248d39bc96b650dc6c6e3eb102"), looks := false }, kinds := [], alts := [], laidByText := true, laidKinds := [.data, .data], laidTests := true, laidLooks := .later }
def CoverMatchesReferenceCardSaid : Prop := Claim7.holds Tryd.pinned (.plain (OpenSpec.ofChange coverMatchesReferenceSpec)) coverMatchesReferenceCard

/-- THE TIED CARD OF 'nadirlaw16.CoverChecked'. -/
def coverCheckedCard : Claim7 := { stood := { row := coverCheckedRow, standIns := [], harness := (true, "f3c7cfc24bd30fe2366dd98a5567a6f2f4e716248d39bc96b650dc6c6e3eb102"), looks := false }, kinds := [], alts := [], laidByText := true, laidKinds := [.data, .data], laidTests := true, laidLooks := .later }
def CoverCheckedCardSaid : Prop := Claim7.holds Tryd.pinned (.plain (OpenSpec.ofChange coverCheckedSpec)) coverCheckedCard

/-- THE TIED CARD OF 'nadirlaw16.CoverFewest'. -/
def coverFewestCard : Claim7 := { stood := { row := coverFewestRow, standIns := [], harness := (true, "f3c7cfc24bd30fe2366dd98a5567a6f2f4e716248d39bc96b650dc6c6e3eb102"), looks := false }, kinds := [], alts := [], laidByText := true, laidKinds := [.data, .data], laidTests := true, laidLooks := .later }
def CoverFewestCardSaid : Prop := Claim7.holds Tryd.pinned (.plain (OpenSpec.ofChange coverFewestSpec)) coverFewestCard

/-- THE TIED CARD OF 'nadirlaw16.CoverDecomposes'. -/
def coverDecomposesCard : Claim7 := { stood := { row := coverDecomposesRow, standIns := [], harness := (true, "f3c7cfc24bd30fe2366dd98a5567a6f2f4e716248d39bc96b650dc6c6e3eb102"), looks := false }, kinds := [], alts := [], laidByText := true, laidKinds := [.data, .data], laidTests := true, laidLooks := .later }
def CoverDecomposesCardSaid : Prop := Claim7.holds Tryd.pinned (.plain (OpenSpec.ofChange coverDecomposesSpec)) coverDecomposesCard

/-- THE TIED CARD OF 'nadirlaw16.CoverBetween'. -/
def coverBetweenCard : Claim7 := { stood := { row := coverBetweenRow, standIns := [], harness := (true, "f3c7cfc24bd30fe2366dd98a5567a6f2f4e716248d39bc96b650dc6c6e3eb102"), looks := false }, kinds := [], alts := [], laidByText := true, laidKinds := [.data, .data], laidTests := true, laidLooks := .later }
def CoverBetweenCardSaid : Prop := Claim7.holds Tryd.pinned (.plain (OpenSpec.ofChange coverBetweenSpec)) coverBetweenCard

/-- THE TIED CARD OF 'nadirlaw16.CoverMore'. -/
def coverMoreCard : Claim7 := { stood := { row := coverMoreRow, standIns := [], harness := (true, "f3c7cfc24bd30fe2366dd98a5567a6f2f4e716248d39bc96b650dc6c6e3eb102"), looks := false }, kinds := [], alts := [], laidByText := true, laidKinds := [.data, .data], laidTests := true, laidLooks := .later }
def CoverMoreCardSaid : Prop := Claim7.holds Tryd.pinned (.plain (OpenSpec.ofChange coverMoreSpec)) coverMoreCard

/-- THE TIED CARD OF 'nadirlaw16.CoverAround'. -/
def coverAroundCard : Claim7 := { stood := { row := coverAroundRow, standIns := [], harness := (true, "f3c7cfc24bd30fe2366dd98a5567a6f2f4e716248d39bc96b650dc6c6e3eb102"), looks := false }, kinds := [], alts := [], laidByText := true, laidKinds := [.data, .data], laidTests := true, laidLooks := .later }
def CoverAroundCardSaid : Prop := Claim7.holds Tryd.pinned (.plain (OpenSpec.ofChange coverAroundSpec)) coverAroundCard

/-- THE SECOND FORM's CARD OF 'nadirlaw16.CoverMatchesReference'. -/
def coverMatchesReferenceUptoCard : Claim7 := { stood := { row := coverMatchesReferenceUptoRow, standIns := [], harness := (true, "f3c7cfc24bd30fe2366dd98a5567a6f2f4e716248d39bc96b650dc6c6e3eb102"), looks := false }, kinds := [], alts := [], laidByText := true, laidKinds := [.data, .data], laidTests := true, laidLooks := .later }
def CoverMatchesReferenceUptoCardSaid : Prop := Claim7.holds Tryd.pinned (.plain (OpenSpec.upto coverMatchesReferenceSpec)) coverMatchesReferenceUptoCard

/-- THE SECOND FORM's CARD OF 'nadirlaw16.CoverChecked'. -/
def coverCheckedUptoCard : Claim7 := { stood := { row := coverCheckedUptoRow, standIns := [], harness := (true, "f3c7cfc24bd30fe2366dd98a5567a6f2f4e716248d39bc96b650dc6c6e3eb102"), looks := false }, kinds := [], alts := [], laidByText := true, laidKinds := [.data, .data], laidTests := true, laidLooks := .later }
def CoverCheckedUptoCardSaid : Prop := Claim7.holds Tryd.pinned (.plain (OpenSpec.upto coverCheckedSpec)) coverCheckedUptoCard

/-- THE SECOND FORM's CARD OF 'nadirlaw16.CoverFewest'. -/
def coverFewestUptoCard : Claim7 := { stood := { row := coverFewestUptoRow, standIns := [], harness := (true, "f3c7cfc24bd30fe2366dd98a5567a6f2f4e716248d39bc96b650dc6c6e3eb102"), looks := false }, kinds := [], alts := [], laidByText := true, laidKinds := [.data, .data], laidTests := true, laidLooks := .later }
def CoverFewestUptoCardSaid : Prop := Claim7.holds Tryd.pinned (.plain (OpenSpec.upto coverFewestSpec)) coverFewestUptoCard

/-- THE SECOND FORM's CARD OF 'nadirlaw16.CoverDecomposes'. -/
def coverDecomposesUptoCard : Claim7 := { stood := { row := coverDecomposesUptoRow, standIns := [], harness := (true, "f3c7cfc24bd30fe2366dd98a5567a6f2f4e716248d39bc96b650dc6c6e3eb102"), looks := false }, kinds := [], alts := [], laidByText := true, laidKinds := [.data, .data], laidTests := true, laidLooks := .later }
def CoverDecomposesUptoCardSaid : Prop := Claim7.holds Tryd.pinned (.plain (OpenSpec.upto coverDecomposesSpec)) coverDecomposesUptoCard

/-- THE SECOND FORM's CARD OF 'nadirlaw16.CoverBetween'. -/
def coverBetweenUptoCard : Claim7 := { stood := { row := coverBetweenUptoRow, standIns := [], harness := (true, "f3c7cfc24bd30fe2366dd98a5567a6f2f4e716248d39bc96b650dc6c6e3eb102"), looks := false }, kinds := [], alts := [], laidByText := true, laidKinds := [.data, .data], laidTests := true, laidLooks := .later }
def CoverBetweenUptoCardSaid : Prop := Claim7.holds Tryd.pinned (.plain (OpenSpec.upto coverBetweenSpec)) coverBetweenUptoCard

/-- THE SECOND FORM's CARD OF 'nadirlaw16.CoverMore'. -/
def coverMoreUptoCard : Claim7 := { stood := { row := coverMoreUptoRow, standIns := [], harness := (true, "f3c7cfc24bd30fe2366dd98a5567a6f2f4e716248d39bc96b650dc6c6e3eb102"), looks := false }, kinds := [], alts := [], laidByText := true, laidKinds := [.data, .data], laidTests := true, laidLooks := .later }
def CoverMoreUptoCardSaid : Prop := Claim7.holds Tryd.pinned (.plain (OpenSpec.upto coverMoreSpec)) coverMoreUptoCard

/-- THE SECOND FORM's CARD OF 'nadirlaw16.CoverAround'. -/
def coverAroundUptoCard : Claim7 := { stood := { row := coverAroundUptoRow, standIns := [], harness := (true, "f3c7cfc24bd30fe2366dd98a5567a6f2f4e716248d39bc96b650dc6c6e3eb102"), looks := false }, kinds := [], alts := [], laidByText := true, laidKinds := [.data, .data], laidTests := true, laidLooks := .later }
def CoverAroundUptoCardSaid : Prop := Claim7.holds Tryd.pinned (.plain (OpenSpec.upto coverAroundSpec)) coverAroundUptoCard
end Rows
end Go.Proofs.YtglfoglkdbbmmaaDoor
