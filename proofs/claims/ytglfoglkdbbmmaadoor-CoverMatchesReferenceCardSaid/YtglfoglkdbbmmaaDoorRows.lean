/-
  NARROWER THAN 'FOR EVERY INPUT', by the rows' own cells (each row's printed sentence says how): CoverMatchesReference: laid · CoverChecked: laid · CoverFewest: laid · CoverDecomposes: laid · CoverBetween: laid · CoverMore: laid · CoverAround: laid.
  DERIVED. THE GIVEN ROWS OF THIS SEAT. 7 by the template 'for every input the law returns true; each argument reads behind the call as it read before'; 0 by the template 'total and deterministic' (their statements: YtglfoglkdbbmmaaDoorTotals.lean).
  GIVEN WITH THE SEED: the statements are not yours to turn. If you find one false, say at which input.
  Laid BY PROGRAM, IN A SANDBOX (cutbox-rows.mjs): the forced cells as the released guide's own fill.sh prints them over the translation 28b4f15f6d5c423e… (all of the seat's roots in one cut). By AI agents, Wed Nov 11 2026. No macro, syntax, notation, axiom, sorry.
-/
import Derived.Test.YtglfoglkdbbmmaaDoorChecked
import GoSem.Claim
import GoSem.ClaimJoined
import GoSem.ClaimMapViews
import Derived.JoinedTies
import Derived.KernelRfl
namespace Go.Proofs.YtglfoglkdbbmmaaDoor
/- THE CELL 'sum', in the pinned program and in every row, IS THE sha256 OF THE DUMP (.gsa) THAT YtglfoglkdbbmmaaDoorProg.lean LOADS. Nothing in Lean hashes anything: it is a label: what it is worth is what the hold of that sum in a sandbox is worth. -/
noncomputable def Tryd.pinned : Pinned := { name := "ytglfoglkdbbmmaadoor", sum := "28b4f15f6d5c423e611381a955831b584ad5f7bdfc36bcdc1bade9e7f68cfdd6", checked := Tryd.checked }
namespace Rows
def none {H : Type} : Left H := { results := [], args := [] }

/- WHAT THE LISTED PACKAGE-LEVEL VARIABLES READ AS WHEN THE CALL BEGINS. Each datum BY PROGRAM (the guide's laid-datum.mjs) off the statement by which the dump's own 'gosem.cut.vars' lays the variable. In a bare row this is a premise. The card (YtglfoglkdbbmmaaDoorCards.lean) ties it to the program's text. -/
def laid_math_bits_deBruijn32tab {H : Type} : DataW H := .agg [.lit (.int .u8 0), .lit (.int .u8 1), .lit (.int .u8 28), .lit (.int .u8 2), .lit (.int .u8 29), .lit (.int .u8 14), .lit (.int .u8 24), .lit (.int .u8 3), .lit (.int .u8 30), .lit (.int .u8 22), .lit (.int .u8 20), .lit (.int .u8 15), .lit (.int .u8 25), .lit (.int .u8 17), .lit (.int .u8 4), .lit (.int .u8 8), .lit (.int .u8 31), .lit (.int .u8 27), .lit (.int .u8 13), .lit (.int .u8 23), .lit (.int .u8 21), .lit (.int .u8 19), .lit (.int .u8 16), .lit (.int .u8 7), .lit (.int .u8 26), .lit (.int .u8 12), .lit (.int .u8 18), .lit (.int .u8 6), .lit (.int .u8 11), .lit (.int .u8 5), .lit (.int .u8 10), .lit (.int .u8 9)]
def laid_math_bits_deBruijn64tab {H : Type} : DataW H := .agg [.lit (.int .u8 0), .lit (.int .u8 1), .lit (.int .u8 56), .lit (.int .u8 2), .lit (.int .u8 57), .lit (.int .u8 49), .lit (.int .u8 28), .lit (.int .u8 3), .lit (.int .u8 61), .lit (.int .u8 58), .lit (.int .u8 42), .lit (.int .u8 50), .lit (.int .u8 38), .lit (.int .u8 29), .lit (.int .u8 17), .lit (.int .u8 4), .lit (.int .u8 62), .lit (.int .u8 47), .lit (.int .u8 59), .lit (.int .u8 36), .lit (.int .u8 45), .lit (.int .u8 43), .lit (.int .u8 51), .lit (.int .u8 22), .lit (.int .u8 53), .lit (.int .u8 39), .lit (.int .u8 33), .lit (.int .u8 30), .lit (.int .u8 24), .lit (.int .u8 18), .lit (.int .u8 12), .lit (.int .u8 5), .lit (.int .u8 63), .lit (.int .u8 55), .lit (.int .u8 48), .lit (.int .u8 27), .lit (.int .u8 60), .lit (.int .u8 41), .lit (.int .u8 37), .lit (.int .u8 16), .lit (.int .u8 46), .lit (.int .u8 35), .lit (.int .u8 44), .lit (.int .u8 21), .lit (.int .u8 52), .lit (.int .u8 32), .lit (.int .u8 23), .lit (.int .u8 11), .lit (.int .u8 54), .lit (.int .u8 26), .lit (.int .u8 40), .lit (.int .u8 15), .lit (.int .u8 34), .lit (.int .u8 20), .lit (.int .u8 31), .lit (.int .u8 10), .lit (.int .u8 25), .lit (.int .u8 14), .lit (.int .u8 19), .lit (.int .u8 9), .lit (.int .u8 13), .lit (.int .u8 8), .lit (.int .u8 7), .lit (.int .u8 6)]

/-- 'nadirlaw16.CoverMatchesReference': WHATEVER THE INPUT: true; the input reads as it did. -/
def coverMatchesReferenceSpec : ChangeSpec := { name := "coverMatchesReference", fn := fun _ => fun
  | [d1, d2, d3, d4, d5, d6] => { results := [.lit (.bool true)], args := [d1, d2, d3, d4, d5, d6] }
  | _ => none }
def coverMatchesReferenceRow : OpenClaim := { program := "ytglfoglkdbbmmaadoor", sum := "28b4f15f6d5c423e611381a955831b584ad5f7bdfc36bcdc1bade9e7f68cfdd6", func := "nadir/nadirlaw16.CoverMatchesReference", spec := "coverMatchesReference", unfollowed := true, recurses := true, named := ["math/bits.deBruijn32tab", "math/bits.deBruijn64tab"], apart := false, laid := [("math/bits.deBruijn32tab", laid_math_bits_deBruijn32tab), ("math/bits.deBruijn64tab", laid_math_bits_deBruijn64tab)] }
def CoverMatchesReferenceSaid : Prop := coverMatchesReferenceRow.holds Tryd.pinned (OpenSpec.ofChange coverMatchesReferenceSpec)

/-- ITS FALSE NEIGHBOUR: 'it returns false'. Refute it at one input. -/
def coverMatchesReferenceWrong : ChangeSpec := { name := "coverMatchesReference", fn := fun _ => fun
  | [d1, d2, d3, d4, d5, d6] => { results := [.lit (.bool false)], args := [d1, d2, d3, d4, d5, d6] }
  | _ => none }
def CoverMatchesReferenceWrongFalsely : Prop := coverMatchesReferenceRow.holds Tryd.pinned (OpenSpec.ofChange coverMatchesReferenceWrong)

/-- 'nadirlaw16.CoverChecked': WHATEVER THE INPUT: true; the input reads as it did. -/
def coverCheckedSpec : ChangeSpec := { name := "coverChecked", fn := fun _ => fun
  | [d1, d2, d3, d4, d5] => { results := [.lit (.bool true)], args := [d1, d2, d3, d4, d5] }
  | _ => none }
def coverCheckedRow : OpenClaim := { program := "ytglfoglkdbbmmaadoor", sum := "28b4f15f6d5c423e611381a955831b584ad5f7bdfc36bcdc1bade9e7f68cfdd6", func := "nadir/nadirlaw16.CoverChecked", spec := "coverChecked", unfollowed := true, recurses := true, named := ["math/bits.deBruijn32tab", "math/bits.deBruijn64tab"], apart := false, laid := [("math/bits.deBruijn32tab", laid_math_bits_deBruijn32tab), ("math/bits.deBruijn64tab", laid_math_bits_deBruijn64tab)] }
def CoverCheckedSaid : Prop := coverCheckedRow.holds Tryd.pinned (OpenSpec.ofChange coverCheckedSpec)

/-- ITS FALSE NEIGHBOUR: 'it returns false'. Refute it at one input. -/
def coverCheckedWrong : ChangeSpec := { name := "coverChecked", fn := fun _ => fun
  | [d1, d2, d3, d4, d5] => { results := [.lit (.bool false)], args := [d1, d2, d3, d4, d5] }
  | _ => none }
def CoverCheckedWrongFalsely : Prop := coverCheckedRow.holds Tryd.pinned (OpenSpec.ofChange coverCheckedWrong)

/-- 'nadirlaw16.CoverFewest': WHATEVER THE INPUT: true; the input reads as it did. -/
def coverFewestSpec : ChangeSpec := { name := "coverFewest", fn := fun _ => fun
  | [d1, d2, d3] => { results := [.lit (.bool true)], args := [d1, d2, d3] }
  | _ => none }
def coverFewestRow : OpenClaim := { program := "ytglfoglkdbbmmaadoor", sum := "28b4f15f6d5c423e611381a955831b584ad5f7bdfc36bcdc1bade9e7f68cfdd6", func := "nadir/nadirlaw16.CoverFewest", spec := "coverFewest", unfollowed := true, recurses := true, named := ["math/bits.deBruijn32tab", "math/bits.deBruijn64tab"], apart := false, laid := [("math/bits.deBruijn32tab", laid_math_bits_deBruijn32tab), ("math/bits.deBruijn64tab", laid_math_bits_deBruijn64tab)] }
def CoverFewestSaid : Prop := coverFewestRow.holds Tryd.pinned (OpenSpec.ofChange coverFewestSpec)

/-- ITS FALSE NEIGHBOUR: 'it returns false'. Refute it at one input. -/
def coverFewestWrong : ChangeSpec := { name := "coverFewest", fn := fun _ => fun
  | [d1, d2, d3] => { results := [.lit (.bool false)], args := [d1, d2, d3] }
  | _ => none }
def CoverFewestWrongFalsely : Prop := coverFewestRow.holds Tryd.pinned (OpenSpec.ofChange coverFewestWrong)

/-- 'nadirlaw16.CoverDecomposes': WHATEVER THE INPUT: true; the input reads as it did. -/
def coverDecomposesSpec : ChangeSpec := { name := "coverDecomposes", fn := fun _ => fun
  | [d1, d2] => { results := [.lit (.bool true)], args := [d1, d2] }
  | _ => none }
def coverDecomposesRow : OpenClaim := { program := "ytglfoglkdbbmmaadoor", sum := "28b4f15f6d5c423e611381a955831b584ad5f7bdfc36bcdc1bade9e7f68cfdd6", func := "nadir/nadirlaw16.CoverDecomposes", spec := "coverDecomposes", unfollowed := true, recurses := true, named := ["math/bits.deBruijn32tab", "math/bits.deBruijn64tab"], apart := false, laid := [("math/bits.deBruijn32tab", laid_math_bits_deBruijn32tab), ("math/bits.deBruijn64tab", laid_math_bits_deBruijn64tab)] }
def CoverDecomposesSaid : Prop := coverDecomposesRow.holds Tryd.pinned (OpenSpec.ofChange coverDecomposesSpec)

/-- ITS FALSE NEIGHBOUR: 'it returns false'. Refute it at one input. -/
def coverDecomposesWrong : ChangeSpec := { name := "coverDecomposes", fn := fun _ => fun
  | [d1, d2] => { results := [.lit (.bool false)], args := [d1, d2] }
  | _ => none }
def CoverDecomposesWrongFalsely : Prop := coverDecomposesRow.holds Tryd.pinned (OpenSpec.ofChange coverDecomposesWrong)

/-- 'nadirlaw16.CoverBetween': WHATEVER THE INPUT: true; the input reads as it did. -/
def coverBetweenSpec : ChangeSpec := { name := "coverBetween", fn := fun _ => fun
  | [d1, d2, d3] => { results := [.lit (.bool true)], args := [d1, d2, d3] }
  | _ => none }
def coverBetweenRow : OpenClaim := { program := "ytglfoglkdbbmmaadoor", sum := "28b4f15f6d5c423e611381a955831b584ad5f7bdfc36bcdc1bade9e7f68cfdd6", func := "nadir/nadirlaw16.CoverBetween", spec := "coverBetween", unfollowed := true, recurses := true, named := ["math/bits.deBruijn32tab", "math/bits.deBruijn64tab"], apart := false, laid := [("math/bits.deBruijn32tab", laid_math_bits_deBruijn32tab), ("math/bits.deBruijn64tab", laid_math_bits_deBruijn64tab)] }
def CoverBetweenSaid : Prop := coverBetweenRow.holds Tryd.pinned (OpenSpec.ofChange coverBetweenSpec)

/-- ITS FALSE NEIGHBOUR: 'it returns false'. Refute it at one input. -/
def coverBetweenWrong : ChangeSpec := { name := "coverBetween", fn := fun _ => fun
  | [d1, d2, d3] => { results := [.lit (.bool false)], args := [d1, d2, d3] }
  | _ => none }
def CoverBetweenWrongFalsely : Prop := coverBetweenRow.holds Tryd.pinned (OpenSpec.ofChange coverBetweenWrong)

/-- 'nadirlaw16.CoverMore': WHATEVER THE INPUT: true; the input reads as it did. -/
def coverMoreSpec : ChangeSpec := { name := "coverMore", fn := fun _ => fun
  | [d1, d2, d3, d4] => { results := [.lit (.bool true)], args := [d1, d2, d3, d4] }
  | _ => none }
def coverMoreRow : OpenClaim := { program := "ytglfoglkdbbmmaadoor", sum := "28b4f15f6d5c423e611381a955831b584ad5f7bdfc36bcdc1bade9e7f68cfdd6", func := "nadir/nadirlaw16.CoverMore", spec := "coverMore", unfollowed := true, recurses := true, named := ["math/bits.deBruijn32tab", "math/bits.deBruijn64tab"], apart := false, laid := [("math/bits.deBruijn32tab", laid_math_bits_deBruijn32tab), ("math/bits.deBruijn64tab", laid_math_bits_deBruijn64tab)] }
def CoverMoreSaid : Prop := coverMoreRow.holds Tryd.pinned (OpenSpec.ofChange coverMoreSpec)

/-- ITS FALSE NEIGHBOUR: 'it returns false'. Refute it at one input. -/
def coverMoreWrong : ChangeSpec := { name := "coverMore", fn := fun _ => fun
  | [d1, d2, d3, d4] => { results := [.lit (.bool false)], args := [d1, d2, d3, d4] }
  | _ => none }
def CoverMoreWrongFalsely : Prop := coverMoreRow.holds Tryd.pinned (OpenSpec.ofChange coverMoreWrong)

/-- 'nadirlaw16.CoverAround': WHATEVER THE INPUT: true; the input reads as it did. -/
def coverAroundSpec : ChangeSpec := { name := "coverAround", fn := fun _ => fun
  | [d1, d2, d3] => { results := [.lit (.bool true)], args := [d1, d2, d3] }
  | _ => none }
def coverAroundRow : OpenClaim := { program := "ytglfoglkdbbmmaadoor", sum := "28b4f15f6d5c423e611381a955831b584ad5f7bdfc36bcdc1bade9e7f68cfdd6", func := "nadir/nadirlaw16.CoverAround", spec := "coverAround", unfollowed := true, recurses := true, named := ["math/bits.deBruijn32tab", "math/bits.deBruijn64tab"], apart := false, laid := [("math/bits.deBruijn32tab", laid_math_bits_deBruijn32tab), ("math/bits.deBruijn64tab", laid_math_bits_deBruijn64tab)] }
def CoverAroundSaid : Prop := coverAroundRow.holds Tryd.pinned (OpenSpec.ofChange coverAroundSpec)

/-- ITS FALSE NEIGHBOUR: 'it returns false'. Refute it at one input. -/
def coverAroundWrong : ChangeSpec := { name := "coverAround", fn := fun _ => fun
  | [d1, d2, d3] => { results := [.lit (.bool false)], args := [d1, d2, d3] }
  | _ => none }
def CoverAroundWrongFalsely : Prop := coverAroundRow.holds Tryd.pinned (OpenSpec.ofChange coverAroundWrong)

/- THE SECOND FORM. 'bulk': how many values and letters a reading holds, each counted each time it is reached (what is shared counts as often as it is met; a slice's spare places count too). A statement '..UptoSaid' is the law's where the arguments, and the package variables that the reading takes, are together of bulk at most 1048576: NARROWER than '..Said'. Prove '..Said' where nothing that the law and all that it calls make is longer than what came in: it says more and counts as full. Else prove '..UptoSaid'. A law counts once. -/
mutual
def uptoBulk {H : Type} : DataW H → Nat
  | .lit (.string bytes) => bytes.length + 1
  | .lit _ => 1
  | .nil => 1
  | .ptr d => uptoBulk d + 1
  | .slice elems spare => uptoBulkAll elems + uptoBulkAll spare + 1
  | .agg parts => uptoBulkAll parts + 1
  | .iface _ d => uptoBulk d + 1
  | .map entries => uptoBulkEntries entries + 1
  | .held _ => 1
def uptoBulkAll {H : Type} : List (DataW H) → Nat
  | [] => 0
  | d :: r => uptoBulk d + uptoBulkAll r
def uptoBulkEntries {H : Type} : List (Lit × DataW H) → Nat
  | [] => 0
  | x :: r => uptoBulkEntry x + uptoBulkEntries r
def uptoBulkEntry {H : Type} : Lit × DataW H → Nat
  | (.string bytes, d) => bytes.length + uptoBulk d + 1
  | (_, d) => uptoBulk d + 1
 end
def uptoSmall : (H : Type) → List (DataW H) → Bool := fun _ ds => decide (uptoBulkAll ds ≤ 1048576)
def OpenSpec.upto (s : _root_.Go.ChangeSpec) : _root_.Go.OpenSpec := { _root_.Go.OpenSpec.ofChange s with cond := some uptoSmall }

/-- 'nadirlaw16.CoverMatchesReference', WHERE WHAT IT READS IS OF BULK AT MOST 1048576: true; the input reads as it did. -/
def coverMatchesReferenceUptoRow : OpenClaim := { program := "ytglfoglkdbbmmaadoor", sum := "28b4f15f6d5c423e611381a955831b584ad5f7bdfc36bcdc1bade9e7f68cfdd6", func := "nadir/nadirlaw16.CoverMatchesReference", spec := "coverMatchesReference", unfollowed := true, recurses := true, named := ["math/bits.deBruijn32tab", "math/bits.deBruijn64tab"], apart := false, laid := [("math/bits.deBruijn32tab", laid_math_bits_deBruijn32tab), ("math/bits.deBruijn64tab", laid_math_bits_deBruijn64tab)], narrowed := true }
def CoverMatchesReferenceUptoSaid : Prop := coverMatchesReferenceUptoRow.holds Tryd.pinned (OpenSpec.upto coverMatchesReferenceSpec)

/-- 'nadirlaw16.CoverChecked', WHERE WHAT IT READS IS OF BULK AT MOST 1048576: true; the input reads as it did. -/
def coverCheckedUptoRow : OpenClaim := { program := "ytglfoglkdbbmmaadoor", sum := "28b4f15f6d5c423e611381a955831b584ad5f7bdfc36bcdc1bade9e7f68cfdd6", func := "nadir/nadirlaw16.CoverChecked", spec := "coverChecked", unfollowed := true, recurses := true, named := ["math/bits.deBruijn32tab", "math/bits.deBruijn64tab"], apart := false, laid := [("math/bits.deBruijn32tab", laid_math_bits_deBruijn32tab), ("math/bits.deBruijn64tab", laid_math_bits_deBruijn64tab)], narrowed := true }
def CoverCheckedUptoSaid : Prop := coverCheckedUptoRow.holds Tryd.pinned (OpenSpec.upto coverCheckedSpec)

/-- 'nadirlaw16.CoverFewest', WHERE WHAT IT READS IS OF BULK AT MOST 1048576: true; the input reads as it did. -/
def coverFewestUptoRow : OpenClaim := { program := "ytglfoglkdbbmmaadoor", sum := "28b4f15f6d5c423e611381a955831b584ad5f7bdfc36bcdc1bade9e7f68cfdd6", func := "nadir/nadirlaw16.CoverFewest", spec := "coverFewest", unfollowed := true, recurses := true, named := ["math/bits.deBruijn32tab", "math/bits.deBruijn64tab"], apart := false, laid := [("math/bits.deBruijn32tab", laid_math_bits_deBruijn32tab), ("math/bits.deBruijn64tab", laid_math_bits_deBruijn64tab)], narrowed := true }
def CoverFewestUptoSaid : Prop := coverFewestUptoRow.holds Tryd.pinned (OpenSpec.upto coverFewestSpec)

/-- 'nadirlaw16.CoverDecomposes', WHERE WHAT IT READS IS OF BULK AT MOST 1048576: true; the input reads as it did. -/
def coverDecomposesUptoRow : OpenClaim := { program := "ytglfoglkdbbmmaadoor", sum := "28b4f15f6d5c423e611381a955831b584ad5f7bdfc36bcdc1bade9e7f68cfdd6", func := "nadir/nadirlaw16.CoverDecomposes", spec := "coverDecomposes", unfollowed := true, recurses := true, named := ["math/bits.deBruijn32tab", "math/bits.deBruijn64tab"], apart := false, laid := [("math/bits.deBruijn32tab", laid_math_bits_deBruijn32tab), ("math/bits.deBruijn64tab", laid_math_bits_deBruijn64tab)], narrowed := true }
def CoverDecomposesUptoSaid : Prop := coverDecomposesUptoRow.holds Tryd.pinned (OpenSpec.upto coverDecomposesSpec)

/-- 'nadirlaw16.CoverBetween', WHERE WHAT IT READS IS OF BULK AT MOST 1048576: true; the input reads as it did. -/
def coverBetweenUptoRow : OpenClaim := { program := "ytglfoglkdbbmmaadoor", sum := "28b4f15f6d5c423e611381a955831b584ad5f7bdfc36bcdc1bade9e7f68cfdd6", func := "nadir/nadirlaw16.CoverBetween", spec := "coverBetween", unfollowed := true, recurses := true, named := ["math/bits.deBruijn32tab", "math/bits.deBruijn64tab"], apart := false, laid := [("math/bits.deBruijn32tab", laid_math_bits_deBruijn32tab), ("math/bits.deBruijn64tab", laid_math_bits_deBruijn64tab)], narrowed := true }
def CoverBetweenUptoSaid : Prop := coverBetweenUptoRow.holds Tryd.pinned (OpenSpec.upto coverBetweenSpec)

/-- 'nadirlaw16.CoverMore', WHERE WHAT IT READS IS OF BULK AT MOST 1048576: true; the input reads as it did. -/
def coverMoreUptoRow : OpenClaim := { program := "ytglfoglkdbbmmaadoor", sum := "28b4f15f6d5c423e611381a955831b584ad5f7bdfc36bcdc1bade9e7f68cfdd6", func := "nadir/nadirlaw16.CoverMore", spec := "coverMore", unfollowed := true, recurses := true, named := ["math/bits.deBruijn32tab", "math/bits.deBruijn64tab"], apart := false, laid := [("math/bits.deBruijn32tab", laid_math_bits_deBruijn32tab), ("math/bits.deBruijn64tab", laid_math_bits_deBruijn64tab)], narrowed := true }
def CoverMoreUptoSaid : Prop := coverMoreUptoRow.holds Tryd.pinned (OpenSpec.upto coverMoreSpec)

/-- 'nadirlaw16.CoverAround', WHERE WHAT IT READS IS OF BULK AT MOST 1048576: true; the input reads as it did. -/
def coverAroundUptoRow : OpenClaim := { program := "ytglfoglkdbbmmaadoor", sum := "28b4f15f6d5c423e611381a955831b584ad5f7bdfc36bcdc1bade9e7f68cfdd6", func := "nadir/nadirlaw16.CoverAround", spec := "coverAround", unfollowed := true, recurses := true, named := ["math/bits.deBruijn32tab", "math/bits.deBruijn64tab"], apart := false, laid := [("math/bits.deBruijn32tab", laid_math_bits_deBruijn32tab), ("math/bits.deBruijn64tab", laid_math_bits_deBruijn64tab)], narrowed := true }
def CoverAroundUptoSaid : Prop := coverAroundUptoRow.holds Tryd.pinned (OpenSpec.upto coverAroundSpec)

end Rows
end Go.Proofs.YtglfoglkdbbmmaaDoor
