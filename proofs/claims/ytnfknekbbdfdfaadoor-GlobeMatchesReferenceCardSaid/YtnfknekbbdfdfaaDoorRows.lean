/-
  NARROWER THAN 'FOR EVERY INPUT', by the rows' own cells (each row's printed sentence says how): GlobeMatchesReference: laid · GlobeSets: laid · GlobeAround: laid · GlobeGrows: laid · GlobeNear: laid · GlobeBoxes: laid · GlobeCells: laid.
  DERIVED. THE GIVEN ROWS OF THIS SEAT. 7 by the template 'for every input the law returns true; each argument reads behind the call as it read before'; 0 by the template 'total and deterministic' (their statements: YtnfknekbbdfdfaaDoorTotals.lean).
  GIVEN WITH THE SEED: the statements are not yours to turn. If you find one false, say at which input.
  Laid BY PROGRAM, IN A SANDBOX (cutbox-rows.mjs): the forced cells as the released guide's own fill.sh prints them over the translation 9db989d0c9919e87… (all of the seat's roots in one cut). By AI agents, Wed Nov 11 2026. No macro, syntax, notation, axiom, sorry.
-/
import Derived.Test.YtnfknekbbdfdfaaDoorChecked
import GoSem.Claim
import GoSem.ClaimJoined
import GoSem.ClaimMapViews
import Derived.JoinedTies
import Derived.KernelRfl
namespace Go.Proofs.YtnfknekbbdfdfaaDoor
/- THE CELL 'sum', in the pinned program and in every row, IS THE sha256 OF THE DUMP (.gsa) THAT YtnfknekbbdfdfaaDoorProg.lean LOADS. Nothing in Lean hashes anything: it is a label: what it is worth is what the hold of that sum in a sandbox is worth. -/
noncomputable def Tryd.pinned : Pinned := { name := "ytnfknekbbdfdfaadoor", sum := "9db989d0c9919e87fed09371a5915493f0172ee14747667ca777aa29c386941a", checked := Tryd.checked }
namespace Rows
def none {H : Type} : Left H := { results := [], args := [] }

/- WHAT THE LISTED PACKAGE-LEVEL VARIABLES READ AS WHEN THE CALL BEGINS. Each datum BY PROGRAM (the guide's laid-datum.mjs) off the statement by which the dump's own 'gosem.cut.vars' lays the variable. In a bare row this is a premise. The card (YtnfknekbbdfdfaaDoorCards.lean) ties it to the program's text. -/
def laid_math_bits_deBruijn32tab {H : Type} : DataW H := .agg [.lit (.int .u8 0), .lit (.int .u8 1), .lit (.int .u8 28), .lit (.int .u8 2), .lit (.int .u8 29), .lit (.int .u8 14), .lit (.int .u8 24), .lit (.int .u8 3), .lit (.int .u8 30), .lit (.int .u8 22), .lit (.int .u8 20), .lit (.int .u8 15), .lit (.int .u8 25), .lit (.int .u8 17), .lit (.int .u8 4), .lit (.int .u8 8), .lit (.int .u8 31), .lit (.int .u8 27), .lit (.int .u8 13), .lit (.int .u8 23), .lit (.int .u8 21), .lit (.int .u8 19), .lit (.int .u8 16), .lit (.int .u8 7), .lit (.int .u8 26), .lit (.int .u8 12), .lit (.int .u8 18), .lit (.int .u8 6), .lit (.int .u8 11), .lit (.int .u8 5), .lit (.int .u8 10), .lit (.int .u8 9)]
def laid_math_bits_deBruijn64tab {H : Type} : DataW H := .agg [.lit (.int .u8 0), .lit (.int .u8 1), .lit (.int .u8 56), .lit (.int .u8 2), .lit (.int .u8 57), .lit (.int .u8 49), .lit (.int .u8 28), .lit (.int .u8 3), .lit (.int .u8 61), .lit (.int .u8 58), .lit (.int .u8 42), .lit (.int .u8 50), .lit (.int .u8 38), .lit (.int .u8 29), .lit (.int .u8 17), .lit (.int .u8 4), .lit (.int .u8 62), .lit (.int .u8 47), .lit (.int .u8 59), .lit (.int .u8 36), .lit (.int .u8 45), .lit (.int .u8 43), .lit (.int .u8 51), .lit (.int .u8 22), .lit (.int .u8 53), .lit (.int .u8 39), .lit (.int .u8 33), .lit (.int .u8 30), .lit (.int .u8 24), .lit (.int .u8 18), .lit (.int .u8 12), .lit (.int .u8 5), .lit (.int .u8 63), .lit (.int .u8 55), .lit (.int .u8 48), .lit (.int .u8 27), .lit (.int .u8 60), .lit (.int .u8 41), .lit (.int .u8 37), .lit (.int .u8 16), .lit (.int .u8 46), .lit (.int .u8 35), .lit (.int .u8 44), .lit (.int .u8 21), .lit (.int .u8 52), .lit (.int .u8 32), .lit (.int .u8 23), .lit (.int .u8 11), .lit (.int .u8 54), .lit (.int .u8 26), .lit (.int .u8 40), .lit (.int .u8 15), .lit (.int .u8 34), .lit (.int .u8 20), .lit (.int .u8 31), .lit (.int .u8 10), .lit (.int .u8 25), .lit (.int .u8 14), .lit (.int .u8 19), .lit (.int .u8 9), .lit (.int .u8 13), .lit (.int .u8 8), .lit (.int .u8 7), .lit (.int .u8 6)]

/-- 'nadirlaw05.GlobeMatchesReference': WHATEVER THE INPUT: true; the input reads as it did. -/
def globeMatchesReferenceSpec : ChangeSpec := { name := "globeMatchesReference", fn := fun _ => fun
  | [d1, d2, d3, d4, d5, d6, d7] => { results := [.lit (.bool true)], args := [d1, d2, d3, d4, d5, d6, d7] }
  | _ => none }
def globeMatchesReferenceRow : OpenClaim := { program := "ytnfknekbbdfdfaadoor", sum := "9db989d0c9919e87fed09371a5915493f0172ee14747667ca777aa29c386941a", func := "nadir/nadirlaw05.GlobeMatchesReference", spec := "globeMatchesReference", unfollowed := true, recurses := true, named := ["math/bits.deBruijn32tab", "math/bits.deBruijn64tab"], apart := false, laid := [("math/bits.deBruijn32tab", laid_math_bits_deBruijn32tab), ("math/bits.deBruijn64tab", laid_math_bits_deBruijn64tab)] }
def GlobeMatchesReferenceSaid : Prop := globeMatchesReferenceRow.holds Tryd.pinned (OpenSpec.ofChange globeMatchesReferenceSpec)

/-- ITS FALSE NEIGHBOUR: 'it returns false'. Refute it at one input. -/
def globeMatchesReferenceWrong : ChangeSpec := { name := "globeMatchesReference", fn := fun _ => fun
  | [d1, d2, d3, d4, d5, d6, d7] => { results := [.lit (.bool false)], args := [d1, d2, d3, d4, d5, d6, d7] }
  | _ => none }
def GlobeMatchesReferenceWrongFalsely : Prop := globeMatchesReferenceRow.holds Tryd.pinned (OpenSpec.ofChange globeMatchesReferenceWrong)

/-- 'nadirlaw05.GlobeSets': WHATEVER THE INPUT: true; the input reads as it did. -/
def globeSetsSpec : ChangeSpec := { name := "globeSets", fn := fun _ => fun
  | [d1, d2, d3] => { results := [.lit (.bool true)], args := [d1, d2, d3] }
  | _ => none }
def globeSetsRow : OpenClaim := { program := "ytnfknekbbdfdfaadoor", sum := "9db989d0c9919e87fed09371a5915493f0172ee14747667ca777aa29c386941a", func := "nadir/nadirlaw05.GlobeSets", spec := "globeSets", unfollowed := true, recurses := true, named := ["math/bits.deBruijn32tab", "math/bits.deBruijn64tab"], apart := false, laid := [("math/bits.deBruijn32tab", laid_math_bits_deBruijn32tab), ("math/bits.deBruijn64tab", laid_math_bits_deBruijn64tab)] }
def GlobeSetsSaid : Prop := globeSetsRow.holds Tryd.pinned (OpenSpec.ofChange globeSetsSpec)

/-- ITS FALSE NEIGHBOUR: 'it returns false'. Refute it at one input. -/
def globeSetsWrong : ChangeSpec := { name := "globeSets", fn := fun _ => fun
  | [d1, d2, d3] => { results := [.lit (.bool false)], args := [d1, d2, d3] }
  | _ => none }
def GlobeSetsWrongFalsely : Prop := globeSetsRow.holds Tryd.pinned (OpenSpec.ofChange globeSetsWrong)

/-- 'nadirlaw05.GlobeAround': WHATEVER THE INPUT: true; the input reads as it did. -/
def globeAroundSpec : ChangeSpec := { name := "globeAround", fn := fun _ => fun
  | [d1, d2, d3, d4, d5, d6] => { results := [.lit (.bool true)], args := [d1, d2, d3, d4, d5, d6] }
  | _ => none }
def globeAroundRow : OpenClaim := { program := "ytnfknekbbdfdfaadoor", sum := "9db989d0c9919e87fed09371a5915493f0172ee14747667ca777aa29c386941a", func := "nadir/nadirlaw05.GlobeAround", spec := "globeAround", unfollowed := true, recurses := true, named := ["math/bits.deBruijn32tab", "math/bits.deBruijn64tab"], apart := false, laid := [("math/bits.deBruijn32tab", laid_math_bits_deBruijn32tab), ("math/bits.deBruijn64tab", laid_math_bits_deBruijn64tab)] }
def GlobeAroundSaid : Prop := globeAroundRow.holds Tryd.pinned (OpenSpec.ofChange globeAroundSpec)

/-- ITS FALSE NEIGHBOUR: 'it returns false'. Refute it at one input. -/
def globeAroundWrong : ChangeSpec := { name := "globeAround", fn := fun _ => fun
  | [d1, d2, d3, d4, d5, d6] => { results := [.lit (.bool false)], args := [d1, d2, d3, d4, d5, d6] }
  | _ => none }
def GlobeAroundWrongFalsely : Prop := globeAroundRow.holds Tryd.pinned (OpenSpec.ofChange globeAroundWrong)

/-- 'nadirlaw05.GlobeGrows': WHATEVER THE INPUT: true; the input reads as it did. -/
def globeGrowsSpec : ChangeSpec := { name := "globeGrows", fn := fun _ => fun
  | [d1, d2, d3, d4] => { results := [.lit (.bool true)], args := [d1, d2, d3, d4] }
  | _ => none }
def globeGrowsRow : OpenClaim := { program := "ytnfknekbbdfdfaadoor", sum := "9db989d0c9919e87fed09371a5915493f0172ee14747667ca777aa29c386941a", func := "nadir/nadirlaw05.GlobeGrows", spec := "globeGrows", unfollowed := true, recurses := true, named := ["math/bits.deBruijn32tab", "math/bits.deBruijn64tab"], apart := false, laid := [("math/bits.deBruijn32tab", laid_math_bits_deBruijn32tab), ("math/bits.deBruijn64tab", laid_math_bits_deBruijn64tab)] }
def GlobeGrowsSaid : Prop := globeGrowsRow.holds Tryd.pinned (OpenSpec.ofChange globeGrowsSpec)

/-- ITS FALSE NEIGHBOUR: 'it returns false'. Refute it at one input. -/
def globeGrowsWrong : ChangeSpec := { name := "globeGrows", fn := fun _ => fun
  | [d1, d2, d3, d4] => { results := [.lit (.bool false)], args := [d1, d2, d3, d4] }
  | _ => none }
def GlobeGrowsWrongFalsely : Prop := globeGrowsRow.holds Tryd.pinned (OpenSpec.ofChange globeGrowsWrong)

/-- 'nadirlaw05.GlobeNear': WHATEVER THE INPUT: true; the input reads as it did. -/
def globeNearSpec : ChangeSpec := { name := "globeNear", fn := fun _ => fun
  | [d1, d2, d3, d4, d5, d6] => { results := [.lit (.bool true)], args := [d1, d2, d3, d4, d5, d6] }
  | _ => none }
def globeNearRow : OpenClaim := { program := "ytnfknekbbdfdfaadoor", sum := "9db989d0c9919e87fed09371a5915493f0172ee14747667ca777aa29c386941a", func := "nadir/nadirlaw05.GlobeNear", spec := "globeNear", unfollowed := true, recurses := true, named := ["math/bits.deBruijn32tab", "math/bits.deBruijn64tab"], apart := false, laid := [("math/bits.deBruijn32tab", laid_math_bits_deBruijn32tab), ("math/bits.deBruijn64tab", laid_math_bits_deBruijn64tab)] }
def GlobeNearSaid : Prop := globeNearRow.holds Tryd.pinned (OpenSpec.ofChange globeNearSpec)

/-- ITS FALSE NEIGHBOUR: 'it returns false'. Refute it at one input. -/
def globeNearWrong : ChangeSpec := { name := "globeNear", fn := fun _ => fun
  | [d1, d2, d3, d4, d5, d6] => { results := [.lit (.bool false)], args := [d1, d2, d3, d4, d5, d6] }
  | _ => none }
def GlobeNearWrongFalsely : Prop := globeNearRow.holds Tryd.pinned (OpenSpec.ofChange globeNearWrong)

/-- 'nadirlaw05.GlobeBoxes': WHATEVER THE INPUT: true; the input reads as it did. -/
def globeBoxesSpec : ChangeSpec := { name := "globeBoxes", fn := fun _ => fun
  | [d1, d2, d3, d4, d5, d6] => { results := [.lit (.bool true)], args := [d1, d2, d3, d4, d5, d6] }
  | _ => none }
def globeBoxesRow : OpenClaim := { program := "ytnfknekbbdfdfaadoor", sum := "9db989d0c9919e87fed09371a5915493f0172ee14747667ca777aa29c386941a", func := "nadir/nadirlaw05.GlobeBoxes", spec := "globeBoxes", unfollowed := true, recurses := true, named := ["math/bits.deBruijn32tab", "math/bits.deBruijn64tab"], apart := false, laid := [("math/bits.deBruijn32tab", laid_math_bits_deBruijn32tab), ("math/bits.deBruijn64tab", laid_math_bits_deBruijn64tab)] }
def GlobeBoxesSaid : Prop := globeBoxesRow.holds Tryd.pinned (OpenSpec.ofChange globeBoxesSpec)

/-- ITS FALSE NEIGHBOUR: 'it returns false'. Refute it at one input. -/
def globeBoxesWrong : ChangeSpec := { name := "globeBoxes", fn := fun _ => fun
  | [d1, d2, d3, d4, d5, d6] => { results := [.lit (.bool false)], args := [d1, d2, d3, d4, d5, d6] }
  | _ => none }
def GlobeBoxesWrongFalsely : Prop := globeBoxesRow.holds Tryd.pinned (OpenSpec.ofChange globeBoxesWrong)

/-- 'nadirlaw05.GlobeCells': WHATEVER THE INPUT: true; the input reads as it did. -/
def globeCellsSpec : ChangeSpec := { name := "globeCells", fn := fun _ => fun
  | [d] => { results := [.lit (.bool true)], args := [d] }
  | _ => none }
def globeCellsRow : OpenClaim := { program := "ytnfknekbbdfdfaadoor", sum := "9db989d0c9919e87fed09371a5915493f0172ee14747667ca777aa29c386941a", func := "nadir/nadirlaw05.GlobeCells", spec := "globeCells", unfollowed := true, recurses := true, named := ["math/bits.deBruijn32tab", "math/bits.deBruijn64tab"], apart := false, laid := [("math/bits.deBruijn32tab", laid_math_bits_deBruijn32tab), ("math/bits.deBruijn64tab", laid_math_bits_deBruijn64tab)] }
def GlobeCellsSaid : Prop := globeCellsRow.holds Tryd.pinned (OpenSpec.ofChange globeCellsSpec)

/-- ITS FALSE NEIGHBOUR: 'it returns false'. Refute it at one input. -/
def globeCellsWrong : ChangeSpec := { name := "globeCells", fn := fun _ => fun
  | [d] => { results := [.lit (.bool false)], args := [d] }
  | _ => none }
def GlobeCellsWrongFalsely : Prop := globeCellsRow.holds Tryd.pinned (OpenSpec.ofChange globeCellsWrong)

/- THE SECOND FORM. 'bulk': how many values and letters a reading holds, each counted each time it is reached (what is shared counts as often as it is met; a slice's spare places count too). A statement '..UptoSaid' is the law's where the arguments, and the package variables that the reading takes, are together of bulk at most 1048576: NARROWER than '..Said'. Prove '..Said' where nothing that the law and all that it calls make is longer than what came in: it says more and counts as full. Else prove '..UptoSaid'. A law counts once. -/
mutual
def uptoBulk {H : Type} : DataW H → Nat
  | .lit (.string bytes) => bytes.length + 1
  | .lit _ => 1
  | .nil => 1
  | .ptr d => uptoBulk d + 1
  | .slice elems spare => uptoBulkAll elems + uptoBulkAll spare + 1
  | .agg parts => uptoBulkAll parts + 1
  | .iface _ d => uptoBulk d + 1
  | .map entries => uptoBulkEntries entries + 1
  | .held _ => 1
def uptoBulkAll {H : Type} : List (DataW H) → Nat
  | [] => 0
  | d :: r => uptoBulk d + uptoBulkAll r
def uptoBulkEntries {H : Type} : List (Lit × DataW H) → Nat
  | [] => 0
  | x :: r => uptoBulkEntry x + uptoBulkEntries r
def uptoBulkEntry {H : Type} : Lit × DataW H → Nat
  | (.string bytes, d) => bytes.length + uptoBulk d + 1
  | (_, d) => uptoBulk d + 1
 end
def uptoSmall : (H : Type) → List (DataW H) → Bool := fun _ ds => decide (uptoBulkAll ds ≤ 1048576)
def OpenSpec.upto (s : _root_.Go.ChangeSpec) : _root_.Go.OpenSpec := { _root_.Go.OpenSpec.ofChange s with cond := some uptoSmall }

/-- 'nadirlaw05.GlobeMatchesReference', WHERE WHAT IT READS IS OF BULK AT MOST 1048576: true; the input reads as it did. -/
def globeMatchesReferenceUptoRow : OpenClaim := { program := "ytnfknekbbdfdfaadoor", sum := "9db989d0c9919e87fed09371a5915493f0172ee14747667ca777aa29c386941a", func := "nadir/nadirlaw05.GlobeMatchesReference", spec := "globeMatchesReference", unfollowed := true, recurses := true, named := ["math/bits.deBruijn32tab", "math/bits.deBruijn64tab"], apart := false, laid := [("math/bits.deBruijn32tab", laid_math_bits_deBruijn32tab), ("math/bits.deBruijn64tab", laid_math_bits_deBruijn64tab)], narrowed := true }
def GlobeMatchesReferenceUptoSaid : Prop := globeMatchesReferenceUptoRow.holds Tryd.pinned (OpenSpec.upto globeMatchesReferenceSpec)

/-- 'nadirlaw05.GlobeSets', WHERE WHAT IT READS IS OF BULK AT MOST 1048576: true; the input reads as it did. -/
def globeSetsUptoRow : OpenClaim := { program := "ytnfknekbbdfdfaadoor", sum := "9db989d0c9919e87fed09371a5915493f0172ee14747667ca777aa29c386941a", func := "nadir/nadirlaw05.GlobeSets", spec := "globeSets", unfollowed := true, recurses := true, named := ["math/bits.deBruijn32tab", "math/bits.deBruijn64tab"], apart := false, laid := [("math/bits.deBruijn32tab", laid_math_bits_deBruijn32tab), ("math/bits.deBruijn64tab", laid_math_bits_deBruijn64tab)], narrowed := true }
def GlobeSetsUptoSaid : Prop := globeSetsUptoRow.holds Tryd.pinned (OpenSpec.upto globeSetsSpec)

/-- 'nadirlaw05.GlobeAround', WHERE WHAT IT READS IS OF BULK AT MOST 1048576: true; the input reads as it did. -/
def globeAroundUptoRow : OpenClaim := { program := "ytnfknekbbdfdfaadoor", sum := "9db989d0c9919e87fed09371a5915493f0172ee14747667ca777aa29c386941a", func := "nadir/nadirlaw05.GlobeAround", spec := "globeAround", unfollowed := true, recurses := true, named := ["math/bits.deBruijn32tab", "math/bits.deBruijn64tab"], apart := false, laid := [("math/bits.deBruijn32tab", laid_math_bits_deBruijn32tab), ("math/bits.deBruijn64tab", laid_math_bits_deBruijn64tab)], narrowed := true }
def GlobeAroundUptoSaid : Prop := globeAroundUptoRow.holds Tryd.pinned (OpenSpec.upto globeAroundSpec)

/-- 'nadirlaw05.GlobeGrows', WHERE WHAT IT READS IS OF BULK AT MOST 1048576: true; the input reads as it did. -/
def globeGrowsUptoRow : OpenClaim := { program := "ytnfknekbbdfdfaadoor", sum := "9db989d0c9919e87fed09371a5915493f0172ee14747667ca777aa29c386941a", func := "nadir/nadirlaw05.GlobeGrows", spec := "globeGrows", unfollowed := true, recurses := true, named := ["math/bits.deBruijn32tab", "math/bits.deBruijn64tab"], apart := false, laid := [("math/bits.deBruijn32tab", laid_math_bits_deBruijn32tab), ("math/bits.deBruijn64tab", laid_math_bits_deBruijn64tab)], narrowed := true }
def GlobeGrowsUptoSaid : Prop := globeGrowsUptoRow.holds Tryd.pinned (OpenSpec.upto globeGrowsSpec)

/-- 'nadirlaw05.GlobeNear', WHERE WHAT IT READS IS OF BULK AT MOST 1048576: true; the input reads as it did. -/
def globeNearUptoRow : OpenClaim := { program := "ytnfknekbbdfdfaadoor", sum := "9db989d0c9919e87fed09371a5915493f0172ee14747667ca777aa29c386941a", func := "nadir/nadirlaw05.GlobeNear", spec := "globeNear", unfollowed := true, recurses := true, named := ["math/bits.deBruijn32tab", "math/bits.deBruijn64tab"], apart := false, laid := [("math/bits.deBruijn32tab", laid_math_bits_deBruijn32tab), ("math/bits.deBruijn64tab", laid_math_bits_deBruijn64tab)], narrowed := true }
def GlobeNearUptoSaid : Prop := globeNearUptoRow.holds Tryd.pinned (OpenSpec.upto globeNearSpec)

/-- 'nadirlaw05.GlobeBoxes', WHERE WHAT IT READS IS OF BULK AT MOST 1048576: true; the input reads as it did. -/
def globeBoxesUptoRow : OpenClaim := { program := "ytnfknekbbdfdfaadoor", sum := "9db989d0c9919e87fed09371a5915493f0172ee14747667ca777aa29c386941a", func := "nadir/nadirlaw05.GlobeBoxes", spec := "globeBoxes", unfollowed := true, recurses := true, named := ["math/bits.deBruijn32tab", "math/bits.deBruijn64tab"], apart := false, laid := [("math/bits.deBruijn32tab", laid_math_bits_deBruijn32tab), ("math/bits.deBruijn64tab", laid_math_bits_deBruijn64tab)], narrowed := true }
def GlobeBoxesUptoSaid : Prop := globeBoxesUptoRow.holds Tryd.pinned (OpenSpec.upto globeBoxesSpec)

/-- 'nadirlaw05.GlobeCells', WHERE WHAT IT READS IS OF BULK AT MOST 1048576: true; the input reads as it did. -/
def globeCellsUptoRow : OpenClaim := { program := "ytnfknekbbdfdfaadoor", sum := "9db989d0c9919e87fed09371a5915493f0172ee14747667ca777aa29c386941a", func := "nadir/nadirlaw05.GlobeCells", spec := "globeCells", unfollowed := true, recurses := true, named := ["math/bits.deBruijn32tab", "math/bits.deBruijn64tab"], apart := false, laid := [("math/bits.deBruijn32tab", laid_math_bits_deBruijn32tab), ("math/bits.deBruijn64tab", laid_math_bits_deBruijn64tab)], narrowed := true }
def GlobeCellsUptoSaid : Prop := globeCellsUptoRow.holds Tryd.pinned (OpenSpec.upto globeCellsSpec)

end Rows
end Go.Proofs.YtnfknekbbdfdfaaDoor
