/-
  NARROWER THAN 'FOR EVERY INPUT', by the rows' own cells (each row's printed sentence says how): SunMatchesReference: laid · SunAround: laid · SunNoon: laid · SunFalls: laid · SunShadow: laid · SunNext: laid · SunYear: laid · SunRanges: laid.
  DERIVED. THE GIVEN ROWS OF THIS SEAT. 8 by the template 'for every input the law returns true; each argument reads behind the call as it read before'; 0 by the template 'total and deterministic' (their statements: YtknlnmalaidaiaaDoorTotals.lean).
  GIVEN WITH THE SEED: the statements are not yours to turn. If you find one false, say at which input.
  Laid BY PROGRAM, IN A SANDBOX (cutbox-rows.mjs): the forced cells as the released guide's own fill.sh prints them over the translation cd52e66d8d059a52… (all of the seat's roots in one cut). By AI agents, Wed Nov 11 2026. No macro, syntax, notation, axiom, sorry.
-/
import Derived.Test.YtknlnmalaidaiaaDoorChecked
import GoSem.Claim
import GoSem.ClaimJoined
import GoSem.ClaimMapViews
import Derived.JoinedTies
import Derived.KernelRfl
namespace Go.Proofs.YtknlnmalaidaiaaDoor
/- THE CELL 'sum', in the pinned program and in every row, IS THE sha256 OF THE DUMP (.gsa) THAT YtknlnmalaidaiaaDoorProg.lean LOADS. Nothing in Lean hashes anything: it is a label: what it is worth is what the hold of that sum in a sandbox is worth. -/
noncomputable def Tryd.pinned : Pinned := { name := "ytknlnmalaidaiaadoor", sum := "cd52e66d8d059a52bee84d61f23753410038462bef2636490be2fa56a639336a", checked := Tryd.checked }
namespace Rows
def none {H : Type} : Left H := { results := [], args := [] }

/- WHAT THE LISTED PACKAGE-LEVEL VARIABLES READ AS WHEN THE CALL BEGINS. Each datum BY PROGRAM (the guide's laid-datum.mjs) off the statement by which the dump's own 'gosem.cut.vars' lays the variable. In a bare row this is a premise. The card (YtknlnmalaidaiaaDoorCards.lean) ties it to the program's text. -/
def laid_math_bits_deBruijn32tab {H : Type} : DataW H := .agg [.lit (.int .u8 0), .lit (.int .u8 1), .lit (.int .u8 28), .lit (.int .u8 2), .lit (.int .u8 29), .lit (.int .u8 14), .lit (.int .u8 24), .lit (.int .u8 3), .lit (.int .u8 30), .lit (.int .u8 22), .lit (.int .u8 20), .lit (.int .u8 15), .lit (.int .u8 25), .lit (.int .u8 17), .lit (.int .u8 4), .lit (.int .u8 8), .lit (.int .u8 31), .lit (.int .u8 27), .lit (.int .u8 13), .lit (.int .u8 23), .lit (.int .u8 21), .lit (.int .u8 19), .lit (.int .u8 16), .lit (.int .u8 7), .lit (.int .u8 26), .lit (.int .u8 12), .lit (.int .u8 18), .lit (.int .u8 6), .lit (.int .u8 11), .lit (.int .u8 5), .lit (.int .u8 10), .lit (.int .u8 9)]
def laid_math_bits_deBruijn64tab {H : Type} : DataW H := .agg [.lit (.int .u8 0), .lit (.int .u8 1), .lit (.int .u8 56), .lit (.int .u8 2), .lit (.int .u8 57), .lit (.int .u8 49), .lit (.int .u8 28), .lit (.int .u8 3), .lit (.int .u8 61), .lit (.int .u8 58), .lit (.int .u8 42), .lit (.int .u8 50), .lit (.int .u8 38), .lit (.int .u8 29), .lit (.int .u8 17), .lit (.int .u8 4), .lit (.int .u8 62), .lit (.int .u8 47), .lit (.int .u8 59), .lit (.int .u8 36), .lit (.int .u8 45), .lit (.int .u8 43), .lit (.int .u8 51), .lit (.int .u8 22), .lit (.int .u8 53), .lit (.int .u8 39), .lit (.int .u8 33), .lit (.int .u8 30), .lit (.int .u8 24), .lit (.int .u8 18), .lit (.int .u8 12), .lit (.int .u8 5), .lit (.int .u8 63), .lit (.int .u8 55), .lit (.int .u8 48), .lit (.int .u8 27), .lit (.int .u8 60), .lit (.int .u8 41), .lit (.int .u8 37), .lit (.int .u8 16), .lit (.int .u8 46), .lit (.int .u8 35), .lit (.int .u8 44), .lit (.int .u8 21), .lit (.int .u8 52), .lit (.int .u8 32), .lit (.int .u8 23), .lit (.int .u8 11), .lit (.int .u8 54), .lit (.int .u8 26), .lit (.int .u8 40), .lit (.int .u8 15), .lit (.int .u8 34), .lit (.int .u8 20), .lit (.int .u8 31), .lit (.int .u8 10), .lit (.int .u8 25), .lit (.int .u8 14), .lit (.int .u8 19), .lit (.int .u8 9), .lit (.int .u8 13), .lit (.int .u8 8), .lit (.int .u8 7), .lit (.int .u8 6)]

/-- 'nadirlaw06.SunMatchesReference': WHATEVER THE INPUT: true; the input reads as it did. -/
def sunMatchesReferenceSpec : ChangeSpec := { name := "sunMatchesReference", fn := fun _ => fun
  | [d1, d2, d3, d4, d5, d6] => { results := [.lit (.bool true)], args := [d1, d2, d3, d4, d5, d6] }
  | _ => none }
def sunMatchesReferenceRow : OpenClaim := { program := "ytknlnmalaidaiaadoor", sum := "cd52e66d8d059a52bee84d61f23753410038462bef2636490be2fa56a639336a", func := "nadir/nadirlaw06.SunMatchesReference", spec := "sunMatchesReference", unfollowed := true, recurses := true, named := ["math/bits.deBruijn32tab", "math/bits.deBruijn64tab"], apart := false, laid := [("math/bits.deBruijn32tab", laid_math_bits_deBruijn32tab), ("math/bits.deBruijn64tab", laid_math_bits_deBruijn64tab)] }
def SunMatchesReferenceSaid : Prop := sunMatchesReferenceRow.holds Tryd.pinned (OpenSpec.ofChange sunMatchesReferenceSpec)

/-- ITS FALSE NEIGHBOUR: 'it returns false'. Refute it at one input. -/
def sunMatchesReferenceWrong : ChangeSpec := { name := "sunMatchesReference", fn := fun _ => fun
  | [d1, d2, d3, d4, d5, d6] => { results := [.lit (.bool false)], args := [d1, d2, d3, d4, d5, d6] }
  | _ => none }
def SunMatchesReferenceWrongFalsely : Prop := sunMatchesReferenceRow.holds Tryd.pinned (OpenSpec.ofChange sunMatchesReferenceWrong)

/-- 'nadirlaw06.SunAround': WHATEVER THE INPUT: true; the input reads as it did. -/
def sunAroundSpec : ChangeSpec := { name := "sunAround", fn := fun _ => fun
  | [d1, d2, d3, d4, d5] => { results := [.lit (.bool true)], args := [d1, d2, d3, d4, d5] }
  | _ => none }
def sunAroundRow : OpenClaim := { program := "ytknlnmalaidaiaadoor", sum := "cd52e66d8d059a52bee84d61f23753410038462bef2636490be2fa56a639336a", func := "nadir/nadirlaw06.SunAround", spec := "sunAround", unfollowed := true, recurses := true, named := ["math/bits.deBruijn32tab", "math/bits.deBruijn64tab"], apart := false, laid := [("math/bits.deBruijn32tab", laid_math_bits_deBruijn32tab), ("math/bits.deBruijn64tab", laid_math_bits_deBruijn64tab)] }
def SunAroundSaid : Prop := sunAroundRow.holds Tryd.pinned (OpenSpec.ofChange sunAroundSpec)

/-- ITS FALSE NEIGHBOUR: 'it returns false'. Refute it at one input. -/
def sunAroundWrong : ChangeSpec := { name := "sunAround", fn := fun _ => fun
  | [d1, d2, d3, d4, d5] => { results := [.lit (.bool false)], args := [d1, d2, d3, d4, d5] }
  | _ => none }
def SunAroundWrongFalsely : Prop := sunAroundRow.holds Tryd.pinned (OpenSpec.ofChange sunAroundWrong)

/-- 'nadirlaw06.SunNoon': WHATEVER THE INPUT: true; the input reads as it did. -/
def sunNoonSpec : ChangeSpec := { name := "sunNoon", fn := fun _ => fun
  | [d1, d2, d3, d4, d5] => { results := [.lit (.bool true)], args := [d1, d2, d3, d4, d5] }
  | _ => none }
def sunNoonRow : OpenClaim := { program := "ytknlnmalaidaiaadoor", sum := "cd52e66d8d059a52bee84d61f23753410038462bef2636490be2fa56a639336a", func := "nadir/nadirlaw06.SunNoon", spec := "sunNoon", unfollowed := true, recurses := true, named := ["math/bits.deBruijn32tab", "math/bits.deBruijn64tab"], apart := false, laid := [("math/bits.deBruijn32tab", laid_math_bits_deBruijn32tab), ("math/bits.deBruijn64tab", laid_math_bits_deBruijn64tab)] }
def SunNoonSaid : Prop := sunNoonRow.holds Tryd.pinned (OpenSpec.ofChange sunNoonSpec)

/-- ITS FALSE NEIGHBOUR: 'it returns false'. Refute it at one input. -/
def sunNoonWrong : ChangeSpec := { name := "sunNoon", fn := fun _ => fun
  | [d1, d2, d3, d4, d5] => { results := [.lit (.bool false)], args := [d1, d2, d3, d4, d5] }
  | _ => none }
def SunNoonWrongFalsely : Prop := sunNoonRow.holds Tryd.pinned (OpenSpec.ofChange sunNoonWrong)

/-- 'nadirlaw06.SunFalls': WHATEVER THE INPUT: true; the input reads as it did. -/
def sunFallsSpec : ChangeSpec := { name := "sunFalls", fn := fun _ => fun
  | [d1, d2, d3, d4, d5] => { results := [.lit (.bool true)], args := [d1, d2, d3, d4, d5] }
  | _ => none }
def sunFallsRow : OpenClaim := { program := "ytknlnmalaidaiaadoor", sum := "cd52e66d8d059a52bee84d61f23753410038462bef2636490be2fa56a639336a", func := "nadir/nadirlaw06.SunFalls", spec := "sunFalls", unfollowed := true, recurses := true, named := ["math/bits.deBruijn32tab", "math/bits.deBruijn64tab"], apart := false, laid := [("math/bits.deBruijn32tab", laid_math_bits_deBruijn32tab), ("math/bits.deBruijn64tab", laid_math_bits_deBruijn64tab)] }
def SunFallsSaid : Prop := sunFallsRow.holds Tryd.pinned (OpenSpec.ofChange sunFallsSpec)

/-- ITS FALSE NEIGHBOUR: 'it returns false'. Refute it at one input. -/
def sunFallsWrong : ChangeSpec := { name := "sunFalls", fn := fun _ => fun
  | [d1, d2, d3, d4, d5] => { results := [.lit (.bool false)], args := [d1, d2, d3, d4, d5] }
  | _ => none }
def SunFallsWrongFalsely : Prop := sunFallsRow.holds Tryd.pinned (OpenSpec.ofChange sunFallsWrong)

/-- 'nadirlaw06.SunShadow': WHATEVER THE INPUT: true; the input reads as it did. -/
def sunShadowSpec : ChangeSpec := { name := "sunShadow", fn := fun _ => fun
  | [d1, d2, d3, d4, d5] => { results := [.lit (.bool true)], args := [d1, d2, d3, d4, d5] }
  | _ => none }
def sunShadowRow : OpenClaim := { program := "ytknlnmalaidaiaadoor", sum := "cd52e66d8d059a52bee84d61f23753410038462bef2636490be2fa56a639336a", func := "nadir/nadirlaw06.SunShadow", spec := "sunShadow", unfollowed := true, recurses := true, named := ["math/bits.deBruijn32tab", "math/bits.deBruijn64tab"], apart := false, laid := [("math/bits.deBruijn32tab", laid_math_bits_deBruijn32tab), ("math/bits.deBruijn64tab", laid_math_bits_deBruijn64tab)] }
def SunShadowSaid : Prop := sunShadowRow.holds Tryd.pinned (OpenSpec.ofChange sunShadowSpec)

/-- ITS FALSE NEIGHBOUR: 'it returns false'. Refute it at one input. -/
def sunShadowWrong : ChangeSpec := { name := "sunShadow", fn := fun _ => fun
  | [d1, d2, d3, d4, d5] => { results := [.lit (.bool false)], args := [d1, d2, d3, d4, d5] }
  | _ => none }
def SunShadowWrongFalsely : Prop := sunShadowRow.holds Tryd.pinned (OpenSpec.ofChange sunShadowWrong)

/-- 'nadirlaw06.SunNext': WHATEVER THE INPUT: true; the input reads as it did. -/
def sunNextSpec : ChangeSpec := { name := "sunNext", fn := fun _ => fun
  | [d1, d2, d3, d4] => { results := [.lit (.bool true)], args := [d1, d2, d3, d4] }
  | _ => none }
def sunNextRow : OpenClaim := { program := "ytknlnmalaidaiaadoor", sum := "cd52e66d8d059a52bee84d61f23753410038462bef2636490be2fa56a639336a", func := "nadir/nadirlaw06.SunNext", spec := "sunNext", unfollowed := true, recurses := true, named := ["math/bits.deBruijn32tab", "math/bits.deBruijn64tab"], apart := false, laid := [("math/bits.deBruijn32tab", laid_math_bits_deBruijn32tab), ("math/bits.deBruijn64tab", laid_math_bits_deBruijn64tab)] }
def SunNextSaid : Prop := sunNextRow.holds Tryd.pinned (OpenSpec.ofChange sunNextSpec)

/-- ITS FALSE NEIGHBOUR: 'it returns false'. Refute it at one input. -/
def sunNextWrong : ChangeSpec := { name := "sunNext", fn := fun _ => fun
  | [d1, d2, d3, d4] => { results := [.lit (.bool false)], args := [d1, d2, d3, d4] }
  | _ => none }
def SunNextWrongFalsely : Prop := sunNextRow.holds Tryd.pinned (OpenSpec.ofChange sunNextWrong)

/-- 'nadirlaw06.SunYear': WHATEVER THE INPUT: true; the input reads as it did. -/
def sunYearSpec : ChangeSpec := { name := "sunYear", fn := fun _ => fun
  | [d1, d2, d3] => { results := [.lit (.bool true)], args := [d1, d2, d3] }
  | _ => none }
def sunYearRow : OpenClaim := { program := "ytknlnmalaidaiaadoor", sum := "cd52e66d8d059a52bee84d61f23753410038462bef2636490be2fa56a639336a", func := "nadir/nadirlaw06.SunYear", spec := "sunYear", unfollowed := true, recurses := true, named := ["math/bits.deBruijn32tab", "math/bits.deBruijn64tab"], apart := false, laid := [("math/bits.deBruijn32tab", laid_math_bits_deBruijn32tab), ("math/bits.deBruijn64tab", laid_math_bits_deBruijn64tab)] }
def SunYearSaid : Prop := sunYearRow.holds Tryd.pinned (OpenSpec.ofChange sunYearSpec)

/-- ITS FALSE NEIGHBOUR: 'it returns false'. Refute it at one input. -/
def sunYearWrong : ChangeSpec := { name := "sunYear", fn := fun _ => fun
  | [d1, d2, d3] => { results := [.lit (.bool false)], args := [d1, d2, d3] }
  | _ => none }
def SunYearWrongFalsely : Prop := sunYearRow.holds Tryd.pinned (OpenSpec.ofChange sunYearWrong)

/-- 'nadirlaw06.SunRanges': WHATEVER THE INPUT: true; the input reads as it did. -/
def sunRangesSpec : ChangeSpec := { name := "sunRanges", fn := fun _ => fun
  | [d1, d2, d3, d4, d5] => { results := [.lit (.bool true)], args := [d1, d2, d3, d4, d5] }
  | _ => none }
def sunRangesRow : OpenClaim := { program := "ytknlnmalaidaiaadoor", sum := "cd52e66d8d059a52bee84d61f23753410038462bef2636490be2fa56a639336a", func := "nadir/nadirlaw06.SunRanges", spec := "sunRanges", unfollowed := true, recurses := true, named := ["math/bits.deBruijn32tab", "math/bits.deBruijn64tab"], apart := false, laid := [("math/bits.deBruijn32tab", laid_math_bits_deBruijn32tab), ("math/bits.deBruijn64tab", laid_math_bits_deBruijn64tab)] }
def SunRangesSaid : Prop := sunRangesRow.holds Tryd.pinned (OpenSpec.ofChange sunRangesSpec)

/-- ITS FALSE NEIGHBOUR: 'it returns false'. Refute it at one input. -/
def sunRangesWrong : ChangeSpec := { name := "sunRanges", fn := fun _ => fun
  | [d1, d2, d3, d4, d5] => { results := [.lit (.bool false)], args := [d1, d2, d3, d4, d5] }
  | _ => none }
def SunRangesWrongFalsely : Prop := sunRangesRow.holds Tryd.pinned (OpenSpec.ofChange sunRangesWrong)

/- THE SECOND FORM. 'bulk': how many values and letters a reading holds, each counted each time it is reached (what is shared counts as often as it is met; a slice's spare places count too). A statement '..UptoSaid' is the law's where the arguments, and the package variables that the reading takes, are together of bulk at most 1048576: NARROWER than '..Said'. Prove '..Said' where nothing that the law and all that it calls make is longer than what came in: it says more and counts as full. Else prove '..UptoSaid'. A law counts once. -/
mutual
def uptoBulk {H : Type} : DataW H → Nat
  | .lit (.string bytes) => bytes.length + 1
  | .lit _ => 1
  | .nil => 1
  | .ptr d => uptoBulk d + 1
  | .slice elems spare => uptoBulkAll elems + uptoBulkAll spare + 1
  | .agg parts => uptoBulkAll parts + 1
  | .iface _ d => uptoBulk d + 1
  | .map entries => uptoBulkEntries entries + 1
  | .held _ => 1
def uptoBulkAll {H : Type} : List (DataW H) → Nat
  | [] => 0
  | d :: r => uptoBulk d + uptoBulkAll r
def uptoBulkEntries {H : Type} : List (Lit × DataW H) → Nat
  | [] => 0
  | x :: r => uptoBulkEntry x + uptoBulkEntries r
def uptoBulkEntry {H : Type} : Lit × DataW H → Nat
  | (.string bytes, d) => bytes.length + uptoBulk d + 1
  | (_, d) => uptoBulk d + 1
 end
def uptoSmall : (H : Type) → List (DataW H) → Bool := fun _ ds => decide (uptoBulkAll ds ≤ 1048576)
def OpenSpec.upto (s : _root_.Go.ChangeSpec) : _root_.Go.OpenSpec := { _root_.Go.OpenSpec.ofChange s with cond := some uptoSmall }

/-- 'nadirlaw06.SunMatchesReference', WHERE WHAT IT READS IS OF BULK AT MOST 1048576: true; the input reads as it did. -/
def sunMatchesReferenceUptoRow : OpenClaim := { program := "ytknlnmalaidaiaadoor", sum := "cd52e66d8d059a52bee84d61f23753410038462bef2636490be2fa56a639336a", func := "nadir/nadirlaw06.SunMatchesReference", spec := "sunMatchesReference", unfollowed := true, recurses := true, named := ["math/bits.deBruijn32tab", "math/bits.deBruijn64tab"], apart := false, laid := [("math/bits.deBruijn32tab", laid_math_bits_deBruijn32tab), ("math/bits.deBruijn64tab", laid_math_bits_deBruijn64tab)], narrowed := true }
def SunMatchesReferenceUptoSaid : Prop := sunMatchesReferenceUptoRow.holds Tryd.pinned (OpenSpec.upto sunMatchesReferenceSpec)

/-- 'nadirlaw06.SunAround', WHERE WHAT IT READS IS OF BULK AT MOST 1048576: true; the input reads as it did. -/
def sunAroundUptoRow : OpenClaim := { program := "ytknlnmalaidaiaadoor", sum := "cd52e66d8d059a52bee84d61f23753410038462bef2636490be2fa56a639336a", func := "nadir/nadirlaw06.SunAround", spec := "sunAround", unfollowed := true, recurses := true, named := ["math/bits.deBruijn32tab", "math/bits.deBruijn64tab"], apart := false, laid := [("math/bits.deBruijn32tab", laid_math_bits_deBruijn32tab), ("math/bits.deBruijn64tab", laid_math_bits_deBruijn64tab)], narrowed := true }
def SunAroundUptoSaid : Prop := sunAroundUptoRow.holds Tryd.pinned (OpenSpec.upto sunAroundSpec)

/-- 'nadirlaw06.SunNoon', WHERE WHAT IT READS IS OF BULK AT MOST 1048576: true; the input reads as it did. -/
def sunNoonUptoRow : OpenClaim := { program := "ytknlnmalaidaiaadoor", sum := "cd52e66d8d059a52bee84d61f23753410038462bef2636490be2fa56a639336a", func := "nadir/nadirlaw06.SunNoon", spec := "sunNoon", unfollowed := true, recurses := true, named := ["math/bits.deBruijn32tab", "math/bits.deBruijn64tab"], apart := false, laid := [("math/bits.deBruijn32tab", laid_math_bits_deBruijn32tab), ("math/bits.deBruijn64tab", laid_math_bits_deBruijn64tab)], narrowed := true }
def SunNoonUptoSaid : Prop := sunNoonUptoRow.holds Tryd.pinned (OpenSpec.upto sunNoonSpec)

/-- 'nadirlaw06.SunFalls', WHERE WHAT IT READS IS OF BULK AT MOST 1048576: true; the input reads as it did. -/
def sunFallsUptoRow : OpenClaim := { program := "ytknlnmalaidaiaadoor", sum := "cd52e66d8d059a52bee84d61f23753410038462bef2636490be2fa56a639336a", func := "nadir/nadirlaw06.SunFalls", spec := "sunFalls", unfollowed := true, recurses := true, named := ["math/bits.deBruijn32tab", "math/bits.deBruijn64tab"], apart := false, laid := [("math/bits.deBruijn32tab", laid_math_bits_deBruijn32tab), ("math/bits.deBruijn64tab", laid_math_bits_deBruijn64tab)], narrowed := true }
def SunFallsUptoSaid : Prop := sunFallsUptoRow.holds Tryd.pinned (OpenSpec.upto sunFallsSpec)

/-- 'nadirlaw06.SunShadow', WHERE WHAT IT READS IS OF BULK AT MOST 1048576: true; the input reads as it did. -/
def sunShadowUptoRow : OpenClaim := { program := "ytknlnmalaidaiaadoor", sum := "cd52e66d8d059a52bee84d61f23753410038462bef2636490be2fa56a639336a", func := "nadir/nadirlaw06.SunShadow", spec := "sunShadow", unfollowed := true, recurses := true, named := ["math/bits.deBruijn32tab", "math/bits.deBruijn64tab"], apart := false, laid := [("math/bits.deBruijn32tab", laid_math_bits_deBruijn32tab), ("math/bits.deBruijn64tab", laid_math_bits_deBruijn64tab)], narrowed := true }
def SunShadowUptoSaid : Prop := sunShadowUptoRow.holds Tryd.pinned (OpenSpec.upto sunShadowSpec)

/-- 'nadirlaw06.SunNext', WHERE WHAT IT READS IS OF BULK AT MOST 1048576: true; the input reads as it did. -/
def sunNextUptoRow : OpenClaim := { program := "ytknlnmalaidaiaadoor", sum := "cd52e66d8d059a52bee84d61f23753410038462bef2636490be2fa56a639336a", func := "nadir/nadirlaw06.SunNext", spec := "sunNext", unfollowed := true, recurses := true, named := ["math/bits.deBruijn32tab", "math/bits.deBruijn64tab"], apart := false, laid := [("math/bits.deBruijn32tab", laid_math_bits_deBruijn32tab), ("math/bits.deBruijn64tab", laid_math_bits_deBruijn64tab)], narrowed := true }
def SunNextUptoSaid : Prop := sunNextUptoRow.holds Tryd.pinned (OpenSpec.upto sunNextSpec)

/-- 'nadirlaw06.SunYear', WHERE WHAT IT READS IS OF BULK AT MOST 1048576: true; the input reads as it did. -/
def sunYearUptoRow : OpenClaim := { program := "ytknlnmalaidaiaadoor", sum := "cd52e66d8d059a52bee84d61f23753410038462bef2636490be2fa56a639336a", func := "nadir/nadirlaw06.SunYear", spec := "sunYear", unfollowed := true, recurses := true, named := ["math/bits.deBruijn32tab", "math/bits.deBruijn64tab"], apart := false, laid := [("math/bits.deBruijn32tab", laid_math_bits_deBruijn32tab), ("math/bits.deBruijn64tab", laid_math_bits_deBruijn64tab)], narrowed := true }
def SunYearUptoSaid : Prop := sunYearUptoRow.holds Tryd.pinned (OpenSpec.upto sunYearSpec)

/-- 'nadirlaw06.SunRanges', WHERE WHAT IT READS IS OF BULK AT MOST 1048576: true; the input reads as it did. -/
def sunRangesUptoRow : OpenClaim := { program := "ytknlnmalaidaiaadoor", sum := "cd52e66d8d059a52bee84d61f23753410038462bef2636490be2fa56a639336a", func := "nadir/nadirlaw06.SunRanges", spec := "sunRanges", unfollowed := true, recurses := true, named := ["math/bits.deBruijn32tab", "math/bits.deBruijn64tab"], apart := false, laid := [("math/bits.deBruijn32tab", laid_math_bits_deBruijn32tab), ("math/bits.deBruijn64tab", laid_math_bits_deBruijn64tab)], narrowed := true }
def SunRangesUptoSaid : Prop := sunRangesUptoRow.holds Tryd.pinned (OpenSpec.upto sunRangesSpec)

end Rows
end Go.Proofs.YtknlnmalaidaiaaDoor
