/-
  No cell of these rows narrows 'for every input' (looked for: loops, veiled, ifaces, maps, wideKeys, modest, calm, conditions, laid).
  DERIVED. THE GIVEN ROWS OF THIS SEAT. 6 by the template 'for every input the law returns true; each argument reads behind the call as it read before'; 0 by the template 'total and deterministic' (their statements: YtdjjkhefdalokaaTotals.lean).
  GIVEN WITH THE SEED: the statements are not yours to turn. If you find one false, say at which input.
  Laid BY PROGRAM, IN A SANDBOX (cutbox-rows.mjs): the forced cells as the released guide's own fill.sh prints them over the translation 450b11dfa5a49fe1… (all of the seat's roots in one cut). By AI agents, Wed Nov 11 2026. No macro, syntax, notation, axiom, sorry.
-/
import Derived.Test.YtdjjkhefdalokaaChecked
import GoSem.Claim
import GoSem.ClaimJoined
import GoSem.ClaimMapViews
import Derived.JoinedTies
import Derived.KernelRfl
namespace Go.Proofs.Ytdjjkhefdalokaa
/- THE CELL 'sum', in the pinned program and in every row, IS THE sha256 OF THE DUMP (.gsa) THAT YtdjjkhefdalokaaProg.lean LOADS. Nothing in Lean hashes anything: it is a label: what it is worth is what the hold of that sum in a sandbox is worth. -/
noncomputable def Try.pinned : Pinned := { name := "ytdjjkhefdalokaa", sum := "450b11dfa5a49fe15feffdf18d16b7f9d8d8e05238ed41ae6e3f4ef7acb586c4", checked := Try.checked }
namespace Rows
def none {H : Type} : Left H := { results := [], args := [] }

/-- 'nadirlaw08.SwathMatchesReference': WHATEVER THE INPUT: true; the input reads as it did. -/
def swathMatchesReferenceSpec : ChangeSpec := { name := "swathMatchesReference", fn := fun _ => fun
  | [d1, d2, d3, d4, d5, d6, d7, d8, d9] => { results := [.lit (.bool true)], args := [d1, d2, d3, d4, d5, d6, d7, d8, d9] }
  | _ => none }
def swathMatchesReferenceRow : OpenClaim := { program := "ytdjjkhefdalokaa", sum := "450b11dfa5a49fe15feffdf18d16b7f9d8d8e05238ed41ae6e3f4ef7acb586c4", func := "nadir/nadirlaw08.SwathMatchesReference", spec := "swathMatchesReference", unfollowed := true, recurses := true, apart := false }
def SwathMatchesReferenceSaid : Prop := swathMatchesReferenceRow.holds Try.pinned (OpenSpec.ofChange swathMatchesReferenceSpec)

/-- ITS FALSE NEIGHBOUR: 'it returns false'. Refute it at one input. -/
def swathMatchesReferenceWrong : ChangeSpec := { name := "swathMatchesReference", fn := fun _ => fun
  | [d1, d2, d3, d4, d5, d6, d7, d8, d9] => { results := [.lit (.bool false)], args := [d1, d2, d3, d4, d5, d6, d7, d8, d9] }
  | _ => none }
def SwathMatchesReferenceWrongFalsely : Prop := swathMatchesReferenceRow.holds Try.pinned (OpenSpec.ofChange swathMatchesReferenceWrong)

/-- 'nadirlaw08.SwathSuns': WHATEVER THE INPUT: true; the input reads as it did. -/
def swathSunsSpec : ChangeSpec := { name := "swathSuns", fn := fun _ => fun
  | [d1, d2, d3] => { results := [.lit (.bool true)], args := [d1, d2, d3] }
  | _ => none }
def swathSunsRow : OpenClaim := { program := "ytdjjkhefdalokaa", sum := "450b11dfa5a49fe15feffdf18d16b7f9d8d8e05238ed41ae6e3f4ef7acb586c4", func := "nadir/nadirlaw08.SwathSuns", spec := "swathSuns", unfollowed := true, recurses := true, apart := false }
def SwathSunsSaid : Prop := swathSunsRow.holds Try.pinned (OpenSpec.ofChange swathSunsSpec)

/-- ITS FALSE NEIGHBOUR: 'it returns false'. Refute it at one input. -/
def swathSunsWrong : ChangeSpec := { name := "swathSuns", fn := fun _ => fun
  | [d1, d2, d3] => { results := [.lit (.bool false)], args := [d1, d2, d3] }
  | _ => none }
def SwathSunsWrongFalsely : Prop := swathSunsRow.holds Try.pinned (OpenSpec.ofChange swathSunsWrong)

/-- 'nadirlaw08.SwathBest': WHATEVER THE INPUT: true; the input reads as it did. -/
def swathBestSpec : ChangeSpec := { name := "swathBest", fn := fun _ => fun
  | [d1, d2, d3, d4, d5, d6, d7] => { results := [.lit (.bool true)], args := [d1, d2, d3, d4, d5, d6, d7] }
  | _ => none }
def swathBestRow : OpenClaim := { program := "ytdjjkhefdalokaa", sum := "450b11dfa5a49fe15feffdf18d16b7f9d8d8e05238ed41ae6e3f4ef7acb586c4", func := "nadir/nadirlaw08.SwathBest", spec := "swathBest", unfollowed := true, recurses := true, apart := false }
def SwathBestSaid : Prop := swathBestRow.holds Try.pinned (OpenSpec.ofChange swathBestSpec)

/-- ITS FALSE NEIGHBOUR: 'it returns false'. Refute it at one input. -/
def swathBestWrong : ChangeSpec := { name := "swathBest", fn := fun _ => fun
  | [d1, d2, d3, d4, d5, d6, d7] => { results := [.lit (.bool false)], args := [d1, d2, d3, d4, d5, d6, d7] }
  | _ => none }
def SwathBestWrongFalsely : Prop := swathBestRow.holds Try.pinned (OpenSpec.ofChange swathBestWrong)

/-- 'nadirlaw08.SwathLonger': WHATEVER THE INPUT: true; the input reads as it did. -/
def swathLongerSpec : ChangeSpec := { name := "swathLonger", fn := fun _ => fun
  | [d1, d2, d3, d4] => { results := [.lit (.bool true)], args := [d1, d2, d3, d4] }
  | _ => none }
def swathLongerRow : OpenClaim := { program := "ytdjjkhefdalokaa", sum := "450b11dfa5a49fe15feffdf18d16b7f9d8d8e05238ed41ae6e3f4ef7acb586c4", func := "nadir/nadirlaw08.SwathLonger", spec := "swathLonger", unfollowed := true, recurses := true, apart := false }
def SwathLongerSaid : Prop := swathLongerRow.holds Try.pinned (OpenSpec.ofChange swathLongerSpec)

/-- ITS FALSE NEIGHBOUR: 'it returns false'. Refute it at one input. -/
def swathLongerWrong : ChangeSpec := { name := "swathLonger", fn := fun _ => fun
  | [d1, d2, d3, d4] => { results := [.lit (.bool false)], args := [d1, d2, d3, d4] }
  | _ => none }
def SwathLongerWrongFalsely : Prop := swathLongerRow.holds Try.pinned (OpenSpec.ofChange swathLongerWrong)

/-- 'nadirlaw08.SwathLooks': WHATEVER THE INPUT: true; the input reads as it did. -/
def swathLooksSpec : ChangeSpec := { name := "swathLooks", fn := fun _ => fun
  | [d1, d2, d3, d4] => { results := [.lit (.bool true)], args := [d1, d2, d3, d4] }
  | _ => none }
def swathLooksRow : OpenClaim := { program := "ytdjjkhefdalokaa", sum := "450b11dfa5a49fe15feffdf18d16b7f9d8d8e05238ed41ae6e3f4ef7acb586c4", func := "nadir/nadirlaw08.SwathLooks", spec := "swathLooks", unfollowed := true, recurses := true, apart := false }
def SwathLooksSaid : Prop := swathLooksRow.holds Try.pinned (OpenSpec.ofChange swathLooksSpec)

/-- ITS FALSE NEIGHBOUR: 'it returns false'. Refute it at one input. -/
def swathLooksWrong : ChangeSpec := { name := "swathLooks", fn := fun _ => fun
  | [d1, d2, d3, d4] => { results := [.lit (.bool false)], args := [d1, d2, d3, d4] }
  | _ => none }
def SwathLooksWrongFalsely : Prop := swathLooksRow.holds Try.pinned (OpenSpec.ofChange swathLooksWrong)

/-- 'nadirlaw08.SwathSure': WHATEVER THE INPUT: true; the input reads as it did. -/
def swathSureSpec : ChangeSpec := { name := "swathSure", fn := fun _ => fun
  | [d1, d2, d3] => { results := [.lit (.bool true)], args := [d1, d2, d3] }
  | _ => none }
def swathSureRow : OpenClaim := { program := "ytdjjkhefdalokaa", sum := "450b11dfa5a49fe15feffdf18d16b7f9d8d8e05238ed41ae6e3f4ef7acb586c4", func := "nadir/nadirlaw08.SwathSure", spec := "swathSure", unfollowed := true, recurses := true, apart := false }
def SwathSureSaid : Prop := swathSureRow.holds Try.pinned (OpenSpec.ofChange swathSureSpec)

/-- ITS FALSE NEIGHBOUR: 'it returns false'. Refute it at one input. -/
def swathSureWrong : ChangeSpec := { name := "swathSure", fn := fun _ => fun
  | [d1, d2, d3] => { results := [.lit (.bool false)], args := [d1, d2, d3] }
  | _ => none }
def SwathSureWrongFalsely : Prop := swathSureRow.holds Try.pinned (OpenSpec.ofChange swathSureWrong)

/- THE SECOND FORM. 'bulk': how many values and letters a reading holds, each counted each time it is reached (what is shared counts as often as it is met; a slice's spare places count too). A statement '..UptoSaid' is the law's where the arguments, and the package variables that the reading takes, are together of bulk at most 1048576: NARROWER than '..Said'. Prove '..Said' where nothing that the law and all that it calls make is longer than what came in: it says more and counts as full. Else prove '..UptoSaid'. A law counts once. -/
mutual
def uptoBulk {H : Type} : DataW H → Nat
  | .lit (.string bytes) => bytes.length + 1
  | .lit _ => 1
  | .nil => 1
  | .ptr d => uptoBulk d + 1
  | .slice elems spare => uptoBulkAll elems + uptoBulkAll spare + 1
  | .agg parts => uptoBulkAll parts + 1
  | .iface _ d => uptoBulk d + 1
  | .map entries => uptoBulkEntries entries + 1
  | .held _ => 1
def uptoBulkAll {H : Type} : List (DataW H) → Nat
  | [] => 0
  | d :: r => uptoBulk d + uptoBulkAll r
def uptoBulkEntries {H : Type} : List (Lit × DataW H) → Nat
  | [] => 0
  | x :: r => uptoBulkEntry x + uptoBulkEntries r
def uptoBulkEntry {H : Type} : Lit × DataW H → Nat
  | (.string bytes, d) => bytes.length + uptoBulk d + 1
  | (_, d) => uptoBulk d + 1
 end
def uptoSmall : (H : Type) → List (DataW H) → Bool := fun _ ds => decide (uptoBulkAll ds ≤ 1048576)
def OpenSpec.upto (s : _root_.Go.ChangeSpec) : _root_.Go.OpenSpec := { _root_.Go.OpenSpec.ofChange s with cond := some uptoSmall }

/-- 'nadirlaw08.SwathMatchesReference', WHERE WHAT IT READS IS OF BULK AT MOST 1048576: true; the input reads as it did. -/
def swathMatchesReferenceUptoRow : OpenClaim := { program := "ytdjjkhefdalokaa", sum := "450b11dfa5a49fe15feffdf18d16b7f9d8d8e05238ed41ae6e3f4ef7acb586c4", func := "nadir/nadirlaw08.SwathMatchesReference", spec := "swathMatchesReference", unfollowed := true, recurses := true, apart := false, narrowed := true }
def SwathMatchesReferenceUptoSaid : Prop := swathMatchesReferenceUptoRow.holds Try.pinned (OpenSpec.upto swathMatchesReferenceSpec)

/-- 'nadirlaw08.SwathSuns', WHERE WHAT IT READS IS OF BULK AT MOST 1048576: true; the input reads as it did. -/
def swathSunsUptoRow : OpenClaim := { program := "ytdjjkhefdalokaa", sum := "450b11dfa5a49fe15feffdf18d16b7f9d8d8e05238ed41ae6e3f4ef7acb586c4", func := "nadir/nadirlaw08.SwathSuns", spec := "swathSuns", unfollowed := true, recurses := true, apart := false, narrowed := true }
def SwathSunsUptoSaid : Prop := swathSunsUptoRow.holds Try.pinned (OpenSpec.upto swathSunsSpec)

/-- 'nadirlaw08.SwathBest', WHERE WHAT IT READS IS OF BULK AT MOST 1048576: true; the input reads as it did. -/
def swathBestUptoRow : OpenClaim := { program := "ytdjjkhefdalokaa", sum := "450b11dfa5a49fe15feffdf18d16b7f9d8d8e05238ed41ae6e3f4ef7acb586c4", func := "nadir/nadirlaw08.SwathBest", spec := "swathBest", unfollowed := true, recurses := true, apart := false, narrowed := true }
def SwathBestUptoSaid : Prop := swathBestUptoRow.holds Try.pinned (OpenSpec.upto swathBestSpec)

/-- 'nadirlaw08.SwathLonger', WHERE WHAT IT READS IS OF BULK AT MOST 1048576: true; the input reads as it did. -/
def swathLongerUptoRow : OpenClaim := { program := "ytdjjkhefdalokaa", sum := "450b11dfa5a49fe15feffdf18d16b7f9d8d8e05238ed41ae6e3f4ef7acb586c4", func := "nadir/nadirlaw08.SwathLonger", spec := "swathLonger", unfollowed := true, recurses := true, apart := false, narrowed := true }
def SwathLongerUptoSaid : Prop := swathLongerUptoRow.holds Try.pinned (OpenSpec.upto swathLongerSpec)

/-- 'nadirlaw08.SwathLooks', WHERE WHAT IT READS IS OF BULK AT MOST 1048576: true; the input reads as it did. -/
def swathLooksUptoRow : OpenClaim := { program := "ytdjjkhefdalokaa", sum := "450b11dfa5a49fe15feffdf18d16b7f9d8d8e05238ed41ae6e3f4ef7acb586c4", func := "nadir/nadirlaw08.SwathLooks", spec := "swathLooks", unfollowed := true, recurses := true, apart := false, narrowed := true }
def SwathLooksUptoSaid : Prop := swathLooksUptoRow.holds Try.pinned (OpenSpec.upto swathLooksSpec)

/-- 'nadirlaw08.SwathSure', WHERE WHAT IT READS IS OF BULK AT MOST 1048576: true; the input reads as it did. -/
def swathSureUptoRow : OpenClaim := { program := "ytdjjkhefdalokaa", sum := "450b11dfa5a49fe15feffdf18d16b7f9d8d8e05238ed41ae6e3f4ef7acb586c4", func := "nadir/nadirlaw08.SwathSure", spec := "swathSure", unfollowed := true, recurses := true, apart := false, narrowed := true }
def SwathSureUptoSaid : Prop := swathSureUptoRow.holds Try.pinned (OpenSpec.upto swathSureSpec)

end Rows
end Go.Proofs.Ytdjjkhefdalokaa
