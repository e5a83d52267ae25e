/-
  No cell of these rows narrows 'for every input' (looked for: loops, veiled, ifaces, maps, wideKeys, modest, calm, conditions, laid).
  DERIVED. THE GIVEN ROWS OF THIS SEAT. 7 by the template 'for every input the law returns true; each argument reads behind the call as it read before'; 0 by the template 'total and deterministic' (their statements: YtnbjjddfcondlaaTotals.lean).
  GIVEN WITH THE SEED: the statements are not yours to turn. If you find one false, say at which input.
  Laid BY PROGRAM, IN A SANDBOX (cutbox-rows.mjs): the forced cells as the released guide's own fill.sh prints them over the translation 756c3c465ae0a5c1… (all of the seat's roots in one cut). By AI agents, Wed Nov 11 2026. No macro, syntax, notation, axiom, sorry.
-/
import Derived.Test.YtnbjjddfcondlaaChecked
import GoSem.Claim
import GoSem.ClaimJoined
import GoSem.ClaimMapViews
import Derived.JoinedTies
import Derived.KernelRfl
namespace Go.Proofs.Ytnbjjddfcondlaa
/- THE CELL 'sum', in the pinned program and in every row, IS THE sha256 OF THE DUMP (.gsa) THAT YtnbjjddfcondlaaProg.lean LOADS. Nothing in Lean hashes anything: it is a label: what it is worth is what the hold of that sum in a sandbox is worth. -/
noncomputable def Try.pinned : Pinned := { name := "ytnbjjddfcondlaa", sum := "756c3c465ae0a5c112f2a3abe734fc9d60a89f940ff3f74cab5e6b2839dbff15", checked := Try.checked }
namespace Rows
def none {H : Type} : Left H := { results := [], args := [] }

/-- 'nadirlaw11.MemoryMatchesReference': WHATEVER THE INPUT: true; the input reads as it did. -/
def memoryMatchesReferenceSpec : ChangeSpec := { name := "memoryMatchesReference", fn := fun _ => fun
  | [d1, d2, d3, d4, d5, d6, d7, d8, d9] => { results := [.lit (.bool true)], args := [d1, d2, d3, d4, d5, d6, d7, d8, d9] }
  | _ => none }
def memoryMatchesReferenceRow : OpenClaim := { program := "ytnbjjddfcondlaa", sum := "756c3c465ae0a5c112f2a3abe734fc9d60a89f940ff3f74cab5e6b2839dbff15", func := "nadir/nadirlaw11.MemoryMatchesReference", spec := "memoryMatchesReference", unfollowed := true, recurses := true, apart := false }
def MemoryMatchesReferenceSaid : Prop := memoryMatchesReferenceRow.holds Try.pinned (OpenSpec.ofChange memoryMatchesReferenceSpec)

/-- ITS FALSE NEIGHBOUR: 'it returns false'. Refute it at one input. -/
def memoryMatchesReferenceWrong : ChangeSpec := { name := "memoryMatchesReference", fn := fun _ => fun
  | [d1, d2, d3, d4, d5, d6, d7, d8, d9] => { results := [.lit (.bool false)], args := [d1, d2, d3, d4, d5, d6, d7, d8, d9] }
  | _ => none }
def MemoryMatchesReferenceWrongFalsely : Prop := memoryMatchesReferenceRow.holds Try.pinned (OpenSpec.ofChange memoryMatchesReferenceWrong)

/-- 'nadirlaw11.MemoryRows': WHATEVER THE INPUT: true; the input reads as it did. -/
def memoryRowsSpec : ChangeSpec := { name := "memoryRows", fn := fun _ => fun
  | [d1, d2] => { results := [.lit (.bool true)], args := [d1, d2] }
  | _ => none }
def memoryRowsRow : OpenClaim := { program := "ytnbjjddfcondlaa", sum := "756c3c465ae0a5c112f2a3abe734fc9d60a89f940ff3f74cab5e6b2839dbff15", func := "nadir/nadirlaw11.MemoryRows", spec := "memoryRows", unfollowed := true, recurses := true, apart := false }
def MemoryRowsSaid : Prop := memoryRowsRow.holds Try.pinned (OpenSpec.ofChange memoryRowsSpec)

/-- ITS FALSE NEIGHBOUR: 'it returns false'. Refute it at one input. -/
def memoryRowsWrong : ChangeSpec := { name := "memoryRows", fn := fun _ => fun
  | [d1, d2] => { results := [.lit (.bool false)], args := [d1, d2] }
  | _ => none }
def MemoryRowsWrongFalsely : Prop := memoryRowsRow.holds Try.pinned (OpenSpec.ofChange memoryRowsWrong)

/-- 'nadirlaw11.MemoryFrees': WHATEVER THE INPUT: true; the input reads as it did. -/
def memoryFreesSpec : ChangeSpec := { name := "memoryFrees", fn := fun _ => fun
  | [d1, d2, d3, d4] => { results := [.lit (.bool true)], args := [d1, d2, d3, d4] }
  | _ => none }
def memoryFreesRow : OpenClaim := { program := "ytnbjjddfcondlaa", sum := "756c3c465ae0a5c112f2a3abe734fc9d60a89f940ff3f74cab5e6b2839dbff15", func := "nadir/nadirlaw11.MemoryFrees", spec := "memoryFrees", unfollowed := true, recurses := true, apart := false }
def MemoryFreesSaid : Prop := memoryFreesRow.holds Try.pinned (OpenSpec.ofChange memoryFreesSpec)

/-- ITS FALSE NEIGHBOUR: 'it returns false'. Refute it at one input. -/
def memoryFreesWrong : ChangeSpec := { name := "memoryFrees", fn := fun _ => fun
  | [d1, d2, d3, d4] => { results := [.lit (.bool false)], args := [d1, d2, d3, d4] }
  | _ => none }
def MemoryFreesWrongFalsely : Prop := memoryFreesRow.holds Try.pinned (OpenSpec.ofChange memoryFreesWrong)

/-- 'nadirlaw11.MemorySums': WHATEVER THE INPUT: true; the input reads as it did. -/
def memorySumsSpec : ChangeSpec := { name := "memorySums", fn := fun _ => fun
  | [d1, d2, d3] => { results := [.lit (.bool true)], args := [d1, d2, d3] }
  | _ => none }
def memorySumsRow : OpenClaim := { program := "ytnbjjddfcondlaa", sum := "756c3c465ae0a5c112f2a3abe734fc9d60a89f940ff3f74cab5e6b2839dbff15", func := "nadir/nadirlaw11.MemorySums", spec := "memorySums", unfollowed := true, recurses := true, apart := false }
def MemorySumsSaid : Prop := memorySumsRow.holds Try.pinned (OpenSpec.ofChange memorySumsSpec)

/-- ITS FALSE NEIGHBOUR: 'it returns false'. Refute it at one input. -/
def memorySumsWrong : ChangeSpec := { name := "memorySums", fn := fun _ => fun
  | [d1, d2, d3] => { results := [.lit (.bool false)], args := [d1, d2, d3] }
  | _ => none }
def MemorySumsWrongFalsely : Prop := memorySumsRow.holds Try.pinned (OpenSpec.ofChange memorySumsWrong)

/-- 'nadirlaw11.MemoryChosen': WHATEVER THE INPUT: true; the input reads as it did. -/
def memoryChosenSpec : ChangeSpec := { name := "memoryChosen", fn := fun _ => fun
  | [d1, d2, d3] => { results := [.lit (.bool true)], args := [d1, d2, d3] }
  | _ => none }
def memoryChosenRow : OpenClaim := { program := "ytnbjjddfcondlaa", sum := "756c3c465ae0a5c112f2a3abe734fc9d60a89f940ff3f74cab5e6b2839dbff15", func := "nadir/nadirlaw11.MemoryChosen", spec := "memoryChosen", unfollowed := true, recurses := true, apart := false }
def MemoryChosenSaid : Prop := memoryChosenRow.holds Try.pinned (OpenSpec.ofChange memoryChosenSpec)

/-- ITS FALSE NEIGHBOUR: 'it returns false'. Refute it at one input. -/
def memoryChosenWrong : ChangeSpec := { name := "memoryChosen", fn := fun _ => fun
  | [d1, d2, d3] => { results := [.lit (.bool false)], args := [d1, d2, d3] }
  | _ => none }
def MemoryChosenWrongFalsely : Prop := memoryChosenRow.holds Try.pinned (OpenSpec.ofChange memoryChosenWrong)

/-- 'nadirlaw11.MemoryRoom': WHATEVER THE INPUT: true; the input reads as it did. -/
def memoryRoomSpec : ChangeSpec := { name := "memoryRoom", fn := fun _ => fun
  | [d1, d2, d3, d4] => { results := [.lit (.bool true)], args := [d1, d2, d3, d4] }
  | _ => none }
def memoryRoomRow : OpenClaim := { program := "ytnbjjddfcondlaa", sum := "756c3c465ae0a5c112f2a3abe734fc9d60a89f940ff3f74cab5e6b2839dbff15", func := "nadir/nadirlaw11.MemoryRoom", spec := "memoryRoom", unfollowed := true, recurses := true, apart := false }
def MemoryRoomSaid : Prop := memoryRoomRow.holds Try.pinned (OpenSpec.ofChange memoryRoomSpec)

/-- ITS FALSE NEIGHBOUR: 'it returns false'. Refute it at one input. -/
def memoryRoomWrong : ChangeSpec := { name := "memoryRoom", fn := fun _ => fun
  | [d1, d2, d3, d4] => { results := [.lit (.bool false)], args := [d1, d2, d3, d4] }
  | _ => none }
def MemoryRoomWrongFalsely : Prop := memoryRoomRow.holds Try.pinned (OpenSpec.ofChange memoryRoomWrong)

/-- 'nadirlaw11.MemoryMoved': WHATEVER THE INPUT: true; the input reads as it did. -/
def memoryMovedSpec : ChangeSpec := { name := "memoryMoved", fn := fun _ => fun
  | [d1, d2, d3, d4, d5] => { results := [.lit (.bool true)], args := [d1, d2, d3, d4, d5] }
  | _ => none }
def memoryMovedRow : OpenClaim := { program := "ytnbjjddfcondlaa", sum := "756c3c465ae0a5c112f2a3abe734fc9d60a89f940ff3f74cab5e6b2839dbff15", func := "nadir/nadirlaw11.MemoryMoved", spec := "memoryMoved", unfollowed := true, recurses := true, apart := false }
def MemoryMovedSaid : Prop := memoryMovedRow.holds Try.pinned (OpenSpec.ofChange memoryMovedSpec)

/-- ITS FALSE NEIGHBOUR: 'it returns false'. Refute it at one input. -/
def memoryMovedWrong : ChangeSpec := { name := "memoryMoved", fn := fun _ => fun
  | [d1, d2, d3, d4, d5] => { results := [.lit (.bool false)], args := [d1, d2, d3, d4, d5] }
  | _ => none }
def MemoryMovedWrongFalsely : Prop := memoryMovedRow.holds Try.pinned (OpenSpec.ofChange memoryMovedWrong)

/- THE SECOND FORM. 'bulk': how many values and letters a reading holds, each counted each time it is reached (what is shared counts as often as it is met; a slice's spare places count too). A statement '..UptoSaid' is the law's where the arguments, and the package variables that the reading takes, are together of bulk at most 1048576: NARROWER than '..Said'. Prove '..Said' where nothing that the law and all that it calls make is longer than what came in: it says more and counts as full. Else prove '..UptoSaid'. A law counts once. -/
mutual
def uptoBulk {H : Type} : DataW H → Nat
  | .lit (.string bytes) => bytes.length + 1
  | .lit _ => 1
  | .nil => 1
  | .ptr d => uptoBulk d + 1
  | .slice elems spare => uptoBulkAll elems + uptoBulkAll spare + 1
  | .agg parts => uptoBulkAll parts + 1
  | .iface _ d => uptoBulk d + 1
  | .map entries => uptoBulkEntries entries + 1
  | .held _ => 1
def uptoBulkAll {H : Type} : List (DataW H) → Nat
  | [] => 0
  | d :: r => uptoBulk d + uptoBulkAll r
def uptoBulkEntries {H : Type} : List (Lit × DataW H) → Nat
  | [] => 0
  | x :: r => uptoBulkEntry x + uptoBulkEntries r
def uptoBulkEntry {H : Type} : Lit × DataW H → Nat
  | (.string bytes, d) => bytes.length + uptoBulk d + 1
  | (_, d) => uptoBulk d + 1
 end
def uptoSmall : (H : Type) → List (DataW H) → Bool := fun _ ds => decide (uptoBulkAll ds ≤ 1048576)
def OpenSpec.upto (s : _root_.Go.ChangeSpec) : _root_.Go.OpenSpec := { _root_.Go.OpenSpec.ofChange s with cond := some uptoSmall }

/-- 'nadirlaw11.MemoryMatchesReference', WHERE WHAT IT READS IS OF BULK AT MOST 1048576: true; the input reads as it did. -/
def memoryMatchesReferenceUptoRow : OpenClaim := { program := "ytnbjjddfcondlaa", sum := "756c3c465ae0a5c112f2a3abe734fc9d60a89f940ff3f74cab5e6b2839dbff15", func := "nadir/nadirlaw11.MemoryMatchesReference", spec := "memoryMatchesReference", unfollowed := true, recurses := true, apart := false, narrowed := true }
def MemoryMatchesReferenceUptoSaid : Prop := memoryMatchesReferenceUptoRow.holds Try.pinned (OpenSpec.upto memoryMatchesReferenceSpec)

/-- 'nadirlaw11.MemoryRows', WHERE WHAT IT READS IS OF BULK AT MOST 1048576: true; the input reads as it did. -/
def memoryRowsUptoRow : OpenClaim := { program := "ytnbjjddfcondlaa", sum := "756c3c465ae0a5c112f2a3abe734fc9d60a89f940ff3f74cab5e6b2839dbff15", func := "nadir/nadirlaw11.MemoryRows", spec := "memoryRows", unfollowed := true, recurses := true, apart := false, narrowed := true }
def MemoryRowsUptoSaid : Prop := memoryRowsUptoRow.holds Try.pinned (OpenSpec.upto memoryRowsSpec)

/-- 'nadirlaw11.MemoryFrees', WHERE WHAT IT READS IS OF BULK AT MOST 1048576: true; the input reads as it did. -/
def memoryFreesUptoRow : OpenClaim := { program := "ytnbjjddfcondlaa", sum := "756c3c465ae0a5c112f2a3abe734fc9d60a89f940ff3f74cab5e6b2839dbff15", func := "nadir/nadirlaw11.MemoryFrees", spec := "memoryFrees", unfollowed := true, recurses := true, apart := false, narrowed := true }
def MemoryFreesUptoSaid : Prop := memoryFreesUptoRow.holds Try.pinned (OpenSpec.upto memoryFreesSpec)

/-- 'nadirlaw11.MemorySums', WHERE WHAT IT READS IS OF BULK AT MOST 1048576: true; the input reads as it did. -/
def memorySumsUptoRow : OpenClaim := { program := "ytnbjjddfcondlaa", sum := "756c3c465ae0a5c112f2a3abe734fc9d60a89f940ff3f74cab5e6b2839dbff15", func := "nadir/nadirlaw11.MemorySums", spec := "memorySums", unfollowed := true, recurses := true, apart := false, narrowed := true }
def MemorySumsUptoSaid : Prop := memorySumsUptoRow.holds Try.pinned (OpenSpec.upto memorySumsSpec)

/-- 'nadirlaw11.MemoryChosen', WHERE WHAT IT READS IS OF BULK AT MOST 1048576: true; the input reads as it did. -/
def memoryChosenUptoRow : OpenClaim := { program := "ytnbjjddfcondlaa", sum := "756c3c465ae0a5c112f2a3abe734fc9d60a89f940ff3f74cab5e6b2839dbff15", func := "nadir/nadirlaw11.MemoryChosen", spec := "memoryChosen", unfollowed := true, recurses := true, apart := false, narrowed := true }
def MemoryChosenUptoSaid : Prop := memoryChosenUptoRow.holds Try.pinned (OpenSpec.upto memoryChosenSpec)

/-- 'nadirlaw11.MemoryRoom', WHERE WHAT IT READS IS OF BULK AT MOST 1048576: true; the input reads as it did. -/
def memoryRoomUptoRow : OpenClaim := { program := "ytnbjjddfcondlaa", sum := "756c3c465ae0a5c112f2a3abe734fc9d60a89f940ff3f74cab5e6b2839dbff15", func := "nadir/nadirlaw11.MemoryRoom", spec := "memoryRoom", unfollowed := true, recurses := true, apart := false, narrowed := true }
def MemoryRoomUptoSaid : Prop := memoryRoomUptoRow.holds Try.pinned (OpenSpec.upto memoryRoomSpec)

/-- 'nadirlaw11.MemoryMoved', WHERE WHAT IT READS IS OF BULK AT MOST 1048576: true; the input reads as it did. -/
def memoryMovedUptoRow : OpenClaim := { program := "ytnbjjddfcondlaa", sum := "756c3c465ae0a5c112f2a3abe734fc9d60a89f940ff3f74cab5e6b2839dbff15", func := "nadir/nadirlaw11.MemoryMoved", spec := "memoryMoved", unfollowed := true, recurses := true, apart := false, narrowed := true }
def MemoryMovedUptoSaid : Prop := memoryMovedUptoRow.holds Try.pinned (OpenSpec.upto memoryMovedSpec)

end Rows
end Go.Proofs.Ytnbjjddfcondlaa
