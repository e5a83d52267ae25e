/-
  NARROWER THAN 'FOR EVERY INPUT', by the rows' own cells (each row's printed sentence says how): ReplicaMatchesReference: laid · ReplicaOrder: laid · ReplicaKeeps: laid · ReplicaCorrected: laid · ReplicaHistories: laid · ReplicaMeets: laid · ReplicaCode: laid.
  DERIVED. THE GIVEN ROWS OF THIS SEAT. 7 by the template 'for every input the law returns true; each argument reads behind the call as it read before'; 0 by the template 'total and deterministic' (their statements: YtfmoabgjaclkpaaGreatDoorTotals.lean).
  GIVEN WITH THE SEED: the statements are not yours to turn. If you find one false, say at which input.
  Laid BY PROGRAM, IN A SANDBOX (cutbox-rows.mjs): the forced cells as the released guide's own fill.sh prints them over the translation bebdb1f98a6ff958… (all of the seat's roots in one cut). By AI agents, Wed Nov 11 2026. No macro, syntax, notation, axiom, sorry.
-/
import Derived.Test.YtfmoabgjaclkpaaGreatDoorChecked
import GoSem.Claim
import GoSem.ClaimJoined
import GoSem.ClaimMapViews
import Derived.JoinedTies
import Derived.KernelRfl
namespace Go.Proofs.YtfmoabgjaclkpaaGreatDoor
/- THE CELL 'sum', in the pinned program and in every row, IS THE sha256 OF THE DUMP (.gsa) THAT YtfmoabgjaclkpaaGreatDoorProg.lean LOADS. Nothing in Lean hashes anything: it is a label: what it is worth is what the hold of that sum in a sandbox is worth. -/
noncomputable def Tryz.pinned : Pinned := { name := "ytfmoabgjaclkpaagreatdoor", sum := "bebdb1f98a6ff95831c1d803ab88497fbfced01859cc2054ac388f6a9f54e3fe", checked := Tryz.checked }
namespace Rows
def none {H : Type} : Left H := { results := [], args := [] }

/- WHAT THE LISTED PACKAGE-LEVEL VARIABLES READ AS WHEN THE CALL BEGINS. Each datum BY PROGRAM (the guide's laid-datum.mjs) off the statement by which the dump's own 'gosem.cut.vars' lays the variable. In a bare row this is a premise. The card (YtfmoabgjaclkpaaGreatDoorCards.lean) ties it to the program's text. -/
def laid_nadir_replica_rootless {H : Type} : DataW H := .agg [.lit (.int .i64 (-1)), .lit (.int .i64 0)]

/-- 'nadirlaw35.ReplicaMatchesReference': WHATEVER THE INPUT: true; the input reads as it did. -/
def replicaMatchesReferenceSpec : ChangeSpec := { name := "replicaMatchesReference", fn := fun _ => fun
  | [d1, d2, d3, d4, d5] => { results := [.lit (.bool true)], args := [d1, d2, d3, d4, d5] }
  | _ => none }
def replicaMatchesReferenceRow : OpenClaim := { program := "ytfmoabgjaclkpaagreatdoor", sum := "bebdb1f98a6ff95831c1d803ab88497fbfced01859cc2054ac388f6a9f54e3fe", func := "nadir/nadirlaw35.ReplicaMatchesReference", spec := "replicaMatchesReference", unfollowed := true, recurses := true, named := ["nadir/replica.rootless"], plainKeys := false, apart := false, laid := [("nadir/replica.rootless", laid_nadir_replica_rootless)] }
def ReplicaMatchesReferenceSaid : Prop := replicaMatchesReferenceRow.holds Tryz.pinned (OpenSpec.ofChange replicaMatchesReferenceSpec)

/-- ITS FALSE NEIGHBOUR: 'it returns false'. Refute it at one input. -/
def replicaMatchesReferenceWrong : ChangeSpec := { name := "replicaMatchesReference", fn := fun _ => fun
  | [d1, d2, d3, d4, d5] => { results := [.lit (.bool false)], args := [d1, d2, d3, d4, d5] }
  | _ => none }
def ReplicaMatchesReferenceWrongFalsely : Prop := replicaMatchesReferenceRow.holds Tryz.pinned (OpenSpec.ofChange replicaMatchesReferenceWrong)

/-- 'nadirlaw35.ReplicaOrder': WHATEVER THE INPUT: true; the input reads as it did. -/
def replicaOrderSpec : ChangeSpec := { name := "replicaOrder", fn := fun _ => fun
  | [d1, d2] => { results := [.lit (.bool true)], args := [d1, d2] }
  | _ => none }
def replicaOrderRow : OpenClaim := { program := "ytfmoabgjaclkpaagreatdoor", sum := "bebdb1f98a6ff95831c1d803ab88497fbfced01859cc2054ac388f6a9f54e3fe", func := "nadir/nadirlaw35.ReplicaOrder", spec := "replicaOrder", unfollowed := true, recurses := true, named := ["nadir/replica.rootless"], plainKeys := false, apart := false, laid := [("nadir/replica.rootless", laid_nadir_replica_rootless)] }
def ReplicaOrderSaid : Prop := replicaOrderRow.holds Tryz.pinned (OpenSpec.ofChange replicaOrderSpec)

/-- ITS FALSE NEIGHBOUR: 'it returns false'. Refute it at one input. -/
def replicaOrderWrong : ChangeSpec := { name := "replicaOrder", fn := fun _ => fun
  | [d1, d2] => { results := [.lit (.bool false)], args := [d1, d2] }
  | _ => none }
def ReplicaOrderWrongFalsely : Prop := replicaOrderRow.holds Tryz.pinned (OpenSpec.ofChange replicaOrderWrong)

/-- 'nadirlaw35.ReplicaKeeps': WHATEVER THE INPUT: true; the input reads as it did. -/
def replicaKeepsSpec : ChangeSpec := { name := "replicaKeeps", fn := fun _ => fun
  | [d1, d2, d3, d4] => { results := [.lit (.bool true)], args := [d1, d2, d3, d4] }
  | _ => none }
def replicaKeepsRow : OpenClaim := { program := "ytfmoabgjaclkpaagreatdoor", sum := "bebdb1f98a6ff95831c1d803ab88497fbfced01859cc2054ac388f6a9f54e3fe", func := "nadir/nadirlaw35.ReplicaKeeps", spec := "replicaKeeps", unfollowed := true, recurses := true, named := ["nadir/replica.rootless"], plainKeys := false, apart := false, laid := [("nadir/replica.rootless", laid_nadir_replica_rootless)] }
def ReplicaKeepsSaid : Prop := replicaKeepsRow.holds Tryz.pinned (OpenSpec.ofChange replicaKeepsSpec)

/-- ITS FALSE NEIGHBOUR: 'it returns false'. Refute it at one input. -/
def replicaKeepsWrong : ChangeSpec := { name := "replicaKeeps", fn := fun _ => fun
  | [d1, d2, d3, d4] => { results := [.lit (.bool false)], args := [d1, d2, d3, d4] }
  | _ => none }
def ReplicaKeepsWrongFalsely : Prop := replicaKeepsRow.holds Tryz.pinned (OpenSpec.ofChange replicaKeepsWrong)

/-- 'nadirlaw35.ReplicaCorrected': WHATEVER THE INPUT: true; the input reads as it did. -/
def replicaCorrectedSpec : ChangeSpec := { name := "replicaCorrected", fn := fun _ => fun
  | [d1, d2, d3, d4] => { results := [.lit (.bool true)], args := [d1, d2, d3, d4] }
  | _ => none }
def replicaCorrectedRow : OpenClaim := { program := "ytfmoabgjaclkpaagreatdoor", sum := "bebdb1f98a6ff95831c1d803ab88497fbfced01859cc2054ac388f6a9f54e3fe", func := "nadir/nadirlaw35.ReplicaCorrected", spec := "replicaCorrected", unfollowed := true, recurses := true, named := ["nadir/replica.rootless"], plainKeys := false, apart := false, laid := [("nadir/replica.rootless", laid_nadir_replica_rootless)] }
def ReplicaCorrectedSaid : Prop := replicaCorrectedRow.holds Tryz.pinned (OpenSpec.ofChange replicaCorrectedSpec)

/-- ITS FALSE NEIGHBOUR: 'it returns false'. Refute it at one input. -/
def replicaCorrectedWrong : ChangeSpec := { name := "replicaCorrected", fn := fun _ => fun
  | [d1, d2, d3, d4] => { results := [.lit (.bool false)], args := [d1, d2, d3, d4] }
  | _ => none }
def ReplicaCorrectedWrongFalsely : Prop := replicaCorrectedRow.holds Tryz.pinned (OpenSpec.ofChange replicaCorrectedWrong)

/-- 'nadirlaw35.ReplicaHistories': WHATEVER THE INPUT: true; the input reads as it did. -/
def replicaHistoriesSpec : ChangeSpec := { name := "replicaHistories", fn := fun _ => fun
  | [d] => { results := [.lit (.bool true)], args := [d] }
  | _ => none }
def replicaHistoriesRow : OpenClaim := { program := "ytfmoabgjaclkpaagreatdoor", sum := "bebdb1f98a6ff95831c1d803ab88497fbfced01859cc2054ac388f6a9f54e3fe", func := "nadir/nadirlaw35.ReplicaHistories", spec := "replicaHistories", unfollowed := true, recurses := true, named := ["nadir/replica.rootless"], plainKeys := false, apart := false, laid := [("nadir/replica.rootless", laid_nadir_replica_rootless)] }
def ReplicaHistoriesSaid : Prop := replicaHistoriesRow.holds Tryz.pinned (OpenSpec.ofChange replicaHistoriesSpec)

/-- ITS FALSE NEIGHBOUR: 'it returns false'. Refute it at one input. -/
def replicaHistoriesWrong : ChangeSpec := { name := "replicaHistories", fn := fun _ => fun
  | [d] => { results := [.lit (.bool false)], args := [d] }
  | _ => none }
def ReplicaHistoriesWrongFalsely : Prop := replicaHistoriesRow.holds Tryz.pinned (OpenSpec.ofChange replicaHistoriesWrong)

/-- 'nadirlaw35.ReplicaMeets': WHATEVER THE INPUT: true; the input reads as it did. -/
def replicaMeetsSpec : ChangeSpec := { name := "replicaMeets", fn := fun _ => fun
  | [d1, d2, d3] => { results := [.lit (.bool true)], args := [d1, d2, d3] }
  | _ => none }
def replicaMeetsRow : OpenClaim := { program := "ytfmoabgjaclkpaagreatdoor", sum := "bebdb1f98a6ff95831c1d803ab88497fbfced01859cc2054ac388f6a9f54e3fe", func := "nadir/nadirlaw35.ReplicaMeets", spec := "replicaMeets", unfollowed := true, recurses := true, named := ["nadir/replica.rootless"], plainKeys := false, apart := false, laid := [("nadir/replica.rootless", laid_nadir_replica_rootless)] }
def ReplicaMeetsSaid : Prop := replicaMeetsRow.holds Tryz.pinned (OpenSpec.ofChange replicaMeetsSpec)

/-- ITS FALSE NEIGHBOUR: 'it returns false'. Refute it at one input. -/
def replicaMeetsWrong : ChangeSpec := { name := "replicaMeets", fn := fun _ => fun
  | [d1, d2, d3] => { results := [.lit (.bool false)], args := [d1, d2, d3] }
  | _ => none }
def ReplicaMeetsWrongFalsely : Prop := replicaMeetsRow.holds Tryz.pinned (OpenSpec.ofChange replicaMeetsWrong)

/-- 'nadirlaw35.ReplicaCode': WHATEVER THE INPUT: true; the input reads as it did. -/
def replicaCodeSpec : ChangeSpec := { name := "replicaCode", fn := fun _ => fun
  | [d1, d2, d3, d4] => { results := [.lit (.bool true)], args := [d1, d2, d3, d4] }
  | _ => none }
def replicaCodeRow : OpenClaim := { program := "ytfmoabgjaclkpaagreatdoor", sum := "bebdb1f98a6ff95831c1d803ab88497fbfced01859cc2054ac388f6a9f54e3fe", func := "nadir/nadirlaw35.ReplicaCode", spec := "replicaCode", unfollowed := true, recurses := true, named := ["nadir/replica.rootless"], plainKeys := false, apart := false, laid := [("nadir/replica.rootless", laid_nadir_replica_rootless)] }
def ReplicaCodeSaid : Prop := replicaCodeRow.holds Tryz.pinned (OpenSpec.ofChange replicaCodeSpec)

/-- ITS FALSE NEIGHBOUR: 'it returns false'. Refute it at one input. -/
def replicaCodeWrong : ChangeSpec := { name := "replicaCode", fn := fun _ => fun
  | [d1, d2, d3, d4] => { results := [.lit (.bool false)], args := [d1, d2, d3, d4] }
  | _ => none }
def ReplicaCodeWrongFalsely : Prop := replicaCodeRow.holds Tryz.pinned (OpenSpec.ofChange replicaCodeWrong)

/- THE SECOND FORM. 'bulk': how many values and letters a reading holds, each counted each time it is reached (what is shared counts as often as it is met; a slice's spare places count too). A statement '..UptoSaid' is the law's where the arguments, and the package variables that the reading takes, are together of bulk at most 1048576: NARROWER than '..Said'. Prove '..Said' where nothing that the law and all that it calls make is longer than what came in: it says more and counts as full. Else prove '..UptoSaid'. A law counts once. -/
mutual
def uptoBulk {H : Type} : DataW H → Nat
  | .lit (.string bytes) => bytes.length + 1
  | .lit _ => 1
  | .nil => 1
  | .ptr d => uptoBulk d + 1
  | .slice elems spare => uptoBulkAll elems + uptoBulkAll spare + 1
  | .agg parts => uptoBulkAll parts + 1
  | .iface _ d => uptoBulk d + 1
  | .map entries => uptoBulkEntries entries + 1
  | .held _ => 1
def uptoBulkAll {H : Type} : List (DataW H) → Nat
  | [] => 0
  | d :: r => uptoBulk d + uptoBulkAll r
def uptoBulkEntries {H : Type} : List (Lit × DataW H) → Nat
  | [] => 0
  | x :: r => uptoBulkEntry x + uptoBulkEntries r
def uptoBulkEntry {H : Type} : Lit × DataW H → Nat
  | (.string bytes, d) => bytes.length + uptoBulk d + 1
  | (_, d) => uptoBulk d + 1
 end
def uptoSmall : (H : Type) → List (DataW H) → Bool := fun _ ds => decide (uptoBulkAll ds ≤ 1048576)
def OpenSpec.upto (s : _root_.Go.ChangeSpec) : _root_.Go.OpenSpec := { _root_.Go.OpenSpec.ofChange s with cond := some uptoSmall }

/-- 'nadirlaw35.ReplicaMatchesReference', WHERE WHAT IT READS IS OF BULK AT MOST 1048576: true; the input reads as it did. -/
def replicaMatchesReferenceUptoRow : OpenClaim := { program := "ytfmoabgjaclkpaagreatdoor", sum := "bebdb1f98a6ff95831c1d803ab88497fbfced01859cc2054ac388f6a9f54e3fe", func := "nadir/nadirlaw35.ReplicaMatchesReference", spec := "replicaMatchesReference", unfollowed := true, recurses := true, named := ["nadir/replica.rootless"], plainKeys := false, apart := false, laid := [("nadir/replica.rootless", laid_nadir_replica_rootless)], narrowed := true }
def ReplicaMatchesReferenceUptoSaid : Prop := replicaMatchesReferenceUptoRow.holds Tryz.pinned (OpenSpec.upto replicaMatchesReferenceSpec)

/-- 'nadirlaw35.ReplicaOrder', WHERE WHAT IT READS IS OF BULK AT MOST 1048576: true; the input reads as it did. -/
def replicaOrderUptoRow : OpenClaim := { program := "ytfmoabgjaclkpaagreatdoor", sum := "bebdb1f98a6ff95831c1d803ab88497fbfced01859cc2054ac388f6a9f54e3fe", func := "nadir/nadirlaw35.ReplicaOrder", spec := "replicaOrder", unfollowed := true, recurses := true, named := ["nadir/replica.rootless"], plainKeys := false, apart := false, laid := [("nadir/replica.rootless", laid_nadir_replica_rootless)], narrowed := true }
def ReplicaOrderUptoSaid : Prop := replicaOrderUptoRow.holds Tryz.pinned (OpenSpec.upto replicaOrderSpec)

/-- 'nadirlaw35.ReplicaKeeps', WHERE WHAT IT READS IS OF BULK AT MOST 1048576: true; the input reads as it did. -/
def replicaKeepsUptoRow : OpenClaim := { program := "ytfmoabgjaclkpaagreatdoor", sum := "bebdb1f98a6ff95831c1d803ab88497fbfced01859cc2054ac388f6a9f54e3fe", func := "nadir/nadirlaw35.ReplicaKeeps", spec := "replicaKeeps", unfollowed := true, recurses := true, named := ["nadir/replica.rootless"], plainKeys := false, apart := false, laid := [("nadir/replica.rootless", laid_nadir_replica_rootless)], narrowed := true }
def ReplicaKeepsUptoSaid : Prop := replicaKeepsUptoRow.holds Tryz.pinned (OpenSpec.upto replicaKeepsSpec)

/-- 'nadirlaw35.ReplicaCorrected', WHERE WHAT IT READS IS OF BULK AT MOST 1048576: true; the input reads as it did. -/
def replicaCorrectedUptoRow : OpenClaim := { program := "ytfmoabgjaclkpaagreatdoor", sum := "bebdb1f98a6ff95831c1d803ab88497fbfced01859cc2054ac388f6a9f54e3fe", func := "nadir/nadirlaw35.ReplicaCorrected", spec := "replicaCorrected", unfollowed := true, recurses := true, named := ["nadir/replica.rootless"], plainKeys := false, apart := false, laid := [("nadir/replica.rootless", laid_nadir_replica_rootless)], narrowed := true }
def ReplicaCorrectedUptoSaid : Prop := replicaCorrectedUptoRow.holds Tryz.pinned (OpenSpec.upto replicaCorrectedSpec)

/-- 'nadirlaw35.ReplicaHistories', WHERE WHAT IT READS IS OF BULK AT MOST 1048576: true; the input reads as it did. -/
def replicaHistoriesUptoRow : OpenClaim := { program := "ytfmoabgjaclkpaagreatdoor", sum := "bebdb1f98a6ff95831c1d803ab88497fbfced01859cc2054ac388f6a9f54e3fe", func := "nadir/nadirlaw35.ReplicaHistories", spec := "replicaHistories", unfollowed := true, recurses := true, named := ["nadir/replica.rootless"], plainKeys := false, apart := false, laid := [("nadir/replica.rootless", laid_nadir_replica_rootless)], narrowed := true }
def ReplicaHistoriesUptoSaid : Prop := replicaHistoriesUptoRow.holds Tryz.pinned (OpenSpec.upto replicaHistoriesSpec)

/-- 'nadirlaw35.ReplicaMeets', WHERE WHAT IT READS IS OF BULK AT MOST 1048576: true; the input reads as it did. -/
def replicaMeetsUptoRow : OpenClaim := { program := "ytfmoabgjaclkpaagreatdoor", sum := "bebdb1f98a6ff95831c1d803ab88497fbfced01859cc2054ac388f6a9f54e3fe", func := "nadir/nadirlaw35.ReplicaMeets", spec := "replicaMeets", unfollowed := true, recurses := true, named := ["nadir/replica.rootless"], plainKeys := false, apart := false, laid := [("nadir/replica.rootless", laid_nadir_replica_rootless)], narrowed := true }
def ReplicaMeetsUptoSaid : Prop := replicaMeetsUptoRow.holds Tryz.pinned (OpenSpec.upto replicaMeetsSpec)

/-- 'nadirlaw35.ReplicaCode', WHERE WHAT IT READS IS OF BULK AT MOST 1048576: true; the input reads as it did. -/
def replicaCodeUptoRow : OpenClaim := { program := "ytfmoabgjaclkpaagreatdoor", sum := "bebdb1f98a6ff95831c1d803ab88497fbfced01859cc2054ac388f6a9f54e3fe", func := "nadir/nadirlaw35.ReplicaCode", spec := "replicaCode", unfollowed := true, recurses := true, named := ["nadir/replica.rootless"], plainKeys := false, apart := false, laid := [("nadir/replica.rootless", laid_nadir_replica_rootless)], narrowed := true }
def ReplicaCodeUptoSaid : Prop := replicaCodeUptoRow.holds Tryz.pinned (OpenSpec.upto replicaCodeSpec)

end Rows
end Go.Proofs.YtfmoabgjaclkpaaGreatDoor
