/-
  No cell of these rows narrows 'for every input' (looked for: loops, veiled, ifaces, maps, wideKeys, modest, calm, conditions, laid).
  DERIVED. THE GIVEN ROWS OF THIS SEAT. 14 by the template 'for every input the law returns true; each argument reads behind the call as it read before'; 0 by the template 'total and deterministic' (their statements: YtnogkphkjkbbhaaTotals.lean).
  GIVEN WITH THE SEED: the statements are not yours to turn. If you find one false, say at which input.
  Laid BY PROGRAM, IN A SANDBOX (cutbox-rows.mjs): the forced cells as the released guide's own fill.sh prints them over the translation f3c83d2dff62950d… (all of the seat's roots in one cut). By AI agents, Wed Nov 11 2026. No macro, syntax, notation, axiom, sorry.
-/
import Derived.Test.YtnogkphkjkbbhaaChecked
import GoSem.Claim
import GoSem.ClaimJoined
import GoSem.ClaimMapViews
import Derived.JoinedTies
import Derived.KernelRfl
namespace Go.Proofs.Ytnogkphkjkbbhaa
/- THE CELL 'sum', in the pinned program and in every row, IS THE sha256 OF THE DUMP (.gsa) THAT YtnogkphkjkbbhaaProg.lean LOADS. Nothing in Lean hashes anything: it is a label: what it is worth is what the hold of that sum in a sandbox is worth. -/
noncomputable def Try.pinned : Pinned := { name := "ytnogkphkjkbbhaa", sum := "f3c83d2dff62950da286bc0be65ad2506ab93650809954722e9cbed12ccc72c5", checked := Try.checked }
namespace Rows
def none {H : Type} : Left H := { results := [], args := [] }

/-- 'scrivenerlaw22.AuditParts': WHATEVER THE INPUT: true; the input reads as it did. -/
def auditPartsSpec : ChangeSpec := { name := "auditParts", fn := fun _ => fun
  | [d1, d2] => { results := [.lit (.bool true)], args := [d1, d2] }
  | _ => none }
def auditPartsRow : OpenClaim := { program := "ytnogkphkjkbbhaa", sum := "f3c83d2dff62950da286bc0be65ad2506ab93650809954722e9cbed12ccc72c5", func := "scrivener/scrivenerlaw22.AuditParts", spec := "auditParts", unfollowed := true, recurses := true, plainKeys := false, apart := false }
def AuditPartsSaid : Prop := auditPartsRow.holds Try.pinned (OpenSpec.ofChange auditPartsSpec)

/-- ITS FALSE NEIGHBOUR: 'it returns false'. Refute it at one input. -/
def auditPartsWrong : ChangeSpec := { name := "auditParts", fn := fun _ => fun
  | [d1, d2] => { results := [.lit (.bool false)], args := [d1, d2] }
  | _ => none }
def AuditPartsWrongFalsely : Prop := auditPartsRow.holds Try.pinned (OpenSpec.ofChange auditPartsWrong)

/-- 'scrivenerlaw02.PackWrites': WHATEVER THE INPUT: true; the input reads as it did. -/
def packWritesSpec : ChangeSpec := { name := "packWrites", fn := fun _ => fun
  | [d] => { results := [.lit (.bool true)], args := [d] }
  | _ => none }
def packWritesRow : OpenClaim := { program := "ytnogkphkjkbbhaa", sum := "f3c83d2dff62950da286bc0be65ad2506ab93650809954722e9cbed12ccc72c5", func := "scrivener/scrivenerlaw02.PackWrites", spec := "packWrites", unfollowed := true, recurses := true, plainKeys := false, apart := false }
def PackWritesSaid : Prop := packWritesRow.holds Try.pinned (OpenSpec.ofChange packWritesSpec)

/-- ITS FALSE NEIGHBOUR: 'it returns false'. Refute it at one input. -/
def packWritesWrong : ChangeSpec := { name := "packWrites", fn := fun _ => fun
  | [d] => { results := [.lit (.bool false)], args := [d] }
  | _ => none }
def PackWritesWrongFalsely : Prop := packWritesRow.holds Try.pinned (OpenSpec.ofChange packWritesWrong)

/-- 'scrivenerlaw22.AuditHeads': WHATEVER THE INPUT: true; the input reads as it did. -/
def auditHeadsSpec : ChangeSpec := { name := "auditHeads", fn := fun _ => fun
  | [d1, d2] => { results := [.lit (.bool true)], args := [d1, d2] }
  | _ => none }
def auditHeadsRow : OpenClaim := { program := "ytnogkphkjkbbhaa", sum := "f3c83d2dff62950da286bc0be65ad2506ab93650809954722e9cbed12ccc72c5", func := "scrivener/scrivenerlaw22.AuditHeads", spec := "auditHeads", unfollowed := true, recurses := true, plainKeys := false, apart := false }
def AuditHeadsSaid : Prop := auditHeadsRow.holds Try.pinned (OpenSpec.ofChange auditHeadsSpec)

/-- ITS FALSE NEIGHBOUR: 'it returns false'. Refute it at one input. -/
def auditHeadsWrong : ChangeSpec := { name := "auditHeads", fn := fun _ => fun
  | [d1, d2] => { results := [.lit (.bool false)], args := [d1, d2] }
  | _ => none }
def AuditHeadsWrongFalsely : Prop := auditHeadsRow.holds Try.pinned (OpenSpec.ofChange auditHeadsWrong)

/-- 'scrivenerlaw02.PackReads': WHATEVER THE INPUT: true; the input reads as it did. -/
def packReadsSpec : ChangeSpec := { name := "packReads", fn := fun _ => fun
  | [d] => { results := [.lit (.bool true)], args := [d] }
  | _ => none }
def packReadsRow : OpenClaim := { program := "ytnogkphkjkbbhaa", sum := "f3c83d2dff62950da286bc0be65ad2506ab93650809954722e9cbed12ccc72c5", func := "scrivener/scrivenerlaw02.PackReads", spec := "packReads", unfollowed := true, recurses := true, plainKeys := false, apart := false }
def PackReadsSaid : Prop := packReadsRow.holds Try.pinned (OpenSpec.ofChange packReadsSpec)

/-- ITS FALSE NEIGHBOUR: 'it returns false'. Refute it at one input. -/
def packReadsWrong : ChangeSpec := { name := "packReads", fn := fun _ => fun
  | [d] => { results := [.lit (.bool false)], args := [d] }
  | _ => none }
def PackReadsWrongFalsely : Prop := packReadsRow.holds Try.pinned (OpenSpec.ofChange packReadsWrong)

/-- 'scrivenerlaw02.PackOneWay': WHATEVER THE INPUT: true; the input reads as it did. -/
def packOneWaySpec : ChangeSpec := { name := "packOneWay", fn := fun _ => fun
  | [d1, d2, d3] => { results := [.lit (.bool true)], args := [d1, d2, d3] }
  | _ => none }
def packOneWayRow : OpenClaim := { program := "ytnogkphkjkbbhaa", sum := "f3c83d2dff62950da286bc0be65ad2506ab93650809954722e9cbed12ccc72c5", func := "scrivener/scrivenerlaw02.PackOneWay", spec := "packOneWay", unfollowed := true, recurses := true, plainKeys := false, apart := false }
def PackOneWaySaid : Prop := packOneWayRow.holds Try.pinned (OpenSpec.ofChange packOneWaySpec)

/-- ITS FALSE NEIGHBOUR: 'it returns false'. Refute it at one input. -/
def packOneWayWrong : ChangeSpec := { name := "packOneWay", fn := fun _ => fun
  | [d1, d2, d3] => { results := [.lit (.bool false)], args := [d1, d2, d3] }
  | _ => none }
def PackOneWayWrongFalsely : Prop := packOneWayRow.holds Try.pinned (OpenSpec.ofChange packOneWayWrong)

/-- 'scrivenerlaw02.PackCut': WHATEVER THE INPUT: true; the input reads as it did. -/
def packCutSpec : ChangeSpec := { name := "packCut", fn := fun _ => fun
  | [d1, d2, d3] => { results := [.lit (.bool true)], args := [d1, d2, d3] }
  | _ => none }
def packCutRow : OpenClaim := { program := "ytnogkphkjkbbhaa", sum := "f3c83d2dff62950da286bc0be65ad2506ab93650809954722e9cbed12ccc72c5", func := "scrivener/scrivenerlaw02.PackCut", spec := "packCut", unfollowed := true, recurses := true, plainKeys := false, apart := false }
def PackCutSaid : Prop := packCutRow.holds Try.pinned (OpenSpec.ofChange packCutSpec)

/-- ITS FALSE NEIGHBOUR: 'it returns false'. Refute it at one input. -/
def packCutWrong : ChangeSpec := { name := "packCut", fn := fun _ => fun
  | [d1, d2, d3] => { results := [.lit (.bool false)], args := [d1, d2, d3] }
  | _ => none }
def PackCutWrongFalsely : Prop := packCutRow.holds Try.pinned (OpenSpec.ofChange packCutWrong)

/-- 'scrivenerlaw02.PackLeaves': WHATEVER THE INPUT: true; the input reads as it did. -/
def packLeavesSpec : ChangeSpec := { name := "packLeaves", fn := fun _ => fun
  | [d] => { results := [.lit (.bool true)], args := [d] }
  | _ => none }
def packLeavesRow : OpenClaim := { program := "ytnogkphkjkbbhaa", sum := "f3c83d2dff62950da286bc0be65ad2506ab93650809954722e9cbed12ccc72c5", func := "scrivener/scrivenerlaw02.PackLeaves", spec := "packLeaves", unfollowed := true, recurses := true, plainKeys := false, apart := false }
def PackLeavesSaid : Prop := packLeavesRow.holds Try.pinned (OpenSpec.ofChange packLeavesSpec)

/-- ITS FALSE NEIGHBOUR: 'it returns false'. Refute it at one input. -/
def packLeavesWrong : ChangeSpec := { name := "packLeaves", fn := fun _ => fun
  | [d] => { results := [.lit (.bool false)], args := [d] }
  | _ => none }
def PackLeavesWrongFalsely : Prop := packLeavesRow.holds Try.pinned (OpenSpec.ofChange packLeavesWrong)

/-- 'scrivenerlaw02.PackNums': WHATEVER THE INPUT: true; the input reads as it did. -/
def packNumsSpec : ChangeSpec := { name := "packNums", fn := fun _ => fun
  | [d1, d2] => { results := [.lit (.bool true)], args := [d1, d2] }
  | _ => none }
def packNumsRow : OpenClaim := { program := "ytnogkphkjkbbhaa", sum := "f3c83d2dff62950da286bc0be65ad2506ab93650809954722e9cbed12ccc72c5", func := "scrivener/scrivenerlaw02.PackNums", spec := "packNums", unfollowed := true, recurses := true, plainKeys := false, apart := false }
def PackNumsSaid : Prop := packNumsRow.holds Try.pinned (OpenSpec.ofChange packNumsSpec)

/-- ITS FALSE NEIGHBOUR: 'it returns false'. Refute it at one input. -/
def packNumsWrong : ChangeSpec := { name := "packNums", fn := fun _ => fun
  | [d1, d2] => { results := [.lit (.bool false)], args := [d1, d2] }
  | _ => none }
def PackNumsWrongFalsely : Prop := packNumsRow.holds Try.pinned (OpenSpec.ofChange packNumsWrong)

/-- 'scrivenerlaw02.PackKinds': WHATEVER THE INPUT: true; the input reads as it did. -/
def packKindsSpec : ChangeSpec := { name := "packKinds", fn := fun _ => fun
  | [d] => { results := [.lit (.bool true)], args := [d] }
  | _ => none }
def packKindsRow : OpenClaim := { program := "ytnogkphkjkbbhaa", sum := "f3c83d2dff62950da286bc0be65ad2506ab93650809954722e9cbed12ccc72c5", func := "scrivener/scrivenerlaw02.PackKinds", spec := "packKinds", unfollowed := true, recurses := true, plainKeys := false, apart := false }
def PackKindsSaid : Prop := packKindsRow.holds Try.pinned (OpenSpec.ofChange packKindsSpec)

/-- ITS FALSE NEIGHBOUR: 'it returns false'. Refute it at one input. -/
def packKindsWrong : ChangeSpec := { name := "packKinds", fn := fun _ => fun
  | [d] => { results := [.lit (.bool false)], args := [d] }
  | _ => none }
def PackKindsWrongFalsely : Prop := packKindsRow.holds Try.pinned (OpenSpec.ofChange packKindsWrong)

/-- 'scrivenerlaw22.AuditTwice': WHATEVER THE INPUT: true; the input reads as it did. -/
def auditTwiceSpec : ChangeSpec := { name := "auditTwice", fn := fun _ => fun
  | [d1, d2] => { results := [.lit (.bool true)], args := [d1, d2] }
  | _ => none }
def auditTwiceRow : OpenClaim := { program := "ytnogkphkjkbbhaa", sum := "f3c83d2dff62950da286bc0be65ad2506ab93650809954722e9cbed12ccc72c5", func := "scrivener/scrivenerlaw22.AuditTwice", spec := "auditTwice", unfollowed := true, recurses := true, plainKeys := false, apart := false }
def AuditTwiceSaid : Prop := auditTwiceRow.holds Try.pinned (OpenSpec.ofChange auditTwiceSpec)

/-- ITS FALSE NEIGHBOUR: 'it returns false'. Refute it at one input. -/
def auditTwiceWrong : ChangeSpec := { name := "auditTwice", fn := fun _ => fun
  | [d1, d2] => { results := [.lit (.bool false)], args := [d1, d2] }
  | _ => none }
def AuditTwiceWrongFalsely : Prop := auditTwiceRow.holds Try.pinned (OpenSpec.ofChange auditTwiceWrong)

/-- 'scrivenerlaw21.PostOrder': WHATEVER THE INPUT: true; the input reads as it did. -/
def postOrderSpec : ChangeSpec := { name := "postOrder", fn := fun _ => fun
  | [d1, d2] => { results := [.lit (.bool true)], args := [d1, d2] }
  | _ => none }
def postOrderRow : OpenClaim := { program := "ytnogkphkjkbbhaa", sum := "f3c83d2dff62950da286bc0be65ad2506ab93650809954722e9cbed12ccc72c5", func := "scrivener/scrivenerlaw21.PostOrder", spec := "postOrder", unfollowed := true, recurses := true, plainKeys := false, apart := false }
def PostOrderSaid : Prop := postOrderRow.holds Try.pinned (OpenSpec.ofChange postOrderSpec)

/-- ITS FALSE NEIGHBOUR: 'it returns false'. Refute it at one input. -/
def postOrderWrong : ChangeSpec := { name := "postOrder", fn := fun _ => fun
  | [d1, d2] => { results := [.lit (.bool false)], args := [d1, d2] }
  | _ => none }
def PostOrderWrongFalsely : Prop := postOrderRow.holds Try.pinned (OpenSpec.ofChange postOrderWrong)

/-- 'scrivenerlaw21.PostPlays': WHATEVER THE INPUT: true; the input reads as it did. -/
def postPlaysSpec : ChangeSpec := { name := "postPlays", fn := fun _ => fun
  | [d] => { results := [.lit (.bool true)], args := [d] }
  | _ => none }
def postPlaysRow : OpenClaim := { program := "ytnogkphkjkbbhaa", sum := "f3c83d2dff62950da286bc0be65ad2506ab93650809954722e9cbed12ccc72c5", func := "scrivener/scrivenerlaw21.PostPlays", spec := "postPlays", unfollowed := true, recurses := true, plainKeys := false, apart := false }
def PostPlaysSaid : Prop := postPlaysRow.holds Try.pinned (OpenSpec.ofChange postPlaysSpec)

/-- ITS FALSE NEIGHBOUR: 'it returns false'. Refute it at one input. -/
def postPlaysWrong : ChangeSpec := { name := "postPlays", fn := fun _ => fun
  | [d] => { results := [.lit (.bool false)], args := [d] }
  | _ => none }
def PostPlaysWrongFalsely : Prop := postPlaysRow.holds Try.pinned (OpenSpec.ofChange postPlaysWrong)

/-- 'scrivenerlaw21.PostFull': WHATEVER THE INPUT: true; the input reads as it did. -/
def postFullSpec : ChangeSpec := { name := "postFull", fn := fun _ => fun
  | [d1, d2] => { results := [.lit (.bool true)], args := [d1, d2] }
  | _ => none }
def postFullRow : OpenClaim := { program := "ytnogkphkjkbbhaa", sum := "f3c83d2dff62950da286bc0be65ad2506ab93650809954722e9cbed12ccc72c5", func := "scrivener/scrivenerlaw21.PostFull", spec := "postFull", unfollowed := true, recurses := true, plainKeys := false, apart := false }
def PostFullSaid : Prop := postFullRow.holds Try.pinned (OpenSpec.ofChange postFullSpec)

/-- ITS FALSE NEIGHBOUR: 'it returns false'. Refute it at one input. -/
def postFullWrong : ChangeSpec := { name := "postFull", fn := fun _ => fun
  | [d1, d2] => { results := [.lit (.bool false)], args := [d1, d2] }
  | _ => none }
def PostFullWrongFalsely : Prop := postFullRow.holds Try.pinned (OpenSpec.ofChange postFullWrong)

/-- 'scrivenerlaw12.PoolOwn': WHATEVER THE INPUT: true; the input reads as it did. -/
def poolOwnSpec : ChangeSpec := { name := "poolOwn", fn := fun _ => fun
  | [d1, d2] => { results := [.lit (.bool true)], args := [d1, d2] }
  | _ => none }
def poolOwnRow : OpenClaim := { program := "ytnogkphkjkbbhaa", sum := "f3c83d2dff62950da286bc0be65ad2506ab93650809954722e9cbed12ccc72c5", func := "scrivener/scrivenerlaw12.PoolOwn", spec := "poolOwn", unfollowed := true, recurses := true, plainKeys := false, apart := false }
def PoolOwnSaid : Prop := poolOwnRow.holds Try.pinned (OpenSpec.ofChange poolOwnSpec)

/-- ITS FALSE NEIGHBOUR: 'it returns false'. Refute it at one input. -/
def poolOwnWrong : ChangeSpec := { name := "poolOwn", fn := fun _ => fun
  | [d1, d2] => { results := [.lit (.bool false)], args := [d1, d2] }
  | _ => none }
def PoolOwnWrongFalsely : Prop := poolOwnRow.holds Try.pinned (OpenSpec.ofChange poolOwnWrong)

/- THE SECOND FORM. 'bulk': how many values and letters a reading holds, each counted each time it is reached (what is shared counts as often as it is met; a slice's spare places count too). A statement '..UptoSaid' is the law's where the arguments, and the package variables that the reading takes, are together of bulk at most 1048576: NARROWER than '..Said'. Prove '..Said' where nothing that the law and all that it calls make is longer than what came in: it says more and counts as full. Else prove '..UptoSaid'. A law counts once. -/
mutual
def uptoBulk {H : Type} : DataW H → Nat
  | .lit (.string bytes) => bytes.length + 1
  | .lit _ => 1
  | .nil => 1
  | .ptr d => uptoBulk d + 1
  | .slice elems spare => uptoBulkAll elems + uptoBulkAll spare + 1
  | .agg parts => uptoBulkAll parts + 1
  | .iface _ d => uptoBulk d + 1
  | .map entries => uptoBulkEntries entries + 1
  | .held _ => 1
def uptoBulkAll {H : Type} : List (DataW H) → Nat
  | [] => 0
  | d :: r => uptoBulk d + uptoBulkAll r
def uptoBulkEntries {H : Type} : List (Lit × DataW H) → Nat
  | [] => 0
  | x :: r => uptoBulkEntry x + uptoBulkEntries r
def uptoBulkEntry {H : Type} : Lit × DataW H → Nat
  | (.string bytes, d) => bytes.length + uptoBulk d + 1
  | (_, d) => uptoBulk d + 1
 end
def uptoSmall : (H : Type) → List (DataW H) → Bool := fun _ ds => decide (uptoBulkAll ds ≤ 1048576)
def OpenSpec.upto (s : _root_.Go.ChangeSpec) : _root_.Go.OpenSpec := { _root_.Go.OpenSpec.ofChange s with cond := some uptoSmall }

/-- 'scrivenerlaw22.AuditParts', WHERE WHAT IT READS IS OF BULK AT MOST 1048576: true; the input reads as it did. -/
def auditPartsUptoRow : OpenClaim := { program := "ytnogkphkjkbbhaa", sum := "f3c83d2dff62950da286bc0be65ad2506ab93650809954722e9cbed12ccc72c5", func := "scrivener/scrivenerlaw22.AuditParts", spec := "auditParts", unfollowed := true, recurses := true, plainKeys := false, apart := false, narrowed := true }
def AuditPartsUptoSaid : Prop := auditPartsUptoRow.holds Try.pinned (OpenSpec.upto auditPartsSpec)

/-- 'scrivenerlaw02.PackWrites', WHERE WHAT IT READS IS OF BULK AT MOST 1048576: true; the input reads as it did. -/
def packWritesUptoRow : OpenClaim := { program := "ytnogkphkjkbbhaa", sum := "f3c83d2dff62950da286bc0be65ad2506ab93650809954722e9cbed12ccc72c5", func := "scrivener/scrivenerlaw02.PackWrites", spec := "packWrites", unfollowed := true, recurses := true, plainKeys := false, apart := false, narrowed := true }
def PackWritesUptoSaid : Prop := packWritesUptoRow.holds Try.pinned (OpenSpec.upto packWritesSpec)

/-- 'scrivenerlaw22.AuditHeads', WHERE WHAT IT READS IS OF BULK AT MOST 1048576: true; the input reads as it did. -/
def auditHeadsUptoRow : OpenClaim := { program := "ytnogkphkjkbbhaa", sum := "f3c83d2dff62950da286bc0be65ad2506ab93650809954722e9cbed12ccc72c5", func := "scrivener/scrivenerlaw22.AuditHeads", spec := "auditHeads", unfollowed := true, recurses := true, plainKeys := false, apart := false, narrowed := true }
def AuditHeadsUptoSaid : Prop := auditHeadsUptoRow.holds Try.pinned (OpenSpec.upto auditHeadsSpec)

/-- 'scrivenerlaw02.PackReads', WHERE WHAT IT READS IS OF BULK AT MOST 1048576: true; the input reads as it did. -/
def packReadsUptoRow : OpenClaim := { program := "ytnogkphkjkbbhaa", sum := "f3c83d2dff62950da286bc0be65ad2506ab93650809954722e9cbed12ccc72c5", func := "scrivener/scrivenerlaw02.PackReads", spec := "packReads", unfollowed := true, recurses := true, plainKeys := false, apart := false, narrowed := true }
def PackReadsUptoSaid : Prop := packReadsUptoRow.holds Try.pinned (OpenSpec.upto packReadsSpec)

/-- 'scrivenerlaw02.PackOneWay', WHERE WHAT IT READS IS OF BULK AT MOST 1048576: true; the input reads as it did. -/
def packOneWayUptoRow : OpenClaim := { program := "ytnogkphkjkbbhaa", sum := "f3c83d2dff62950da286bc0be65ad2506ab93650809954722e9cbed12ccc72c5", func := "scrivener/scrivenerlaw02.PackOneWay", spec := "packOneWay", unfollowed := true, recurses := true, plainKeys := false, apart := false, narrowed := true }
def PackOneWayUptoSaid : Prop := packOneWayUptoRow.holds Try.pinned (OpenSpec.upto packOneWaySpec)

/-- 'scrivenerlaw02.PackCut', WHERE WHAT IT READS IS OF BULK AT MOST 1048576: true; the input reads as it did. -/
def packCutUptoRow : OpenClaim := { program := "ytnogkphkjkbbhaa", sum := "f3c83d2dff62950da286bc0be65ad2506ab93650809954722e9cbed12ccc72c5", func := "scrivener/scrivenerlaw02.PackCut", spec := "packCut", unfollowed := true, recurses := true, plainKeys := false, apart := false, narrowed := true }
def PackCutUptoSaid : Prop := packCutUptoRow.holds Try.pinned (OpenSpec.upto packCutSpec)

/-- 'scrivenerlaw02.PackLeaves', WHERE WHAT IT READS IS OF BULK AT MOST 1048576: true; the input reads as it did. -/
def packLeavesUptoRow : OpenClaim := { program := "ytnogkphkjkbbhaa", sum := "f3c83d2dff62950da286bc0be65ad2506ab93650809954722e9cbed12ccc72c5", func := "scrivener/scrivenerlaw02.PackLeaves", spec := "packLeaves", unfollowed := true, recurses := true, plainKeys := false, apart := false, narrowed := true }
def PackLeavesUptoSaid : Prop := packLeavesUptoRow.holds Try.pinned (OpenSpec.upto packLeavesSpec)

/-- 'scrivenerlaw02.PackNums', WHERE WHAT IT READS IS OF BULK AT MOST 1048576: true; the input reads as it did. -/
def packNumsUptoRow : OpenClaim := { program := "ytnogkphkjkbbhaa", sum := "f3c83d2dff62950da286bc0be65ad2506ab93650809954722e9cbed12ccc72c5", func := "scrivener/scrivenerlaw02.PackNums", spec := "packNums", unfollowed := true, recurses := true, plainKeys := false, apart := false, narrowed := true }
def PackNumsUptoSaid : Prop := packNumsUptoRow.holds Try.pinned (OpenSpec.upto packNumsSpec)

/-- 'scrivenerlaw02.PackKinds', WHERE WHAT IT READS IS OF BULK AT MOST 1048576: true; the input reads as it did. -/
def packKindsUptoRow : OpenClaim := { program := "ytnogkphkjkbbhaa", sum := "f3c83d2dff62950da286bc0be65ad2506ab93650809954722e9cbed12ccc72c5", func := "scrivener/scrivenerlaw02.PackKinds", spec := "packKinds", unfollowed := true, recurses := true, plainKeys := false, apart := false, narrowed := true }
def PackKindsUptoSaid : Prop := packKindsUptoRow.holds Try.pinned (OpenSpec.upto packKindsSpec)

/-- 'scrivenerlaw22.AuditTwice', WHERE WHAT IT READS IS OF BULK AT MOST 1048576: true; the input reads as it did. -/
def auditTwiceUptoRow : OpenClaim := { program := "ytnogkphkjkbbhaa", sum := "f3c83d2dff62950da286bc0be65ad2506ab93650809954722e9cbed12ccc72c5", func := "scrivener/scrivenerlaw22.AuditTwice", spec := "auditTwice", unfollowed := true, recurses := true, plainKeys := false, apart := false, narrowed := true }
def AuditTwiceUptoSaid : Prop := auditTwiceUptoRow.holds Try.pinned (OpenSpec.upto auditTwiceSpec)

/-- 'scrivenerlaw21.PostOrder', WHERE WHAT IT READS IS OF BULK AT MOST 1048576: true; the input reads as it did. -/
def postOrderUptoRow : OpenClaim := { program := "ytnogkphkjkbbhaa", sum := "f3c83d2dff62950da286bc0be65ad2506ab93650809954722e9cbed12ccc72c5", func := "scrivener/scrivenerlaw21.PostOrder", spec := "postOrder", unfollowed := true, recurses := true, plainKeys := false, apart := false, narrowed := true }
def PostOrderUptoSaid : Prop := postOrderUptoRow.holds Try.pinned (OpenSpec.upto postOrderSpec)

/-- 'scrivenerlaw21.PostPlays', WHERE WHAT IT READS IS OF BULK AT MOST 1048576: true; the input reads as it did. -/
def postPlaysUptoRow : OpenClaim := { program := "ytnogkphkjkbbhaa", sum := "f3c83d2dff62950da286bc0be65ad2506ab93650809954722e9cbed12ccc72c5", func := "scrivener/scrivenerlaw21.PostPlays", spec := "postPlays", unfollowed := true, recurses := true, plainKeys := false, apart := false, narrowed := true }
def PostPlaysUptoSaid : Prop := postPlaysUptoRow.holds Try.pinned (OpenSpec.upto postPlaysSpec)

/-- 'scrivenerlaw21.PostFull', WHERE WHAT IT READS IS OF BULK AT MOST 1048576: true; the input reads as it did. -/
def postFullUptoRow : OpenClaim := { program := "ytnogkphkjkbbhaa", sum := "f3c83d2dff62950da286bc0be65ad2506ab93650809954722e9cbed12ccc72c5", func := "scrivener/scrivenerlaw21.PostFull", spec := "postFull", unfollowed := true, recurses := true, plainKeys := false, apart := false, narrowed := true }
def PostFullUptoSaid : Prop := postFullUptoRow.holds Try.pinned (OpenSpec.upto postFullSpec)

/-- 'scrivenerlaw12.PoolOwn', WHERE WHAT IT READS IS OF BULK AT MOST 1048576: true; the input reads as it did. -/
def poolOwnUptoRow : OpenClaim := { program := "ytnogkphkjkbbhaa", sum := "f3c83d2dff62950da286bc0be65ad2506ab93650809954722e9cbed12ccc72c5", func := "scrivener/scrivenerlaw12.PoolOwn", spec := "poolOwn", unfollowed := true, recurses := true, plainKeys := false, apart := false, narrowed := true }
def PoolOwnUptoSaid : Prop := poolOwnUptoRow.holds Try.pinned (OpenSpec.upto poolOwnSpec)

end Rows
end Go.Proofs.Ytnogkphkjkbbhaa
