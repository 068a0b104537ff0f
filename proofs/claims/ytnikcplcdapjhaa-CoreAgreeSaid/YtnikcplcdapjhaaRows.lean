/-
  No cell of these rows narrows 'for every input' (looked for: loops, veiled, ifaces, maps, wideKeys, modest, calm, conditions, laid).
  DERIVED. THE GIVEN ROWS OF THIS SEAT. 3 by the template 'for every input the law returns true; each argument reads behind the call as it read before'; 0 by the template 'total and deterministic' (their statements: YtnikcplcdapjhaaTotals.lean).
  GIVEN WITH THE SEED: the statements are not yours to turn. If you find one false, say at which input.
  Laid BY PROGRAM, IN A SANDBOX (cutbox-rows.mjs): the forced cells as the released guide's own fill.sh prints them over the translation 6b88030f0e871086… (all of the seat's roots in one cut). By AI agents, Wed Nov 11 2026. No macro, syntax, notation, axiom, sorry.
-/
import Derived.Test.YtnikcplcdapjhaaChecked
import GoSem.Claim
import GoSem.ClaimJoined
import GoSem.ClaimMapViews
import Derived.JoinedTies
import Derived.KernelRfl
namespace Go.Proofs.Ytnikcplcdapjhaa
/- THE CELL 'sum', in the pinned program and in every row, IS THE sha256 OF THE DUMP (.gsa) THAT YtnikcplcdapjhaaProg.lean LOADS. Nothing in Lean hashes anything: it is a label: what it is worth is what the hold of that sum in a sandbox is worth. -/
noncomputable def Try.pinned : Pinned := { name := "ytnikcplcdapjhaa", sum := "6b88030f0e871086df1aaaa811080f7d156722de2e55cf23d177452c4e6dd0cc", checked := Try.checked }
namespace Rows
def none {H : Type} : Left H := { results := [], args := [] }

/-- 'scrivenerlaw16.CoreIgnores': WHATEVER THE INPUT: true; the input reads as it did. -/
def coreIgnoresSpec : ChangeSpec := { name := "coreIgnores", fn := fun _ => fun
  | [d1, d2] => { results := [.lit (.bool true)], args := [d1, d2] }
  | _ => none }
def coreIgnoresRow : OpenClaim := { program := "ytnikcplcdapjhaa", sum := "6b88030f0e871086df1aaaa811080f7d156722de2e55cf23d177452c4e6dd0cc", func := "scrivener/scrivenerlaw16.CoreIgnores", spec := "coreIgnores", unfollowed := true, recurses := true, plainKeys := false, apart := false }
def CoreIgnoresSaid : Prop := coreIgnoresRow.holds Try.pinned (OpenSpec.ofChange coreIgnoresSpec)

/-- ITS FALSE NEIGHBOUR: 'it returns false'. Refute it at one input. -/
def coreIgnoresWrong : ChangeSpec := { name := "coreIgnores", fn := fun _ => fun
  | [d1, d2] => { results := [.lit (.bool false)], args := [d1, d2] }
  | _ => none }
def CoreIgnoresWrongFalsely : Prop := coreIgnoresRow.holds Try.pinned (OpenSpec.ofChange coreIgnoresWrong)

/-- 'scrivenerlaw16.CoreAgree': WHATEVER THE INPUT: true; the input reads as it did. -/
def coreAgreeSpec : ChangeSpec := { name := "coreAgree", fn := fun _ => fun
  | [d1, d2] => { results := [.lit (.bool true)], args := [d1, d2] }
  | _ => none }
def coreAgreeRow : OpenClaim := { program := "ytnikcplcdapjhaa", sum := "6b88030f0e871086df1aaaa811080f7d156722de2e55cf23d177452c4e6dd0cc", func := "scrivener/scrivenerlaw16.CoreAgree", spec := "coreAgree", unfollowed := true, recurses := true, plainKeys := false, apart := false }
def CoreAgreeSaid : Prop := coreAgreeRow.holds Try.pinned (OpenSpec.ofChange coreAgreeSpec)

/-- ITS FALSE NEIGHBOUR: 'it returns false'. Refute it at one input. -/
def coreAgreeWrong : ChangeSpec := { name := "coreAgree", fn := fun _ => fun
  | [d1, d2] => { results := [.lit (.bool false)], args := [d1, d2] }
  | _ => none }
def CoreAgreeWrongFalsely : Prop := coreAgreeRow.holds Try.pinned (OpenSpec.ofChange coreAgreeWrong)

/-- 'scrivenerlaw16.CoreRecalls': WHATEVER THE INPUT: true; the input reads as it did. -/
def coreRecallsSpec : ChangeSpec := { name := "coreRecalls", fn := fun _ => fun
  | [d1, d2, d3] => { results := [.lit (.bool true)], args := [d1, d2, d3] }
  | _ => none }
def coreRecallsRow : OpenClaim := { program := "ytnikcplcdapjhaa", sum := "6b88030f0e871086df1aaaa811080f7d156722de2e55cf23d177452c4e6dd0cc", func := "scrivener/scrivenerlaw16.CoreRecalls", spec := "coreRecalls", unfollowed := true, recurses := true, plainKeys := false, apart := false }
def CoreRecallsSaid : Prop := coreRecallsRow.holds Try.pinned (OpenSpec.ofChange coreRecallsSpec)

/-- ITS FALSE NEIGHBOUR: 'it returns false'. Refute it at one input. -/
def coreRecallsWrong : ChangeSpec := { name := "coreRecalls", fn := fun _ => fun
  | [d1, d2, d3] => { results := [.lit (.bool false)], args := [d1, d2, d3] }
  | _ => none }
def CoreRecallsWrongFalsely : Prop := coreRecallsRow.holds Try.pinned (OpenSpec.ofChange coreRecallsWrong)

/- THE SECOND FORM. 'bulk': how many values and letters a reading holds, each counted each time it is reached (what is shared counts as often as it is met; a slice's spare places count too). A statement '..UptoSaid' is the law's where the arguments, and the package variables that the reading takes, are together of bulk at most 1048576: NARROWER than '..Said'. Prove '..Said' where nothing that the law and all that it calls make is longer than what came in: it says more and counts as full. Else prove '..UptoSaid'. A law counts once. -/
mutual
def uptoBulk {H : Type} : DataW H → Nat
  | .lit (.string bytes) => bytes.length + 1
  | .lit _ => 1
  | .nil => 1
  | .ptr d => uptoBulk d + 1
  | .slice elems spare => uptoBulkAll elems + uptoBulkAll spare + 1
  | .agg parts => uptoBulkAll parts + 1
  | .iface _ d => uptoBulk d + 1
  | .map entries => uptoBulkEntries entries + 1
  | .held _ => 1
def uptoBulkAll {H : Type} : List (DataW H) → Nat
  | [] => 0
  | d :: r => uptoBulk d + uptoBulkAll r
def uptoBulkEntries {H : Type} : List (Lit × DataW H) → Nat
  | [] => 0
  | x :: r => uptoBulkEntry x + uptoBulkEntries r
def uptoBulkEntry {H : Type} : Lit × DataW H → Nat
  | (.string bytes, d) => bytes.length + uptoBulk d + 1
  | (_, d) => uptoBulk d + 1
 end
def uptoSmall : (H : Type) → List (DataW H) → Bool := fun _ ds => decide (uptoBulkAll ds ≤ 1048576)
def OpenSpec.upto (s : _root_.Go.ChangeSpec) : _root_.Go.OpenSpec := { _root_.Go.OpenSpec.ofChange s with cond := some uptoSmall }

/-- 'scrivenerlaw16.CoreIgnores', WHERE WHAT IT READS IS OF BULK AT MOST 1048576: true; the input reads as it did. -/
def coreIgnoresUptoRow : OpenClaim := { program := "ytnikcplcdapjhaa", sum := "6b88030f0e871086df1aaaa811080f7d156722de2e55cf23d177452c4e6dd0cc", func := "scrivener/scrivenerlaw16.CoreIgnores", spec := "coreIgnores", unfollowed := true, recurses := true, plainKeys := false, apart := false, narrowed := true }
def CoreIgnoresUptoSaid : Prop := coreIgnoresUptoRow.holds Try.pinned (OpenSpec.upto coreIgnoresSpec)

/-- 'scrivenerlaw16.CoreAgree', WHERE WHAT IT READS IS OF BULK AT MOST 1048576: true; the input reads as it did. -/
def coreAgreeUptoRow : OpenClaim := { program := "ytnikcplcdapjhaa", sum := "6b88030f0e871086df1aaaa811080f7d156722de2e55cf23d177452c4e6dd0cc", func := "scrivener/scrivenerlaw16.CoreAgree", spec := "coreAgree", unfollowed := true, recurses := true, plainKeys := false, apart := false, narrowed := true }
def CoreAgreeUptoSaid : Prop := coreAgreeUptoRow.holds Try.pinned (OpenSpec.upto coreAgreeSpec)

/-- 'scrivenerlaw16.CoreRecalls', WHERE WHAT IT READS IS OF BULK AT MOST 1048576: true; the input reads as it did. -/
def coreRecallsUptoRow : OpenClaim := { program := "ytnikcplcdapjhaa", sum := "6b88030f0e871086df1aaaa811080f7d156722de2e55cf23d177452c4e6dd0cc", func := "scrivener/scrivenerlaw16.CoreRecalls", spec := "coreRecalls", unfollowed := true, recurses := true, plainKeys := false, apart := false, narrowed := true }
def CoreRecallsUptoSaid : Prop := coreRecallsUptoRow.holds Try.pinned (OpenSpec.upto coreRecallsSpec)

end Rows
end Go.Proofs.Ytnikcplcdapjhaa
