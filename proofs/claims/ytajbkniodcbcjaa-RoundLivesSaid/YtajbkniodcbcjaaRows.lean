/-
  No cell of these rows narrows 'for every input' (looked for: loops, veiled, ifaces, maps, wideKeys, modest, calm, conditions, laid).
  DERIVED. THE GIVEN ROWS OF THIS SEAT. 6 by the template 'for every input the law returns true; each argument reads behind the call as it read before'; 0 by the template 'total and deterministic' (their statements: YtajbkniodcbcjaaTotals.lean).
  GIVEN WITH THE SEED: the statements are not yours to turn. If you find one false, say at which input.
  Laid BY PROGRAM, IN A SANDBOX (cutbox-rows.mjs): the forced cells as the released guide's own fill.sh prints them over the translation a4f157a058f79522… (all of the seat's roots in one cut). By AI agents, Wed Nov 11 2026. No macro, syntax, notation, axiom, sorry.
-/
import Derived.Test.YtajbkniodcbcjaaChecked
import GoSem.Claim
import GoSem.ClaimJoined
import GoSem.ClaimMapViews
import Derived.JoinedTies
import Derived.KernelRfl
namespace Go.Proofs.Ytajbkniodcbcjaa
/- THE CELL 'sum', in the pinned program and in every row, IS THE sha256 OF THE DUMP (.gsa) THAT YtajbkniodcbcjaaProg.lean LOADS. Nothing in Lean hashes anything: it is a label: what it is worth is what the hold of that sum in a sandbox is worth. -/
noncomputable def Try.pinned : Pinned := { name := "ytajbkniodcbcjaa", sum := "a4f157a058f7952218738a995bd956d69112cca944195e0a8521df6799c27855", checked := Try.checked }
namespace Rows
def none {H : Type} : Left H := { results := [], args := [] }

/-- 'scrivenerlaw14.RoundLives': WHATEVER THE INPUT: true; the input reads as it did. -/
def roundLivesSpec : ChangeSpec := { name := "roundLives", fn := fun _ => fun
  | [d1, d2] => { results := [.lit (.bool true)], args := [d1, d2] }
  | _ => none }
def roundLivesRow : OpenClaim := { program := "ytajbkniodcbcjaa", sum := "a4f157a058f7952218738a995bd956d69112cca944195e0a8521df6799c27855", func := "scrivener/scrivenerlaw14.RoundLives", spec := "roundLives", unfollowed := true, recurses := true, plainKeys := false, apart := false }
def RoundLivesSaid : Prop := roundLivesRow.holds Try.pinned (OpenSpec.ofChange roundLivesSpec)

/-- ITS FALSE NEIGHBOUR: 'it returns false'. Refute it at one input. -/
def roundLivesWrong : ChangeSpec := { name := "roundLives", fn := fun _ => fun
  | [d1, d2] => { results := [.lit (.bool false)], args := [d1, d2] }
  | _ => none }
def RoundLivesWrongFalsely : Prop := roundLivesRow.holds Try.pinned (OpenSpec.ofChange roundLivesWrong)

/-- 'scrivenerlaw14.RoundAgree': WHATEVER THE INPUT: true; the input reads as it did. -/
def roundAgreeSpec : ChangeSpec := { name := "roundAgree", fn := fun _ => fun
  | [d1, d2] => { results := [.lit (.bool true)], args := [d1, d2] }
  | _ => none }
def roundAgreeRow : OpenClaim := { program := "ytajbkniodcbcjaa", sum := "a4f157a058f7952218738a995bd956d69112cca944195e0a8521df6799c27855", func := "scrivener/scrivenerlaw14.RoundAgree", spec := "roundAgree", unfollowed := true, recurses := true, plainKeys := false, apart := false }
def RoundAgreeSaid : Prop := roundAgreeRow.holds Try.pinned (OpenSpec.ofChange roundAgreeSpec)

/-- ITS FALSE NEIGHBOUR: 'it returns false'. Refute it at one input. -/
def roundAgreeWrong : ChangeSpec := { name := "roundAgree", fn := fun _ => fun
  | [d1, d2] => { results := [.lit (.bool false)], args := [d1, d2] }
  | _ => none }
def RoundAgreeWrongFalsely : Prop := roundAgreeRow.holds Try.pinned (OpenSpec.ofChange roundAgreeWrong)

/-- 'scrivenerlaw14.RoundOnce': WHATEVER THE INPUT: true; the input reads as it did. -/
def roundOnceSpec : ChangeSpec := { name := "roundOnce", fn := fun _ => fun
  | [d1, d2] => { results := [.lit (.bool true)], args := [d1, d2] }
  | _ => none }
def roundOnceRow : OpenClaim := { program := "ytajbkniodcbcjaa", sum := "a4f157a058f7952218738a995bd956d69112cca944195e0a8521df6799c27855", func := "scrivener/scrivenerlaw14.RoundOnce", spec := "roundOnce", unfollowed := true, recurses := true, plainKeys := false, apart := false }
def RoundOnceSaid : Prop := roundOnceRow.holds Try.pinned (OpenSpec.ofChange roundOnceSpec)

/-- ITS FALSE NEIGHBOUR: 'it returns false'. Refute it at one input. -/
def roundOnceWrong : ChangeSpec := { name := "roundOnce", fn := fun _ => fun
  | [d1, d2] => { results := [.lit (.bool false)], args := [d1, d2] }
  | _ => none }
def RoundOnceWrongFalsely : Prop := roundOnceRow.holds Try.pinned (OpenSpec.ofChange roundOnceWrong)

/-- 'scrivenerlaw14.RoundLocks': WHATEVER THE INPUT: true; the input reads as it did. -/
def roundLocksSpec : ChangeSpec := { name := "roundLocks", fn := fun _ => fun
  | [d1, d2] => { results := [.lit (.bool true)], args := [d1, d2] }
  | _ => none }
def roundLocksRow : OpenClaim := { program := "ytajbkniodcbcjaa", sum := "a4f157a058f7952218738a995bd956d69112cca944195e0a8521df6799c27855", func := "scrivener/scrivenerlaw14.RoundLocks", spec := "roundLocks", unfollowed := true, recurses := true, plainKeys := false, apart := false }
def RoundLocksSaid : Prop := roundLocksRow.holds Try.pinned (OpenSpec.ofChange roundLocksSpec)

/-- ITS FALSE NEIGHBOUR: 'it returns false'. Refute it at one input. -/
def roundLocksWrong : ChangeSpec := { name := "roundLocks", fn := fun _ => fun
  | [d1, d2] => { results := [.lit (.bool false)], args := [d1, d2] }
  | _ => none }
def RoundLocksWrongFalsely : Prop := roundLocksRow.holds Try.pinned (OpenSpec.ofChange roundLocksWrong)

/-- 'scrivenerlaw14.RoundQuiet': WHATEVER THE INPUT: true; the input reads as it did. -/
def roundQuietSpec : ChangeSpec := { name := "roundQuiet", fn := fun _ => fun
  | [d1, d2] => { results := [.lit (.bool true)], args := [d1, d2] }
  | _ => none }
def roundQuietRow : OpenClaim := { program := "ytajbkniodcbcjaa", sum := "a4f157a058f7952218738a995bd956d69112cca944195e0a8521df6799c27855", func := "scrivener/scrivenerlaw14.RoundQuiet", spec := "roundQuiet", unfollowed := true, recurses := true, plainKeys := false, apart := false }
def RoundQuietSaid : Prop := roundQuietRow.holds Try.pinned (OpenSpec.ofChange roundQuietSpec)

/-- ITS FALSE NEIGHBOUR: 'it returns false'. Refute it at one input. -/
def roundQuietWrong : ChangeSpec := { name := "roundQuiet", fn := fun _ => fun
  | [d1, d2] => { results := [.lit (.bool false)], args := [d1, d2] }
  | _ => none }
def RoundQuietWrongFalsely : Prop := roundQuietRow.holds Try.pinned (OpenSpec.ofChange roundQuietWrong)

/-- 'scrivenerlaw14.RoundRecalls': WHATEVER THE INPUT: true; the input reads as it did. -/
def roundRecallsSpec : ChangeSpec := { name := "roundRecalls", fn := fun _ => fun
  | [d1, d2, d3] => { results := [.lit (.bool true)], args := [d1, d2, d3] }
  | _ => none }
def roundRecallsRow : OpenClaim := { program := "ytajbkniodcbcjaa", sum := "a4f157a058f7952218738a995bd956d69112cca944195e0a8521df6799c27855", func := "scrivener/scrivenerlaw14.RoundRecalls", spec := "roundRecalls", unfollowed := true, recurses := true, plainKeys := false, apart := false }
def RoundRecallsSaid : Prop := roundRecallsRow.holds Try.pinned (OpenSpec.ofChange roundRecallsSpec)

/-- ITS FALSE NEIGHBOUR: 'it returns false'. Refute it at one input. -/
def roundRecallsWrong : ChangeSpec := { name := "roundRecalls", fn := fun _ => fun
  | [d1, d2, d3] => { results := [.lit (.bool false)], args := [d1, d2, d3] }
  | _ => none }
def RoundRecallsWrongFalsely : Prop := roundRecallsRow.holds Try.pinned (OpenSpec.ofChange roundRecallsWrong)

/- THE SECOND FORM. 'bulk': how many values and letters a reading holds, each counted each time it is reached (what is shared counts as often as it is met; a slice's spare places count too). A statement '..UptoSaid' is the law's where the arguments, and the package variables that the reading takes, are together of bulk at most 1048576: NARROWER than '..Said'. Prove '..Said' where nothing that the law and all that it calls make is longer than what came in: it says more and counts as full. Else prove '..UptoSaid'. A law counts once. -/
mutual
def uptoBulk {H : Type} : DataW H → Nat
  | .lit (.string bytes) => bytes.length + 1
  | .lit _ => 1
  | .nil => 1
  | .ptr d => uptoBulk d + 1
  | .slice elems spare => uptoBulkAll elems + uptoBulkAll spare + 1
  | .agg parts => uptoBulkAll parts + 1
  | .iface _ d => uptoBulk d + 1
  | .map entries => uptoBulkEntries entries + 1
  | .held _ => 1
def uptoBulkAll {H : Type} : List (DataW H) → Nat
  | [] => 0
  | d :: r => uptoBulk d + uptoBulkAll r
def uptoBulkEntries {H : Type} : List (Lit × DataW H) → Nat
  | [] => 0
  | x :: r => uptoBulkEntry x + uptoBulkEntries r
def uptoBulkEntry {H : Type} : Lit × DataW H → Nat
  | (.string bytes, d) => bytes.length + uptoBulk d + 1
  | (_, d) => uptoBulk d + 1
 end
def uptoSmall : (H : Type) → List (DataW H) → Bool := fun _ ds => decide (uptoBulkAll ds ≤ 1048576)
def OpenSpec.upto (s : _root_.Go.ChangeSpec) : _root_.Go.OpenSpec := { _root_.Go.OpenSpec.ofChange s with cond := some uptoSmall }

/-- 'scrivenerlaw14.RoundLives', WHERE WHAT IT READS IS OF BULK AT MOST 1048576: true; the input reads as it did. -/
def roundLivesUptoRow : OpenClaim := { program := "ytajbkniodcbcjaa", sum := "a4f157a058f7952218738a995bd956d69112cca944195e0a8521df6799c27855", func := "scrivener/scrivenerlaw14.RoundLives", spec := "roundLives", unfollowed := true, recurses := true, plainKeys := false, apart := false, narrowed := true }
def RoundLivesUptoSaid : Prop := roundLivesUptoRow.holds Try.pinned (OpenSpec.upto roundLivesSpec)

/-- 'scrivenerlaw14.RoundAgree', WHERE WHAT IT READS IS OF BULK AT MOST 1048576: true; the input reads as it did. -/
def roundAgreeUptoRow : OpenClaim := { program := "ytajbkniodcbcjaa", sum := "a4f157a058f7952218738a995bd956d69112cca944195e0a8521df6799c27855", func := "scrivener/scrivenerlaw14.RoundAgree", spec := "roundAgree", unfollowed := true, recurses := true, plainKeys := false, apart := false, narrowed := true }
def RoundAgreeUptoSaid : Prop := roundAgreeUptoRow.holds Try.pinned (OpenSpec.upto roundAgreeSpec)

/-- 'scrivenerlaw14.RoundOnce', WHERE WHAT IT READS IS OF BULK AT MOST 1048576: true; the input reads as it did. -/
def roundOnceUptoRow : OpenClaim := { program := "ytajbkniodcbcjaa", sum := "a4f157a058f7952218738a995bd956d69112cca944195e0a8521df6799c27855", func := "scrivener/scrivenerlaw14.RoundOnce", spec := "roundOnce", unfollowed := true, recurses := true, plainKeys := false, apart := false, narrowed := true }
def RoundOnceUptoSaid : Prop := roundOnceUptoRow.holds Try.pinned (OpenSpec.upto roundOnceSpec)

/-- 'scrivenerlaw14.RoundLocks', WHERE WHAT IT READS IS OF BULK AT MOST 1048576: true; the input reads as it did. -/
def roundLocksUptoRow : OpenClaim := { program := "ytajbkniodcbcjaa", sum := "a4f157a058f7952218738a995bd956d69112cca944195e0a8521df6799c27855", func := "scrivener/scrivenerlaw14.RoundLocks", spec := "roundLocks", unfollowed := true, recurses := true, plainKeys := false, apart := false, narrowed := true }
def RoundLocksUptoSaid : Prop := roundLocksUptoRow.holds Try.pinned (OpenSpec.upto roundLocksSpec)

/-- 'scrivenerlaw14.RoundQuiet', WHERE WHAT IT READS IS OF BULK AT MOST 1048576: true; the input reads as it did. -/
def roundQuietUptoRow : OpenClaim := { program := "ytajbkniodcbcjaa", sum := "a4f157a058f7952218738a995bd956d69112cca944195e0a8521df6799c27855", func := "scrivener/scrivenerlaw14.RoundQuiet", spec := "roundQuiet", unfollowed := true, recurses := true, plainKeys := false, apart := false, narrowed := true }
def RoundQuietUptoSaid : Prop := roundQuietUptoRow.holds Try.pinned (OpenSpec.upto roundQuietSpec)

/-- 'scrivenerlaw14.RoundRecalls', WHERE WHAT IT READS IS OF BULK AT MOST 1048576: true; the input reads as it did. -/
def roundRecallsUptoRow : OpenClaim := { program := "ytajbkniodcbcjaa", sum := "a4f157a058f7952218738a995bd956d69112cca944195e0a8521df6799c27855", func := "scrivener/scrivenerlaw14.RoundRecalls", spec := "roundRecalls", unfollowed := true, recurses := true, plainKeys := false, apart := false, narrowed := true }
def RoundRecallsUptoSaid : Prop := roundRecallsUptoRow.holds Try.pinned (OpenSpec.upto roundRecallsSpec)

end Rows
end Go.Proofs.Ytajbkniodcbcjaa
