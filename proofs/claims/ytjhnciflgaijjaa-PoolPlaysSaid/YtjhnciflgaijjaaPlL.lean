/- PoolPlays: a pool in which raw entries are put, and of which a book has some, has just the entries of the document's, in their order, and its batch. For every input. -/
import Derived.Test.YtjhnciflgaijjaaRows
import Derived.Test.YtjhnciflgaijjaaPlC
import Derived.Test.YtjhnciflgaijjaaSv3
import Derived.WalkKit
import Derived.ProofKit
import Derived.OpenShut
import Derived.JoinedCond
set_option linter.unusedVariables false
namespace Go.Proofs.Ytjhnciflgaijjaa.poolPlaysLaw
open Go Go.Sv Go.ChangeShapes Go.WideShapes Go.ChangeAt Go.RowKit
def shapes : List Sh := [.sl Go.Sv.Try.shOq 2, .int .i64]
theorem Bf8 : Try.f13.params.toList.mapM (sh Try.prog 9) = some shapes := by kernel_rfl
theorem runs (A : AS) (avs : List V) (dats : List Dat) (hst : Go.Sv.Start A) (ha : ArgsOk A shapes dats avs) : ∃ k A', evFn Try.prog Go.Sv.Try.HH k 13 avs A = some (.bool true, A') := by
 unfold shapes at ha
 cases ha with
 | cons h1 ha => cases ha with
  | cons h2 ha => cases ha with
   | nil =>
    obtain ⟨ls, ⟨v, hv, r1⟩, _, _⟩ := Go.Sv.Try.Reads.oq.sl A _ _ h1
    cases hv
    obtain ⟨n, hn, _, _⟩ := Reads.int .i64 A _ _ h2
    cases hn
    obtain ⟨w, A', hk, rfl⟩ := Go.Sv.Try.poolPlays_spec (most := n) (WF.start hst) (BA3 A) r1
    obtain ⟨k, hk⟩ := hk.get
    exact ⟨k, A', hk⟩
theorem own : ownKnob Try.prog.godebug = none := by kernel_rfl
theorem A99 : Try.f13.params.toList.length = 2 := by kernel_rfl
set_option maxRecDepth 100000 in
theorem contract (H : Type) (enc : TypeId × Value -> H) (W : World) (base : Nat) (args : Array Value) (ds gs : List (DataW H)) (before : List MemPlace)
 (hval : ∀ (j : Nat) t v, Try.f13.params[j]? = some t -> args[j]? = some v -> Value.okWide Try.prog W .any base t v)
 (hW : DataW.Whole enc Try.prog Try.f13.params.toList Rows.poolPlaysSpec.vars false W args.toList ds gs before) :
 Calls Try.prog 13 args W fun e W' => ∃ v, e = .returned v /\ Rows.poolPlaysSpec.post enc Try.prog Try.f13 false true false false W args v W' :=
 AW7 (N := bulkWs ds) Go.Sv.Try.progOk Bf8 rfl (fun H ds hl => by
  rw [A99] at hl
  match ds, hl with
  | [d0, d1], _ => exact ⟨rfl, rfl, rfl⟩) rfl Try.underlying4 (fun A avs dats hst ha hbb => runs A avs dats hst ha) hval hW (Nat.le_refl _)
set_option maxRecDepth 100000 in
theorem lifted (os : Os) (started : os.Started) (H : Type) (enc : TypeId × Value -> H) :
 ReturnsInHanded {} Try.checked os 13 .any (Rows.poolPlaysSpec.pre6 enc Try.prog Try.f13 Rows.poolPlaysRow.domain false) (Rows.poolPlaysSpec.post enc Try.prog Try.f13 false true false false) := by
 refine returnsInHanded_of_change (C := Try.checked) own started (by kernel_rfl) Try.func13
  (ChangeSpec.witness6 (enc := enc) (C := Try.checked) false ⟨#[], #[.slice none 0 0, .int .i64 0], []⟩ 8 (by kernel_rfl) (by kernel_rfl) (by kernel_rfl) (by kernel_rfl)) ?_
 intro W base args ds gs before hval hW _ _
 exact contract H enc W base args ds gs before hval hW
theorem proved : Rows.PoolPlaysSaid :=
 OpenClaim.holds_of_wide 13 Try.f13 rfl rfl rfl rfl rfl rfl rfl ⟨rfl, rfl, rfl, rfl, rfl⟩ rfl rfl rfl rfl rfl (by kernel_rfl) Try.func13 (by kernel_rfl)
  (of_decide_eq_true (by kernel_rfl)) (by unfold Func.isWrapper; first | (rw [if_pos (by decide +kernel)]; kernel_rfl) | (rw [if_neg (by decide +kernel)]; exact ⟨rfl, rfl⟩))
  (fun os started H enc _ => lifted os started H enc)
end Go.Proofs.Ytjhnciflgaijjaa.poolPlaysLaw
