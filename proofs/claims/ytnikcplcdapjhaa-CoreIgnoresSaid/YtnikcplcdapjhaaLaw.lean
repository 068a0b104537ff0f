/- CoreIgnores: messages of another height, from oneself, from nobody, or of no kind of agreement, do nothing. For every input. -/
import Derived.Test.YtnikcplcdapjhaaRows
import Derived.Test.YtnikcplcdapjhaaGd
import Derived.Test.YtnikcplcdapjhaaSv3
import Derived.WalkKit
import Derived.ProofKit
import Derived.OpenShut
import Derived.JoinedCond
set_option linter.unusedVariables false
namespace Go.Proofs.Ytnikcplcdapjhaa.coreIgnoresLaw
open Go Go.Sv Go.ChangeShapes Go.WideShapes Go.ChangeAt Go.RowKit
def shapes : List Sh := [Go.Sv.Try.shM, .int .i64]
theorem A61 : Try.f3.params.toList.mapM (sh Try.prog 9) = some shapes := by kernel_rfl
theorem runs (A : AS) (avs : List V) (dats : List Dat) (hst : Go.Sv.Start A) (ha : ArgsOk A shapes dats avs) : ∃ k A', evFn Try.prog Go.Sv.Try.HH k 3 avs A = some (.bool true, A') := by
 unfold shapes at ha
 cases ha with
 | cons h1 ha => cases ha with
  | cons h2 ha => cases ha with
   | nil =>
    obtain ⟨vs, rfl, h1⟩ := h1
    obtain ⟨x, ⟨dv, iv, lv, rfl, r1⟩, ⟨r2, _⟩, _⟩ := Go.Sv.Try.Reads.msg A _ _ h1
    obtain ⟨n, r4, r5, r6⟩ := Reads.int .i64 A _ _ h2
    cases r4
    obtain ⟨w, A', hk, rfl⟩ := Go.Sv.Try.coreIgnores_spec (WF.start hst) r1
    obtain ⟨k, hk⟩ := hk.get
    exact ⟨k, A', hk⟩
theorem own : ownKnob Try.prog.godebug = none := by kernel_rfl
theorem A08 : Try.f3.params.toList.length = 2 := by kernel_rfl
set_option maxRecDepth 100000 in
theorem contract (H : Type) (enc : TypeId × Value -> H) (W : World) (base : Nat) (args : Array Value) (ds gs : List (DataW H)) (before : List MemPlace)
 (hval : ∀ (j : Nat) t v, Try.f3.params[j]? = some t -> args[j]? = some v -> Value.okWide Try.prog W .any base t v)
 (hW : DataW.Whole enc Try.prog Try.f3.params.toList Rows.coreIgnoresSpec.vars false W args.toList ds gs before) :
 Calls Try.prog 3 args W fun e W' => ∃ v, e = .returned v /\ Rows.coreIgnoresSpec.post enc Try.prog Try.f3 false true false false W args v W' :=
 AO4 (N := bulkWs ds) Go.Sv.Try.progOk A61 rfl (fun H ds hl => by
  rw [A08] at hl
  match ds, hl with
  | [d0, d1], _ => exact ⟨rfl, rfl, rfl⟩) rfl Try.underlying4 (fun A avs dats hst ha hbb => runs A avs dats hst ha) hval hW (Nat.le_refl _)
set_option maxRecDepth 100000 in
theorem lifted (os : Os) (started : os.Started) (H : Type) (enc : TypeId × Value -> H) :
 ReturnsInHanded {} Try.checked os 3 .any (Rows.coreIgnoresSpec.pre6 enc Try.prog Try.f3 Rows.coreIgnoresRow.domain false) (Rows.coreIgnoresSpec.post enc Try.prog Try.f3 false true false false) := by
 refine returnsInHanded_of_change (C := Try.checked) own started (by kernel_rfl) Try.func3
  (ChangeSpec.witness6 (enc := enc) (C := Try.checked) false ⟨#[], #[.agg (List.replicate 6 (Value.int .i64 0) ++ List.replicate 32 (Value.int .u8 0) ++ [Value.slice none 0 0, Value.slice none 0 0, Value.slice none 0 0]).toArray, .int .i64 0], []⟩ 8 (by kernel_rfl) (by kernel_rfl) (by kernel_rfl) (by kernel_rfl)) ?_
 intro W base args ds gs before hval hW _ _
 exact contract H enc W base args ds gs before hval hW
theorem proved : Rows.CoreIgnoresSaid :=
 OpenClaim.holds_of_wide 3 Try.f3 rfl rfl rfl rfl rfl rfl rfl ⟨rfl, rfl, rfl, rfl, rfl⟩ rfl rfl rfl rfl rfl (by kernel_rfl) Try.func3 (by kernel_rfl)
  (of_decide_eq_true (by kernel_rfl)) (by unfold Func.isWrapper; first | (rw [if_pos (by decide +kernel)]; kernel_rfl) | (rw [if_neg (by decide +kernel)]; exact ⟨rfl, rfl⟩))
  (fun os started H enc _ => lifted os started H enc)
end Go.Proofs.Ytnikcplcdapjhaa.coreIgnoresLaw
