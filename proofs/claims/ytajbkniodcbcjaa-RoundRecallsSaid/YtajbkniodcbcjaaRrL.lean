/- RoundRecalls: who recalls all acts of before is locked, and has voted, as then. For every input. -/
import Derived.Test.YtajbkniodcbcjaaRows
import Derived.Test.YtajbkniodcbcjaaRdE
import Derived.Test.YtajbkniodcbcjaaSv3
import Derived.WalkKit
import Derived.ProofKit
import Derived.OpenShut
import Derived.JoinedCond
namespace Go.Proofs.Ytajbkniodcbcjaa.roundRecallsLaw
open Go Go.Sv Go.ChangeShapes Go.WideShapes Go.ChangeAt Go.RowKit
set_option linter.unusedVariables false
def shapes : List Sh := [.arr 3 (.int .i64) 1, .sl Go.Sv.Try.shIn 37, .sl Go.Sv.Try.shIn 37]
theorem shapes_eq : Try.f8.params.toList.mapM (sh Try.prog 9) = some shapes := by kernel_rfl
theorem runs (A : AS) (avs : List V) (dats : List Dat) (hst : Go.Sv.Start A) (ha : ArgsOk A shapes dats avs) : ∃ k A', evFn Try.prog Go.Sv.Try.HH k 8 avs A = some (.bool true, A') := by
  unfold shapes at ha
  cases ha with
  | cons h1 ha => cases ha with
    | cons h2 ha => cases ha with
      | cons h3 ha => cases ha with
        | nil =>
          obtain ⟨vs, rfl, h1⟩ := h1
          obtain ⟨x, ⟨_, _, rfl, rfl, _, _, rfl, rfl, rfl⟩, q, _⟩ := Go.Sv.Try.Reads.a3 A _ _ h1
          obtain ⟨l, ⟨v, hv, r1⟩, r2, b1⟩ := Go.Sv.Try.Reads.inn.sl A _ _ h2
          cases hv
          obtain ⟨l', ⟨v', hv', r1'⟩, r2', b1'⟩ := Go.Sv.Try.Reads.inn.sl A _ _ h3
          cases hv'
          obtain ⟨w, A', hk, rfl⟩ := Go.Sv.Try.roundRecalls_spec (me := x.2.1) (WF.start hst) (roHp_on A) r1 r1' q.1 q.2.2
          obtain ⟨k, hk⟩ := hk.get
          exact ⟨k, A', hk⟩
theorem own : ownKnob Try.prog.godebug = none := by kernel_rfl
theorem params_len : Try.f8.params.toList.length = 3 := by kernel_rfl
set_option maxRecDepth 100000 in
theorem contract (H : Type) (enc : TypeId × Value → H) (W : World) (base : Nat) (args : Array Value) (ds gs : List (DataW H)) (before : List MemPlace)
    (hval : ∀ (j : Nat) t v, Try.f8.params[j]? = some t → args[j]? = some v → Value.okWide Try.prog W .any base t v)
    (hW : DataW.Whole enc Try.prog Try.f8.params.toList Rows.roundRecallsSpec.vars false W args.toList ds gs before) :
    Calls Try.prog 8 args W fun e W' => ∃ v, e = .returned v ∧ Rows.roundRecallsSpec.post enc Try.prog Try.f8 false true false false W args v W' :=
  law_contract (N := bulkWs ds) Go.Sv.Try.progOk shapes_eq rfl (fun H ds hl => by
    rw [params_len] at hl
    match ds, hl with
    | [d0, d1, d2], _ => exact ⟨rfl, rfl, rfl⟩) rfl Try.underlying4 (fun A avs dats hst ha hbb => runs A avs dats hst ha) hval hW (Nat.le_refl _)
set_option maxRecDepth 100000 in
theorem lifted (os : Os) (started : os.Started) (H : Type) (enc : TypeId × Value → H) :
    ReturnsInHanded {} Try.checked os 8 .any (Rows.roundRecallsSpec.pre6 enc Try.prog Try.f8 Rows.roundRecallsRow.domain false) (Rows.roundRecallsSpec.post enc Try.prog Try.f8 false true false false) := by
  refine returnsInHanded_of_change (C := Try.checked) own started (by kernel_rfl) Try.func8
    (ChangeSpec.witness6 (enc := enc) (C := Try.checked) false ⟨#[], #[.agg #[.int .i64 0, .int .i64 0, .int .i64 0], .slice none 0 0, .slice none 0 0], []⟩ 8 (by kernel_rfl) (by kernel_rfl) (by kernel_rfl) (by kernel_rfl)) ?_
  intro W base args ds gs before hval hW _ _
  exact contract H enc W base args ds gs before hval hW
theorem proved : Rows.RoundRecallsSaid :=
  OpenClaim.holds_of_wide 8 Try.f8 rfl rfl rfl rfl rfl rfl rfl ⟨rfl, rfl, rfl, rfl, rfl⟩ rfl rfl rfl rfl rfl (by kernel_rfl) Try.func8 (by kernel_rfl)
    (of_decide_eq_true (by kernel_rfl)) (by unfold Func.isWrapper; first | (rw [if_pos (by decide +kernel)]; kernel_rfl) | (rw [if_neg (by decide +kernel)]; exact ⟨rfl, rfl⟩))
    (fun os started H enc _ => lifted os started H enc)
end Go.Proofs.Ytajbkniodcbcjaa.roundRecallsLaw
