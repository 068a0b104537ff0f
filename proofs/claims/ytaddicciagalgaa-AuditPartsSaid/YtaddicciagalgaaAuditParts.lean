/- AuditParts: which raw lists part, and where, is the document's answer; who wants no more of them has just so many; the longest one is not shorter than any. For every input. -/
import Derived.Test.YtaddicciagalgaaRows
import Derived.Test.YtaddicciagalgaaAud
import Derived.WalkKit
import Derived.ProofKit
import Derived.OpenShut
namespace Go.Proofs.Ytaddicciagalgaa.auditPartsLaw
open Go Go.Sv Go.ChangeShapes Go.WideShapes Go.ChangeAt Go.RowKit
set_option linter.unusedVariables false

theorem own : ownKnob Try.prog.godebug = none := by kernel_rfl

def shapes : List Sh := [.sl (.sl (.sl (.int .u8) 1) 1) 1, .int .i64]
theorem shapes_eq : Try.f3.params.toList.mapM (sh Try.prog 9) = some shapes := by kernel_rfl

theorem params_len : Try.f3.params.toList.length = 2 := by kernel_rfl

theorem runs (A : AS) (avs : List V) (dats : List Dat) (hst : Go.Sv.Start A) (ha : ArgsOk A shapes dats avs) : ∃ k A', evFn Try.prog Go.Sv.Try.HH k 3 avs A = some (.bool true, A') := by
  unfold shapes at ha
  cases ha with
  | cons h1 ha => cases ha with
    | cons h2 ha => cases ha with
      | nil =>
        obtain ⟨l, ⟨v, hv, r1⟩, r2, r3⟩ := Reads.u8.sl.sl.sl A _ _ h1
        cases hv
        obtain ⟨n, r4, r5, r6⟩ := Reads.int .i64 A _ _ h2
        cases r4
        obtain ⟨w, A', hk, rfl⟩ := Go.Sv.Try.auditParts_spec (WF.start hst) (roHp_on A) r1 (most := n)
        obtain ⟨k, hk⟩ := hk.get
        exact ⟨k, A', hk⟩

set_option maxRecDepth 100000 in
theorem contract (H : Type) (enc : TypeId × Value → H) (W : World) (base : Nat) (args : Array Value) (ds gs : List (DataW H)) (before : List MemPlace)
    (hval : ∀ (j : Nat) t v, Try.f3.params[j]? = some t → args[j]? = some v → Value.okWide Try.prog W .any base t v)
    (hW : DataW.Whole enc Try.prog Try.f3.params.toList Rows.auditPartsSpec.vars false W args.toList ds gs before) :
    Calls Try.prog 3 args W fun e W' => ∃ v, e = .returned v ∧ Rows.auditPartsSpec.post enc Try.prog Try.f3 false true false false W args v W' :=
  law_contract (N := bulkWs ds) Go.Sv.Try.progOk shapes_eq rfl (fun H ds hl => by
    rw [params_len] at hl
    match ds, hl with
    | [d1, d2], _ => exact ⟨rfl, rfl, rfl⟩) rfl Try.underlying4 (fun A avs dats hst ha _ => runs A avs dats hst ha) hval hW (Nat.le_refl _)

set_option maxRecDepth 100000 in
theorem lifted (os : Os) (started : os.Started) (H : Type) (enc : TypeId × Value → H) :
    ReturnsInHanded {} Try.checked os 3 .any (Rows.auditPartsSpec.pre6 enc Try.prog Try.f3 Rows.auditPartsRow.domain false) (Rows.auditPartsSpec.post enc Try.prog Try.f3 false true false false) := by
  refine returnsInHanded_of_change (C := Try.checked) own started (by kernel_rfl) Try.func3
    (ChangeSpec.witness6 (enc := enc) (C := Try.checked) false ⟨#[], #[.slice none 0 0, .int .i64 0], []⟩ 8 (by kernel_rfl) (by kernel_rfl) (by kernel_rfl) (by kernel_rfl)) ?_
  intro W base args ds gs before hval hW _ _
  exact contract H enc W base args ds gs before hval hW

theorem proved : Rows.AuditPartsSaid :=
  OpenClaim.holds_of_wide 3 Try.f3 rfl rfl rfl rfl rfl rfl rfl ⟨rfl, rfl, rfl, rfl, rfl⟩ rfl rfl rfl rfl rfl (by kernel_rfl) Try.func3 (by kernel_rfl)
    (of_decide_eq_true (by kernel_rfl)) (by unfold Func.isWrapper; first | (rw [if_pos (by decide +kernel)]; kernel_rfl) | (rw [if_neg (by decide +kernel)]; exact ⟨rfl, rfl⟩))
    (fun os started H enc _ => lifted os started H enc)
end Go.Proofs.Ytaddicciagalgaa.auditPartsLaw
