/- PackReads: raw bytes are read as a message, or refused, as the document says. Where what it reads is of bulk at most 1048576. -/
import Derived.Test.YtnogkphkjkbbhaaRows
import Derived.Test.YtnogkphkjkbbhaaRef
import Derived.Test.YtnogkphkjkbbhaaGlueU
import Derived.WalkKit
import Derived.ProofKit
import Derived.OpenShut
import Derived.JoinedCond
namespace Go.Proofs.Ytnogkphkjkbbhaa.packReadsLaw
open Go Go.Sv Go.ChangeShapes Go.WideShapes Go.ChangeAt Go.RowKit
set_option linter.unusedVariables false

def shapes : List Sh := [.sl (.int .u8) 1]
theorem shapes_eq : Try.f6.params.toList.mapM (sh Try.prog 9) = some shapes := by kernel_rfl
theorem runs (A : AS) (avs : List V) (dats : List Dat) (hst : Go.Sv.Start A) (ha : ArgsOk A shapes dats avs) (hb : bulks dats ≤ 1048576) : ∃ k A', evFn Try.prog Go.Sv.Try.HH k 6 avs A = some (.bool true, A') := by
  unfold shapes at ha
  cases ha with
  | cons h1 ha => cases ha with
    | nil =>
      obtain ⟨b, ⟨v, hv, r1⟩, _, r3⟩ := Reads.u8.sl A _ _ h1
      cases hv
      have h3 := length_le_sumOf (μ := fun _ : UInt8 => 1) (fun _ => Nat.le_refl _) b
      have r3 : sumOf (fun _ => 1) b + 1 ≤ _ := r3
      simp only [bulks] at hb
      obtain ⟨w, A', hk, rfl⟩ := Go.Sv.Try.packReads_spec (WF.start hst) (roHp_on A) (Go.Sv.Try.ro_var hst) r1 (by omega)
      obtain ⟨k, hk⟩ := hk.get
      exact ⟨k, A', hk⟩
theorem own : ownKnob Try.prog.godebug = none := by kernel_rfl
theorem params_len : Try.f6.params.toList.length = 1 := by kernel_rfl
set_option maxRecDepth 100000 in
theorem contract (H : Type) (enc : TypeId × Value → H) (W : World) (base : Nat) (args : Array Value) (ds gs : List (DataW H)) (before : List MemPlace)
    (hval : ∀ (j : Nat) t v, Try.f6.params[j]? = some t → args[j]? = some v → Value.okWide Try.prog W .any base t v)
    (hW : DataW.Whole enc Try.prog Try.f6.params.toList Rows.packReadsSpec.vars false W args.toList ds gs before) (hk : Rows.uptoSmall H (ds ++ gs) = true) :
    Calls Try.prog 6 args W fun e W' => ∃ v, e = .returned v ∧ Rows.packReadsSpec.post enc Try.prog Try.f6 false true false false W args v W' :=
  law_contract (N := 1048576) Go.Sv.Try.progOk shapes_eq rfl (fun H ds hl => by
    rw [params_len] at hl
    match ds, hl with
    | [d0], _ => exact ⟨rfl, rfl, rfl⟩) rfl Try.underlying4 (fun A avs dats hst ha hbb => runs A avs dats hst ha hbb) hval hW (Go.Sv.Try.bulk_small hk)

set_option maxRecDepth 100000 in
theorem lifted (os : Os) (started : os.Started) (H : Type) (enc : TypeId × Value → H) (F : Stop.Interp) :
    ReturnsInHanded {} Try.checked os 6 .any ((Rows.OpenSpec.upto Rows.packReadsSpec).pre6 enc Try.prog Try.f6 Rows.packReadsUptoRow.domain false) (((Rows.OpenSpec.upto Rows.packReadsSpec).at F).post enc Try.prog Try.f6 false true false false) := by
  refine returnsInHanded_of_cond (C := Try.checked) (s := Rows.OpenSpec.upto Rows.packReadsSpec) (k := Rows.uptoSmall) rfl own started (by kernel_rfl) Try.func6
    (OpenSpec.witness (enc := enc) (C := Try.checked) (s := Rows.OpenSpec.upto Rows.packReadsSpec) (k := Rows.uptoSmall) rfl false ⟨#[], #[.slice none 0 0 ], []⟩ 8 (by kernel_rfl) (by kernel_rfl) (by kernel_rfl)
      (x := ([ .nil], [], [])) (by kernel_rfl) rfl (by kernel_rfl)) ?_
  intro W base args ds gs before hval hW _ hk _
  exact contract H enc W base args ds gs before hval hW hk

theorem proved : Rows.PackReadsUptoSaid :=
  OpenClaim.holds_of_cond 6 Try.f6 rfl rfl rfl rfl rfl rfl rfl ⟨rfl, rfl, rfl, rfl, rfl⟩ rfl rfl rfl rfl rfl (by kernel_rfl) Try.func6 (by kernel_rfl)
    (of_decide_eq_true (by kernel_rfl)) (by unfold Func.isWrapper; first | (rw [if_pos (by decide +kernel)]; kernel_rfl) | (rw [if_neg (by decide +kernel)]; exact ⟨rfl, rfl⟩))
    (fun os started H enc _ F => lifted os started H enc F)

end Go.Proofs.Ytnogkphkjkbbhaa.packReadsLaw
