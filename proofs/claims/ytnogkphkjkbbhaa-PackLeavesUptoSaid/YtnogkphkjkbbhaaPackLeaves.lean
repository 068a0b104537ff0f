/- PackLeaves: what is handed in stays as it is, and what is answered is new memory. Where what it reads is of bulk at most 1048576. -/
import Derived.Test.YtnogkphkjkbbhaaRows
import Derived.Test.YtnogkphkjkbbhaaLeaves
import Derived.Test.YtnogkphkjkbbhaaGlueU
import Derived.WalkKit
import Derived.ProofKit
import Derived.OpenShut
import Derived.JoinedCond
namespace Go.Proofs.Ytnogkphkjkbbhaa.packLeavesLaw
open Go Go.Sv Go.ChangeShapes Go.WideShapes Go.ChangeAt Go.RowKit
set_option linter.unusedVariables false

/-- A reading of the message of noughts. -/
def witM {H : Type} : DataW H := .agg (List.replicate 6 (.lit (.int .i64 0)) ++ [.agg (List.replicate 32 (.lit (.int .u8 0))), .nil, .nil, .nil])
def shapes : List Sh := [Go.Sv.Try.shM]
theorem shapes_eq : Try.f9.params.toList.mapM (sh Try.prog 9) = some shapes := by kernel_rfl
theorem runs (A : AS) (avs : List V) (dats : List Dat) (hst : Go.Sv.Start A) (ha : ArgsOk A shapes dats avs) (hb : bulks dats ≤ 1048576) : ∃ k A', evFn Try.prog Go.Sv.Try.HH k 9 avs A = some (.bool true, A') := by
  unfold shapes at ha
  cases ha with
  | cons h1 ha => cases ha with
    | nil =>
      obtain ⟨vs, rfl, h1⟩ := h1
      obtain ⟨x, ⟨dv, iv, lv, rfl, r1⟩, ⟨r2, _⟩, b1⟩ := Go.Sv.Try.Reads.msg A _ _ h1
      simp only [bulks] at hb
      have b1 : x.data.length + x.ids.length + x.list.length + lens x.list ≤ _ := b1
      obtain ⟨w, A', hk, rfl⟩ := Go.Sv.Try.packLeaves_spec (WF.start hst) (roHp_on A) (roHp_arr A) r1 r2 (by omega) (by omega)
      obtain ⟨k, hk⟩ := hk.get
      exact ⟨k, A', hk⟩
theorem own : ownKnob Try.prog.godebug = none := by kernel_rfl
theorem params_len : Try.f9.params.toList.length = 1 := by kernel_rfl
set_option maxRecDepth 100000 in
theorem contract (H : Type) (enc : TypeId × Value → H) (W : World) (base : Nat) (args : Array Value) (ds gs : List (DataW H)) (before : List MemPlace)
    (hval : ∀ (j : Nat) t v, Try.f9.params[j]? = some t → args[j]? = some v → Value.okWide Try.prog W .any base t v)
    (hW : DataW.Whole enc Try.prog Try.f9.params.toList Rows.packLeavesSpec.vars false W args.toList ds gs before) (hk : Rows.uptoSmall H (ds ++ gs) = true) :
    Calls Try.prog 9 args W fun e W' => ∃ v, e = .returned v ∧ Rows.packLeavesSpec.post enc Try.prog Try.f9 false true false false W args v W' :=
  law_contract (N := 1048576) Go.Sv.Try.progOk shapes_eq rfl (fun H ds hl => by
    rw [params_len] at hl
    match ds, hl with
    | [d0], _ => exact ⟨rfl, rfl, rfl⟩) rfl Try.underlying4 (fun A avs dats hst ha hbb => runs A avs dats hst ha hbb) hval hW (Go.Sv.Try.bulk_small hk)

set_option maxRecDepth 100000 in
theorem lifted (os : Os) (started : os.Started) (H : Type) (enc : TypeId × Value → H) (F : Stop.Interp) :
    ReturnsInHanded {} Try.checked os 9 .any ((Rows.OpenSpec.upto Rows.packLeavesSpec).pre6 enc Try.prog Try.f9 Rows.packLeavesUptoRow.domain false) (((Rows.OpenSpec.upto Rows.packLeavesSpec).at F).post enc Try.prog Try.f9 false true false false) := by
  refine returnsInHanded_of_cond (C := Try.checked) (s := Rows.OpenSpec.upto Rows.packLeavesSpec) (k := Rows.uptoSmall) rfl own started (by kernel_rfl) Try.func9
    (OpenSpec.witness (enc := enc) (C := Try.checked) (s := Rows.OpenSpec.upto Rows.packLeavesSpec) (k := Rows.uptoSmall) rfl false ⟨#[], #[.agg (List.replicate 6 (Value.int .i64 0) ++ List.replicate 32 (Value.int .u8 0) ++ [Value.slice none 0 0, Value.slice none 0 0, Value.slice none 0 0]).toArray ], []⟩ 8 (by kernel_rfl) (by kernel_rfl) (by kernel_rfl)
      (x := ([ witM], [], [])) (by kernel_rfl) rfl (by kernel_rfl)) ?_
  intro W base args ds gs before hval hW _ hk _
  exact contract H enc W base args ds gs before hval hW hk

theorem proved : Rows.PackLeavesUptoSaid :=
  OpenClaim.holds_of_cond 9 Try.f9 rfl rfl rfl rfl rfl rfl rfl ⟨rfl, rfl, rfl, rfl, rfl⟩ rfl rfl rfl rfl rfl (by kernel_rfl) Try.func9 (by kernel_rfl)
    (of_decide_eq_true (by kernel_rfl)) (by unfold Func.isWrapper; first | (rw [if_pos (by decide +kernel)]; kernel_rfl) | (rw [if_neg (by decide +kernel)]; exact ⟨rfl, rfl⟩))
    (fun os started H enc _ F => lifted os started H enc F)

end Go.Proofs.Ytnogkphkjkbbhaa.packLeavesLaw
