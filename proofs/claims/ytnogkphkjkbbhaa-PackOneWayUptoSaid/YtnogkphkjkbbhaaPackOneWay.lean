/- PackOneWay: each message has one way; two unlike messages have unlike bytes. Where what it reads is of bulk at most 1048576. -/
import Derived.Test.YtnogkphkjkbbhaaRows
import Derived.Test.YtnogkphkjkbbhaaLawsB
import Derived.Test.YtnogkphkjkbbhaaGlueU
import Derived.WalkKit
import Derived.ProofKit
import Derived.OpenShut
import Derived.JoinedCond
namespace Go.Proofs.Ytnogkphkjkbbhaa.packOneWayLaw
open Go Go.Sv Go.ChangeShapes Go.WideShapes Go.ChangeAt Go.RowKit
set_option linter.unusedVariables false

/-- A reading of the message of noughts. -/
def witM {H : Type} : DataW H := .agg (List.replicate 6 (.lit (.int .i64 0)) ++ [.agg (List.replicate 32 (.lit (.int .u8 0))), .nil, .nil, .nil])
def shapes : List Sh := [Go.Sv.Try.shM, Go.Sv.Try.shM, .sl (.int .u8) 1]
theorem shapes_eq : Try.f7.params.toList.mapM (sh Try.prog 9) = some shapes := by kernel_rfl
theorem runs (A : AS) (avs : List V) (dats : List Dat) (hst : Go.Sv.Start A) (ha : ArgsOk A shapes dats avs) (hb : bulks dats ≤ 1048576) : ∃ k A', evFn Try.prog Go.Sv.Try.HH k 7 avs A = some (.bool true, A') := by
  unfold shapes at ha
  cases ha with
  | cons h1 ha => cases ha with
    | cons h2 ha => cases ha with
      | cons h3 ha => cases ha with
        | nil =>
          obtain ⟨vs, rfl, h1⟩ := h1
          obtain ⟨x, ⟨dv, iv, lv, rfl, r1⟩, ⟨r2, _⟩, b1⟩ := Go.Sv.Try.Reads.msg A _ _ h1
          obtain ⟨vs, rfl, h2⟩ := h2
          obtain ⟨y, ⟨dw, iw, lw, rfl, r3⟩, ⟨r4, _⟩, b2⟩ := Go.Sv.Try.Reads.msg A _ _ h2
          obtain ⟨b, ⟨v, hv, r5⟩, _, b3⟩ := Reads.u8.sl A _ _ h3
          cases hv
          have q3 := length_le_sumOf (μ := fun _ : UInt8 => 1) (fun _ => Nat.le_refl _) b
          have b3 : sumOf (fun _ => 1) b + 1 ≤ _ := b3
          simp only [bulks] at hb
          have b1 : x.data.length + x.ids.length + x.list.length + lens x.list ≤ _ := b1
          obtain ⟨w, A', hk, rfl⟩ := Go.Sv.Try.packOneWay_spec (WF.start hst) (roHp_on A) (roHp_arr A) r1 r2 r3 r4 r5 (by omega) (by omega) (by omega)
          obtain ⟨k, hk⟩ := hk.get
          exact ⟨k, A', hk⟩
theorem own : ownKnob Try.prog.godebug = none := by kernel_rfl
theorem params_len : Try.f7.params.toList.length = 3 := by kernel_rfl
set_option maxRecDepth 100000 in
theorem contract (H : Type) (enc : TypeId × Value → H) (W : World) (base : Nat) (args : Array Value) (ds gs : List (DataW H)) (before : List MemPlace)
    (hval : ∀ (j : Nat) t v, Try.f7.params[j]? = some t → args[j]? = some v → Value.okWide Try.prog W .any base t v)
    (hW : DataW.Whole enc Try.prog Try.f7.params.toList Rows.packOneWaySpec.vars false W args.toList ds gs before) (hk : Rows.uptoSmall H (ds ++ gs) = true) :
    Calls Try.prog 7 args W fun e W' => ∃ v, e = .returned v ∧ Rows.packOneWaySpec.post enc Try.prog Try.f7 false true false false W args v W' :=
  law_contract (N := 1048576) Go.Sv.Try.progOk shapes_eq rfl (fun H ds hl => by
    rw [params_len] at hl
    match ds, hl with
    | [d0, d1, d2], _ => exact ⟨rfl, rfl, rfl⟩) rfl Try.underlying4 (fun A avs dats hst ha hbb => runs A avs dats hst ha hbb) hval hW (Go.Sv.Try.bulk_small hk)

set_option maxRecDepth 100000 in
theorem lifted (os : Os) (started : os.Started) (H : Type) (enc : TypeId × Value → H) (F : Stop.Interp) :
    ReturnsInHanded {} Try.checked os 7 .any ((Rows.OpenSpec.upto Rows.packOneWaySpec).pre6 enc Try.prog Try.f7 Rows.packOneWayUptoRow.domain false) (((Rows.OpenSpec.upto Rows.packOneWaySpec).at F).post enc Try.prog Try.f7 false true false false) := by
  refine returnsInHanded_of_cond (C := Try.checked) (s := Rows.OpenSpec.upto Rows.packOneWaySpec) (k := Rows.uptoSmall) rfl own started (by kernel_rfl) Try.func7
    (OpenSpec.witness (enc := enc) (C := Try.checked) (s := Rows.OpenSpec.upto Rows.packOneWaySpec) (k := Rows.uptoSmall) rfl false ⟨#[], #[.agg (List.replicate 6 (Value.int .i64 0) ++ List.replicate 32 (Value.int .u8 0) ++ [Value.slice none 0 0, Value.slice none 0 0, Value.slice none 0 0]).toArray, .agg (List.replicate 6 (Value.int .i64 0) ++ List.replicate 32 (Value.int .u8 0) ++ [Value.slice none 0 0, Value.slice none 0 0, Value.slice none 0 0]).toArray, .slice none 0 0 ], []⟩ 8 (by kernel_rfl) (by kernel_rfl) (by kernel_rfl)
      (x := ([ witM, witM, .nil], [], [])) (by kernel_rfl) rfl (by kernel_rfl)) ?_
  intro W base args ds gs before hval hW _ hk _
  exact contract H enc W base args ds gs before hval hW hk

theorem proved : Rows.PackOneWayUptoSaid :=
  OpenClaim.holds_of_cond 7 Try.f7 rfl rfl rfl rfl rfl rfl rfl ⟨rfl, rfl, rfl, rfl, rfl⟩ rfl rfl rfl rfl rfl (by kernel_rfl) Try.func7 (by kernel_rfl)
    (of_decide_eq_true (by kernel_rfl)) (by unfold Func.isWrapper; first | (rw [if_pos (by decide +kernel)]; kernel_rfl) | (rw [if_neg (by decide +kernel)]; exact ⟨rfl, rfl⟩))
    (fun os started H enc _ F => lifted os started H enc F)

end Go.Proofs.Ytnogkphkjkbbhaa.packOneWayLaw
