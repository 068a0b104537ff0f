/- AuditTwice: whether an entry of a raw list was there before, and which one wasn't handed in. Where what it reads is of bulk at most 1048576. -/
import Derived.Test.YtnogkphkjkbbhaaRows
import Derived.Test.YtnogkphkjkbbhaaTwice
import Derived.Test.YtnogkphkjkbbhaaGlueU
import Derived.WalkKit
import Derived.ProofKit
import Derived.OpenShut
import Derived.JoinedCond
namespace Go.Proofs.Ytnogkphkjkbbhaa.auditTwiceLaw
open Go Go.Sv Go.ChangeShapes Go.WideShapes Go.ChangeAt Go.RowKit
set_option linter.unusedVariables false

def shapes : List Sh := [.sl (.sl (.int .u8) 1) 1, .sl (.sl (.int .u8) 1) 1]
theorem shapes_eq : Try.f12.params.toList.mapM (sh Try.prog 9) = some shapes := by kernel_rfl
theorem runs (A : AS) (avs : List V) (dats : List Dat) (hst : Go.Sv.Start A) (ha : ArgsOk A shapes dats avs) (hb : bulks dats ≤ 1048576) : ∃ k A', evFn Try.prog Go.Sv.Try.HH k 12 avs A = some (.bool true, A') := by
  unfold shapes at ha
  cases ha with
  | cons h1 ha => cases ha with
    | cons h2 ha => cases ha with
      | nil =>
        obtain ⟨l, ⟨v, hv, r1⟩, _, b1⟩ := Reads.u8.sl.sl A _ _ h1
        cases hv
        obtain ⟨l', ⟨v', hv', r2⟩, _, b2⟩ := Reads.u8.sl.sl A _ _ h2
        cases hv'
        have q1 := length_le_sumOf (μ := fun b : Bts => sumOf (fun _ : UInt8 => 1) b + 1) (fun _ => by omega) l
        have q2 := length_le_sumOf (μ := fun b : Bts => sumOf (fun _ : UInt8 => 1) b + 1) (fun _ => by omega) l'
        have b1 : sumOf (fun b : Bts => sumOf (fun _ : UInt8 => 1) b + 1) l + 1 ≤ _ := b1
        have b2 : sumOf (fun b : Bts => sumOf (fun _ : UInt8 => 1) b + 1) l' + 1 ≤ _ := b2
        simp only [bulks] at hb
        obtain ⟨w, A', hk, rfl⟩ := Go.Sv.Try.auditTwice_spec (WF.start hst) (roHp_on A) (roHp_arr A) r1 r2 (by omega) (by omega)
        obtain ⟨k, hk⟩ := hk.get
        exact ⟨k, A', hk⟩
theorem own : ownKnob Try.prog.godebug = none := by kernel_rfl
theorem params_len : Try.f12.params.toList.length = 2 := by kernel_rfl
set_option maxRecDepth 100000 in
theorem contract (H : Type) (enc : TypeId × Value → H) (W : World) (base : Nat) (args : Array Value) (ds gs : List (DataW H)) (before : List MemPlace)
    (hval : ∀ (j : Nat) t v, Try.f12.params[j]? = some t → args[j]? = some v → Value.okWide Try.prog W .any base t v)
    (hW : DataW.Whole enc Try.prog Try.f12.params.toList Rows.auditTwiceSpec.vars false W args.toList ds gs before) (hk : Rows.uptoSmall H (ds ++ gs) = true) :
    Calls Try.prog 12 args W fun e W' => ∃ v, e = .returned v ∧ Rows.auditTwiceSpec.post enc Try.prog Try.f12 false true false false W args v W' :=
  law_contract (N := 1048576) Go.Sv.Try.progOk shapes_eq rfl (fun H ds hl => by
    rw [params_len] at hl
    match ds, hl with
    | [d0, d1], _ => exact ⟨rfl, rfl, rfl⟩) rfl Try.underlying4 (fun A avs dats hst ha hbb => runs A avs dats hst ha hbb) hval hW (Go.Sv.Try.bulk_small hk)

set_option maxRecDepth 100000 in
theorem lifted (os : Os) (started : os.Started) (H : Type) (enc : TypeId × Value → H) (F : Stop.Interp) :
    ReturnsInHanded {} Try.checked os 12 .any ((Rows.OpenSpec.upto Rows.auditTwiceSpec).pre6 enc Try.prog Try.f12 Rows.auditTwiceUptoRow.domain false) (((Rows.OpenSpec.upto Rows.auditTwiceSpec).at F).post enc Try.prog Try.f12 false true false false) := by
  refine returnsInHanded_of_cond (C := Try.checked) (s := Rows.OpenSpec.upto Rows.auditTwiceSpec) (k := Rows.uptoSmall) rfl own started (by kernel_rfl) Try.func12
    (OpenSpec.witness (enc := enc) (C := Try.checked) (s := Rows.OpenSpec.upto Rows.auditTwiceSpec) (k := Rows.uptoSmall) rfl false ⟨#[], #[.slice none 0 0, .slice none 0 0 ], []⟩ 8 (by kernel_rfl) (by kernel_rfl) (by kernel_rfl)
      (x := ([ .nil, .nil], [], [])) (by kernel_rfl) rfl (by kernel_rfl)) ?_
  intro W base args ds gs before hval hW _ hk _
  exact contract H enc W base args ds gs before hval hW hk

theorem proved : Rows.AuditTwiceUptoSaid :=
  OpenClaim.holds_of_cond 12 Try.f12 rfl rfl rfl rfl rfl rfl rfl ⟨rfl, rfl, rfl, rfl, rfl⟩ rfl rfl rfl rfl rfl (by kernel_rfl) Try.func12 (by kernel_rfl)
    (of_decide_eq_true (by kernel_rfl)) (by unfold Func.isWrapper; first | (rw [if_pos (by decide +kernel)]; kernel_rfl) | (rw [if_neg (by decide +kernel)]; exact ⟨rfl, rfl⟩))
    (fun os started H enc _ F => lifted os started H enc F)

end Go.Proofs.Ytnogkphkjkbbhaa.auditTwiceLaw
