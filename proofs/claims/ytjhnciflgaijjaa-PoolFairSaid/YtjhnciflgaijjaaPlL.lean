/- PoolFair: what waits is agreed upon in the order in which it came: batch by batch a pool is emptied, and the book has its entries in this order. For every input. -/
import Derived.Test.YtjhnciflgaijjaaRows
import Derived.Test.YtjhnciflgaijjaaPlB
import Derived.Test.YtjhnciflgaijjaaSv3
import Derived.WalkKit
import Derived.ProofKit
import Derived.OpenShut
import Derived.JoinedCond
set_option linter.unusedVariables false
namespace Go.Proofs.Ytjhnciflgaijjaa.poolFairLaw
open Go Go.Sv Go.ChangeShapes Go.WideShapes Go.ChangeAt Go.RowKit
def shapes : List Sh := [.sl (.sl (.int .u8) 1) 1]
theorem Bd0 : Try.f16.params.toList.mapM (sh Try.prog 9) = some shapes := by kernel_rfl
theorem runs (A : AS) (avs : List V) (dats : List Dat) (hst : Go.Sv.Start A) (ha : ArgsOk A shapes dats avs) : ∃ k A', evFn Try.prog Go.Sv.Try.HH k 16 avs A = some (.bool true, A') := by
 unfold shapes at ha
 cases ha with
 | cons h1 ha => cases ha with
  | nil =>
   obtain ⟨xs, ⟨v, hv, r1⟩, _, _⟩ := Reads.u8.sl.sl A _ _ h1
   cases hv
   obtain ⟨w, A', hk, rfl⟩ := Go.Sv.Try.poolFair_spec (WF.start hst) (Bw7 A) r1
   obtain ⟨k, hk⟩ := hk.get
   exact ⟨k, A', hk⟩
theorem own : ownKnob Try.prog.godebug = none := by kernel_rfl
theorem A76 : Try.f16.params.toList.length = 1 := by kernel_rfl
set_option maxRecDepth 100000 in
theorem contract (H : Type) (enc : TypeId × Value -> H) (W : World) (base : Nat) (args : Array Value) (ds gs : List (DataW H)) (before : List MemPlace)
 (hval : ∀ (j : Nat) t v, Try.f16.params[j]? = some t -> args[j]? = some v -> Value.okWide Try.prog W .any base t v)
 (hW : DataW.Whole enc Try.prog Try.f16.params.toList Rows.poolFairSpec.vars false W args.toList ds gs before) :
 Calls Try.prog 16 args W fun e W' => ∃ v, e = .returned v /\ Rows.poolFairSpec.post enc Try.prog Try.f16 false true false false W args v W' :=
 AT7 (N := bulkWs ds) Go.Sv.Try.progOk Bd0 rfl (fun H ds hl => by
  rw [A76] at hl
  match ds, hl with
  | [d0], _ => exact ⟨rfl, rfl, rfl⟩) rfl Try.underlying4 (fun A avs dats hst ha hbb => runs A avs dats hst ha) hval hW (Nat.le_refl _)
set_option maxRecDepth 100000 in
theorem lifted (os : Os) (started : os.Started) (H : Type) (enc : TypeId × Value -> H) :
 ReturnsInHanded {} Try.checked os 16 .any (Rows.poolFairSpec.pre6 enc Try.prog Try.f16 Rows.poolFairRow.domain false) (Rows.poolFairSpec.post enc Try.prog Try.f16 false true false false) := by
 refine returnsInHanded_of_change (C := Try.checked) own started (by kernel_rfl) Try.func16
  (ChangeSpec.witness6 (enc := enc) (C := Try.checked) false ⟨#[], #[.slice none 0 0], []⟩ 8 (by kernel_rfl) (by kernel_rfl) (by kernel_rfl) (by kernel_rfl)) ?_
 intro W base args ds gs before hval hW _ _
 exact contract H enc W base args ds gs before hval hW
theorem proved : Rows.PoolFairSaid :=
 OpenClaim.holds_of_wide 16 Try.f16 rfl rfl rfl rfl rfl rfl rfl ⟨rfl, rfl, rfl, rfl, rfl⟩ rfl rfl rfl rfl rfl (by kernel_rfl) Try.func16 (by kernel_rfl)
  (of_decide_eq_true (by kernel_rfl)) (by unfold Func.isWrapper; first | (rw [if_pos (by decide +kernel)]; kernel_rfl) | (rw [if_neg (by decide +kernel)]; exact ⟨rfl, rfl⟩))
  (fun os started H enc _ => lifted os started H enc)
end Go.Proofs.Ytjhnciflgaijjaa.poolFairLaw
