/- BookLinks: each head is a beginning of the next one, and a way shows it. For every input. -/
import Derived.Test.YtjhnciflgaijjaaRows
import Derived.Test.YtjhnciflgaijjaaPrA
import Derived.Test.YtjhnciflgaijjaaSv3
import Derived.WalkKit
import Derived.ProofKit
import Derived.OpenShut
import Derived.JoinedCond
set_option linter.unusedVariables false
namespace Go.Proofs.Ytjhnciflgaijjaa.bookLinksLaw
open Go Go.Sv Go.ChangeShapes Go.WideShapes Go.ChangeAt Go.RowKit
def shapes : List Sh := [.sl (.sl (.int .u8) 1) 1]
theorem Be4 : Try.f12.params.toList.mapM (sh Try.prog 9) = some shapes := by kernel_rfl
theorem runs (A : AS) (avs : List V) (dats : List Dat) (hst : Go.Sv.Start A) (ha : ArgsOk A shapes dats avs) : ∃ k A', evFn Try.prog Go.Sv.Try.HH k 12 avs A = some (.bool true, A') := by
 unfold shapes at ha
 cases ha with
 | cons h1 ha => cases ha with
  | nil =>
   obtain ⟨xs, ⟨v, hv, r1⟩, _, _⟩ := Reads.u8.sl.sl A _ _ h1
   cases hv
   obtain ⟨w, A', hk, rfl⟩ := Go.Sv.Try.bookLinks_spec (WF.start hst) (By4 A) r1
   obtain ⟨k, hk⟩ := hk.get
   exact ⟨k, A', hk⟩
theorem own : ownKnob Try.prog.godebug = none := by kernel_rfl
theorem A85 : Try.f12.params.toList.length = 1 := by kernel_rfl
set_option maxRecDepth 100000 in
theorem contract (H : Type) (enc : TypeId × Value -> H) (W : World) (base : Nat) (args : Array Value) (ds gs : List (DataW H)) (before : List MemPlace)
 (hval : ∀ (j : Nat) t v, Try.f12.params[j]? = some t -> args[j]? = some v -> Value.okWide Try.prog W .any base t v)
 (hW : DataW.Whole enc Try.prog Try.f12.params.toList Rows.bookLinksSpec.vars false W args.toList ds gs before) :
 Calls Try.prog 12 args W fun e W' => ∃ v, e = .returned v /\ Rows.bookLinksSpec.post enc Try.prog Try.f12 false true false false W args v W' :=
 AU7 (N := bulkWs ds) Go.Sv.Try.progOk Be4 rfl (fun H ds hl => by
  rw [A85] at hl
  match ds, hl with
  | [d0], _ => exact ⟨rfl, rfl, rfl⟩) rfl Try.underlying4 (fun A avs dats hst ha hbb => runs A avs dats hst ha) hval hW (Nat.le_refl _)
set_option maxRecDepth 100000 in
theorem lifted (os : Os) (started : os.Started) (H : Type) (enc : TypeId × Value -> H) :
 ReturnsInHanded {} Try.checked os 12 .any (Rows.bookLinksSpec.pre6 enc Try.prog Try.f12 Rows.bookLinksRow.domain false) (Rows.bookLinksSpec.post enc Try.prog Try.f12 false true false false) := by
 refine returnsInHanded_of_change (C := Try.checked) own started (by kernel_rfl) Try.func12
  (ChangeSpec.witness6 (enc := enc) (C := Try.checked) false ⟨#[], #[.slice none 0 0], []⟩ 8 (by kernel_rfl) (by kernel_rfl) (by kernel_rfl) (by kernel_rfl)) ?_
 intro W base args ds gs before hval hW _ _
 exact contract H enc W base args ds gs before hval hW
theorem proved : Rows.BookLinksSaid :=
 OpenClaim.holds_of_wide 12 Try.f12 rfl rfl rfl rfl rfl rfl rfl ⟨rfl, rfl, rfl, rfl, rfl⟩ rfl rfl rfl rfl rfl (by kernel_rfl) Try.func12 (by kernel_rfl)
  (of_decide_eq_true (by kernel_rfl)) (by unfold Func.isWrapper; first | (rw [if_pos (by decide +kernel)]; kernel_rfl) | (rw [if_neg (by decide +kernel)]; exact ⟨rfl, rfl⟩))
  (fun os started H enc _ => lifted os started H enc)
end Go.Proofs.Ytjhnciflgaijjaa.bookLinksLaw
