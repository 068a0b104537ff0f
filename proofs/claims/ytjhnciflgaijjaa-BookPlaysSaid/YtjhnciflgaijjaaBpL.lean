/- BookPlays: a book to which raw batches are applied has just the entries, places, heads and leaves of the document's. For every input. -/
import Derived.Test.YtjhnciflgaijjaaRows
import Derived.Test.YtjhnciflgaijjaaBpB
import Derived.Test.YtjhnciflgaijjaaSv3
import Derived.WalkKit
import Derived.ProofKit
import Derived.OpenShut
import Derived.JoinedCond
set_option linter.unusedVariables false
namespace Go.Proofs.Ytjhnciflgaijjaa.bookPlaysLaw
open Go Go.Sv Go.ChangeShapes Go.WideShapes Go.ChangeAt Go.RowKit
def shapes : List Sh := [.sl (.sl (.int .u8) 1) 1, .arr 2 (.int .i64) 1]
theorem Bf8 : Try.f11.params.toList.mapM (sh Try.prog 9) = some shapes := by kernel_rfl
theorem runs (A : AS) (avs : List V) (dats : List Dat) (hst : Go.Sv.Start A) (ha : ArgsOk A shapes dats avs) : ∃ k A', evFn Try.prog Go.Sv.Try.HH k 11 avs A = some (.bool true, A') := by
 unfold shapes at ha
 cases ha with
 | cons h1 ha => cases ha with
  | cons h2 ha => cases ha with
   | nil =>
    obtain ⟨xs, ⟨v, hv, r1⟩, _, _⟩ := Reads.u8.sl.sl A _ _ h1
    cases hv
    obtain ⟨vs, rfl, h2⟩ := h2
    obtain ⟨a0, a1, rfl⟩ := Go.Sv.Try.Reads.int2 h2
    obtain ⟨w, A', hk, rfl⟩ := Go.Sv.Try.bookPlays_spec (a0 := a0) (a1 := a1) (WF.start hst) (Bz8 A) r1
    obtain ⟨k, hk⟩ := hk.get
    exact ⟨k, A', hk⟩
theorem own : ownKnob Try.prog.godebug = none := by kernel_rfl
theorem A99 : Try.f11.params.toList.length = 2 := by kernel_rfl
set_option maxRecDepth 100000 in
theorem contract (H : Type) (enc : TypeId × Value -> H) (W : World) (base : Nat) (args : Array Value) (ds gs : List (DataW H)) (before : List MemPlace)
 (hval : ∀ (j : Nat) t v, Try.f11.params[j]? = some t -> args[j]? = some v -> Value.okWide Try.prog W .any base t v)
 (hW : DataW.Whole enc Try.prog Try.f11.params.toList Rows.bookPlaysSpec.vars false W args.toList ds gs before) :
 Calls Try.prog 11 args W fun e W' => ∃ v, e = .returned v /\ Rows.bookPlaysSpec.post enc Try.prog Try.f11 false true false false W args v W' :=
 AW0 (N := bulkWs ds) Go.Sv.Try.progOk Bf8 rfl (fun H ds hl => by
  rw [A99] at hl
  match ds, hl with
  | [d0, d1], _ => exact ⟨rfl, rfl, rfl⟩) rfl Try.underlying4 (fun A avs dats hst ha hbb => runs A avs dats hst ha) hval hW (Nat.le_refl _)
set_option maxRecDepth 100000 in
theorem lifted (os : Os) (started : os.Started) (H : Type) (enc : TypeId × Value -> H) :
 ReturnsInHanded {} Try.checked os 11 .any (Rows.bookPlaysSpec.pre6 enc Try.prog Try.f11 Rows.bookPlaysRow.domain false) (Rows.bookPlaysSpec.post enc Try.prog Try.f11 false true false false) := by
 refine returnsInHanded_of_change (C := Try.checked) own started (by kernel_rfl) Try.func11
  (ChangeSpec.witness6 (enc := enc) (C := Try.checked) false ⟨#[], #[.slice none 0 0, .agg [Value.int .i64 0, Value.int .i64 0].toArray], []⟩ 8 (by kernel_rfl) (by kernel_rfl) (by kernel_rfl) (by kernel_rfl)) ?_
 intro W base args ds gs before hval hW _ _
 exact contract H enc W base args ds gs before hval hW
theorem proved : Rows.BookPlaysSaid :=
 OpenClaim.holds_of_wide 11 Try.f11 rfl rfl rfl rfl rfl rfl rfl ⟨rfl, rfl, rfl, rfl, rfl⟩ rfl rfl rfl rfl rfl (by kernel_rfl) Try.func11 (by kernel_rfl)
  (of_decide_eq_true (by kernel_rfl)) (by unfold Func.isWrapper; first | (rw [if_pos (by decide +kernel)]; kernel_rfl) | (rw [if_neg (by decide +kernel)]; exact ⟨rfl, rfl⟩))
  (fun os started H enc _ => lifted os started H enc)
end Go.Proofs.Ytjhnciflgaijjaa.bookPlaysLaw
