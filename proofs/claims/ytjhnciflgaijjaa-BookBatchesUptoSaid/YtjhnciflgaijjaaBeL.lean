/- BookBatches: the bytes of any batch, and the entries of raw bytes, are the document's; who wants no more of them has just so many. Where what it reads is of bulk at most 1048576. -/
import Derived.Test.YtjhnciflgaijjaaRows
import Derived.Test.YtjhnciflgaijjaaBkB
import Derived.WalkKit
import Derived.ProofKit
import Derived.OpenShut
import Derived.JoinedCond
namespace Go.Proofs.Ytjhnciflgaijjaa.bookBatchesLaw
open Go Go.Sv Go.ChangeShapes Go.WideShapes Go.ChangeAt Go.RowKit
set_option linter.unusedVariables false
def wit0 {H : Type} : DataW H := .lit (.int .i64 0)
def shapes : List Sh := [.sl (.sl (.int .u8) 1) 1, .sl (.int .u8) 1, .int .i64]
theorem shapes_eq : Try.f7.params.toList.mapM (sh Try.prog 9) = some shapes := by kernel_rfl
theorem runs (A : AS) (avs : List V) (dats : List Dat) (hst : Go.Sv.Start A) (ha : ArgsOk A shapes dats avs) (hb : bulks dats ≤ 1048576) : ∃ k A', evFn Try.prog Go.Sv.Try.HH k 7 avs A = some (.bool true, A') := by
  unfold shapes at ha
  cases ha with
  | cons h1 ha => cases ha with
    | cons h2 ha => cases ha with
      | cons h3 ha => cases ha with
        | nil =>
          obtain ⟨l, ⟨v, hv, r1⟩, _, b1⟩ := Reads.u8.sl.sl A _ _ h1
          cases hv
          obtain ⟨b, ⟨u, hu, r2⟩, _, b2⟩ := Reads.u8.sl A _ _ h2
          cases hu
          obtain ⟨n, hn, _, _⟩ := Reads.int .i64 A _ _ h3
          cases hn
          have q1 := length_le_sumOf (μ := fun b : List UInt8 => sumOf (fun _ : UInt8 => 1) b + 1) (fun _ => by omega) l
          have q2 := length_le_sumOf (μ := fun _ : UInt8 => 1) (fun _ => Nat.le_refl _) b
          have b1 : sumOf (fun b : List UInt8 => sumOf (fun _ : UInt8 => 1) b + 1) l + 1 ≤ _ := b1
          have b2 : sumOf (fun _ => 1) b + 1 ≤ _ := b2
          have q3 := Go.Sv.Try.lens_le_sum l
          have q4 : ∀ x ∈ l, x.length ≤ lens l := fun x q => len_le_lens q
          simp only [bulks] at hb
          obtain ⟨w, A', hk, rfl⟩ := Go.Sv.Try.bookBatches_spec (most := n) (WF.start hst) (roHp_on A) r1 r2 (by omega) (fun x q => by have := q4 x q; omega) (by omega)
          obtain ⟨k, hk⟩ := hk.get
          exact ⟨k, A', hk⟩
theorem own : ownKnob Try.prog.godebug = none := by kernel_rfl
theorem params_len : Try.f7.params.toList.length = 3 := by kernel_rfl
set_option maxRecDepth 100000 in
theorem contract (H : Type) (enc : TypeId × Value → H) (W : World) (base : Nat) (args : Array Value) (ds gs : List (DataW H)) (before : List MemPlace)
    (hval : ∀ (j : Nat) t v, Try.f7.params[j]? = some t → args[j]? = some v → Value.okWide Try.prog W .any base t v)
    (hW : DataW.Whole enc Try.prog Try.f7.params.toList Rows.bookBatchesSpec.vars false W args.toList ds gs before) (hk : Rows.uptoSmall H (ds ++ gs) = true) :
    Calls Try.prog 7 args W fun e W' => ∃ v, e = .returned v ∧ Rows.bookBatchesSpec.post enc Try.prog Try.f7 false true false false W args v W' :=
  law_contract (N := 1048576) Go.Sv.Try.progOk shapes_eq rfl (fun H ds hl => by
    rw [params_len] at hl
    match ds, hl with
    | [d0, d1, d2], _ => exact ⟨rfl, rfl, rfl⟩) rfl Try.underlying4 (fun A avs dats hst ha hbb => runs A avs dats hst ha hbb) hval hW (Go.Sv.Try.bulk_small hk)
set_option maxRecDepth 100000 in
theorem lifted (os : Os) (started : os.Started) (H : Type) (enc : TypeId × Value → H) (F : Stop.Interp) :
    ReturnsInHanded {} Try.checked os 7 .any ((Rows.OpenSpec.upto Rows.bookBatchesSpec).pre6 enc Try.prog Try.f7 Rows.bookBatchesUptoRow.domain false) (((Rows.OpenSpec.upto Rows.bookBatchesSpec).at F).post enc Try.prog Try.f7 false true false false) := by
  refine returnsInHanded_of_cond (C := Try.checked) (s := Rows.OpenSpec.upto Rows.bookBatchesSpec) (k := Rows.uptoSmall) rfl own started (by kernel_rfl) Try.func7
    (OpenSpec.witness (enc := enc) (C := Try.checked) (s := Rows.OpenSpec.upto Rows.bookBatchesSpec) (k := Rows.uptoSmall) rfl false ⟨#[], #[.slice none 0 0, .slice none 0 0, .int .i64 0 ], []⟩ 8 (by kernel_rfl) (by kernel_rfl) (by kernel_rfl)
      (x := ([ .nil, .nil, wit0], [], [])) (by kernel_rfl) rfl (by kernel_rfl)) ?_
  intro W base args ds gs before hval hW _ hk _
  exact contract H enc W base args ds gs before hval hW hk
theorem proved : Rows.BookBatchesUptoSaid :=
  OpenClaim.holds_of_cond 7 Try.f7 rfl rfl rfl rfl rfl rfl rfl ⟨rfl, rfl, rfl, rfl, rfl⟩ rfl rfl rfl rfl rfl (by kernel_rfl) Try.func7 (by kernel_rfl)
    (of_decide_eq_true (by kernel_rfl)) (by unfold Func.isWrapper; first | (rw [if_pos (by decide +kernel)]; kernel_rfl) | (rw [if_neg (by decide +kernel)]; exact ⟨rfl, rfl⟩))
    (fun os started H enc _ F => lifted os started H enc F)
end Go.Proofs.Ytjhnciflgaijjaa.bookBatchesLaw
