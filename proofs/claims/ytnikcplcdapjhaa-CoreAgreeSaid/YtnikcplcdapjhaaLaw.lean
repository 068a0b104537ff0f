/- CoreAgree: no two are done with unlike batches, whatever the faulty ones write, whatever is lost, doubled or late, and whoever goes down. For every input. -/
import Derived.Test.YtnikcplcdapjhaaRows
import Derived.Test.YtnikcplcdapjhaaGe
import Derived.Test.YtnikcplcdapjhaaSv3
import Derived.WalkKit
import Derived.ProofKit
import Derived.OpenShut
import Derived.JoinedCond
set_option linter.unusedVariables false
namespace Go.Proofs.Ytnikcplcdapjhaa.coreAgreeLaw
open Go Go.Sv Go.ChangeShapes Go.WideShapes Go.ChangeAt Go.RowKit
def shMv16 : Sh := .struct [(.int .i64, 0, 1), (.int .i64, 1, 1), (.int .i64, 2, 1), (Go.Sv.Try.shM, 3, 41)] 44
def eMvP : Enc Mv16 := ePair (eInt .i64) (ePair (eInt .i64) (ePair (eInt .i64) eMsg))
theorem Reads.mvP : Reads eMvP shMv16 (fun x => IntIn .i64 x.2.2.1) (fun _ => 0) :=
 Reads.weak (Reads.struct (.cons (Reads.int .i64) rfl rfl (.cons (Reads.int .i64) rfl rfl (.cons (Reads.int .i64) rfl rfl (.last Go.Sv.Try.Reads.msg rfl)))) rfl) (fun _ h => h.2.2.1) fun _ => Nat.zero_le _
theorem Reads.mv16 : Reads Go.Sv.Try.eMv16 shMv16 (fun x => IntIn .i64 x.2.2.1) (fun _ => 0) := by
 intro A d cs h
 obtain ⟨x, ⟨_, _, rfl, rfl, _, _, rfl, rfl, _, _, rfl, rfl, dv, iv, lv, rfl, q⟩, h2, h3⟩ := Reads.mvP A d cs h
 exact ⟨x, ⟨dv, iv, lv, rfl, q⟩, h2, h3⟩
def shapes : List Sh := [.int .i64, .sl shMv16 44]
theorem Bg7 : Try.f4.params.toList.mapM (sh Try.prog 9) = some shapes := by kernel_rfl
theorem runs (A : AS) (avs : List V) (dats : List Dat) (hst : Go.Sv.Start A) (ha : ArgsOk A shapes dats avs) : ∃ k A', evFn Try.prog Go.Sv.Try.HH k 4 avs A = some (.bool true, A') := by
 unfold shapes at ha
 cases ha with
 | cons h1 ha => cases ha with
  | cons h2 ha => cases ha with
   | nil =>
    obtain ⟨n, r4, r5, r6⟩ := Reads.int .i64 A _ _ h1
    cases r4
    obtain ⟨l, ⟨v, hv, r1⟩, r2, b1⟩ := Reads.mv16.sl A _ _ h2
    cases hv
    obtain ⟨w, A', hk, rfl⟩ := Go.Sv.Try.coreAgree_spec (WF.start hst) r1 r2.1 r2.2
    obtain ⟨k, hk⟩ := hk.get
    exact ⟨k, A', hk⟩
theorem own : ownKnob Try.prog.godebug = none := by kernel_rfl
theorem A99 : Try.f4.params.toList.length = 2 := by kernel_rfl
set_option maxRecDepth 100000 in
theorem contract (H : Type) (enc : TypeId × Value -> H) (W : World) (base : Nat) (args : Array Value) (ds gs : List (DataW H)) (before : List MemPlace)
 (hval : ∀ (j : Nat) t v, Try.f4.params[j]? = some t -> args[j]? = some v -> Value.okWide Try.prog W .any base t v)
 (hW : DataW.Whole enc Try.prog Try.f4.params.toList Rows.coreAgreeSpec.vars false W args.toList ds gs before) :
 Calls Try.prog 4 args W fun e W' => ∃ v, e = .returned v /\ Rows.coreAgreeSpec.post enc Try.prog Try.f4 false true false false W args v W' :=
 AV9 (N := bulkWs ds) Go.Sv.Try.progOk Bg7 rfl (fun H ds hl => by
  rw [A99] at hl
  match ds, hl with
  | [d0, d1], _ => exact ⟨rfl, rfl, rfl⟩) rfl Try.underlying4 (fun A avs dats hst ha hbb => runs A avs dats hst ha) hval hW (Nat.le_refl _)
set_option maxRecDepth 100000 in
theorem lifted (os : Os) (started : os.Started) (H : Type) (enc : TypeId × Value -> H) :
 ReturnsInHanded {} Try.checked os 4 .any (Rows.coreAgreeSpec.pre6 enc Try.prog Try.f4 Rows.coreAgreeRow.domain false) (Rows.coreAgreeSpec.post enc Try.prog Try.f4 false true false false) := by
 refine returnsInHanded_of_change (C := Try.checked) own started (by kernel_rfl) Try.func4
  (ChangeSpec.witness6 (enc := enc) (C := Try.checked) false ⟨#[], #[.int .i64 0, .slice none 0 0], []⟩ 8 (by kernel_rfl) (by kernel_rfl) (by kernel_rfl) (by kernel_rfl)) ?_
 intro W base args ds gs before hval hW _ _
 exact contract H enc W base args ds gs before hval hW
theorem proved : Rows.CoreAgreeSaid :=
 OpenClaim.holds_of_wide 4 Try.f4 rfl rfl rfl rfl rfl rfl rfl ⟨rfl, rfl, rfl, rfl, rfl⟩ rfl rfl rfl rfl rfl (by kernel_rfl) Try.func4 (by kernel_rfl)
  (of_decide_eq_true (by kernel_rfl)) (by unfold Func.isWrapper; first | (rw [if_pos (by decide +kernel)]; kernel_rfl) | (rw [if_neg (by decide +kernel)]; exact ⟨rfl, rfl⟩))
  (fun os started H enc _ => lifted os started H enc)
end Go.Proofs.Ytnikcplcdapjhaa.coreAgreeLaw
