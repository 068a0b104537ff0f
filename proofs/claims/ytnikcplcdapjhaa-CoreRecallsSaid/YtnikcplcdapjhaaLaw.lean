/- CoreRecalls: who goes down and comes back with what they sent has just the votes that they told, and tells no other ones, and no other proposals, whatever comes then. For every input. -/
import Derived.Test.YtnikcplcdapjhaaRows
import Derived.Test.YtnikcplcdapjhaaGe
import Derived.Test.YtnikcplcdapjhaaSv3
import Derived.WalkKit
import Derived.ProofKit
import Derived.OpenShut
import Derived.JoinedCond
set_option linter.unusedVariables false
namespace Go.Proofs.Ytnikcplcdapjhaa.coreRecallsLaw
open Go Go.Sv Go.ChangeShapes Go.WideShapes Go.ChangeAt Go.RowKit
def eA2 : Enc (Int × Int) := ePair (eInt .i64) (eInt .i64)
theorem Reads.a2 : Reads eA2 (.arr 2 (.int .i64) 1) (fun x => IntIn .i64 x.1 /\ IntIn .i64 x.2) (fun _ => 0) := by
 intro A d cs h
 cases h with
 | @arr n sz e l vs hl hv hh =>
  match l, hl with
  | [d0, d1], _ =>
   obtain ⟨n0, p0, q0, _⟩ := Reads.int .i64 A _ _ (hh 0 _ rfl)
   obtain ⟨n1, p1, q1, _⟩ := Reads.int .i64 A _ _ (hh 1 _ rfl)
   have p0 : (cs.drop 0).take 1 = [.int .i64 n0] := p0
   have p1 : (cs.drop 1).take 1 = [.int .i64 n1] := p1
   have hv : cs.length = 2 := hv
   match cs, hv with
   | [a, b], _ =>
    simp at p0 p1
    subst p0 p1
    exact ⟨(n0, n1), ⟨_, _, rfl, rfl, rfl⟩, ⟨q0, q1⟩, Nat.zero_le _⟩
def shInC : Sh := .struct [(.int .i64, 0, 1), (.int .i64, 1, 1), (Go.Sv.Try.shM, 2, 41)] 43
def eInP : Enc InC := ePair (eInt .i64) (ePair (eInt .i64) eMsg)
theorem Reads.inP : Reads eInP shInC (fun _ => True) (fun _ => 0) :=
 Reads.weak (Reads.struct (.cons (Reads.int .i64) rfl rfl (.cons (Reads.int .i64) rfl rfl (.last Go.Sv.Try.Reads.msg rfl))) rfl) (fun _ _ => trivial) fun _ => Nat.zero_le _
theorem Reads.inC : Reads Go.Sv.Try.eInC shInC (fun _ => True) (fun _ => 0) := by
 intro A d cs h
 obtain ⟨x, ⟨_, _, rfl, rfl, _, _, rfl, rfl, dv, iv, lv, rfl, q⟩, h2, h3⟩ := Reads.inP A d cs h
 exact ⟨x, ⟨dv, iv, lv, rfl, q⟩, h2, h3⟩
def shapes : List Sh := [.arr 2 (.int .i64) 1, .sl shInC 43, .sl shInC 43]
theorem Bh1 : Try.f5.params.toList.mapM (sh Try.prog 9) = some shapes := by kernel_rfl
theorem runs (A : AS) (avs : List V) (dats : List Dat) (hst : Go.Sv.Start A) (ha : ArgsOk A shapes dats avs) : ∃ k A', evFn Try.prog Go.Sv.Try.HH k 5 avs A = some (.bool true, A') := by
 unfold shapes at ha
 cases ha with
 | cons h1 ha => cases ha with
  | cons h2 ha => cases ha with
   | cons h3 ha => cases ha with
    | nil =>
     obtain ⟨vs, rfl, h1⟩ := h1
     obtain ⟨x, ⟨_, _, rfl, rfl, rfl⟩, q, _⟩ := Reads.a2 A _ _ h1
     obtain ⟨l, ⟨v, hv, r1⟩, r2, b1⟩ := Reads.inC.sl A _ _ h2
     cases hv
     obtain ⟨l', ⟨v', hv', r1'⟩, r2', b1'⟩ := Reads.inC.sl A _ _ h3
     cases hv'
     obtain ⟨w, A', hk, rfl⟩ := Go.Sv.Try.coreRecalls_spec (b := x.2) (WF.start hst) q.1 r1 r1' r2.1 r2'.1
     obtain ⟨k, hk⟩ := hk.get
     exact ⟨k, A', hk⟩
theorem own : ownKnob Try.prog.godebug = none := by kernel_rfl
theorem Ba3 : Try.f5.params.toList.length = 3 := by kernel_rfl
set_option maxRecDepth 100000 in
theorem contract (H : Type) (enc : TypeId × Value -> H) (W : World) (base : Nat) (args : Array Value) (ds gs : List (DataW H)) (before : List MemPlace)
 (hval : ∀ (j : Nat) t v, Try.f5.params[j]? = some t -> args[j]? = some v -> Value.okWide Try.prog W .any base t v)
 (hW : DataW.Whole enc Try.prog Try.f5.params.toList Rows.coreRecallsSpec.vars false W args.toList ds gs before) :
 Calls Try.prog 5 args W fun e W' => ∃ v, e = .returned v /\ Rows.coreRecallsSpec.post enc Try.prog Try.f5 false true false false W args v W' :=
 AV5 (N := bulkWs ds) Go.Sv.Try.progOk Bh1 rfl (fun H ds hl => by
  rw [Ba3] at hl
  match ds, hl with
  | [d0, d1, d2], _ => exact ⟨rfl, rfl, rfl⟩) rfl Try.underlying4 (fun A avs dats hst ha hbb => runs A avs dats hst ha) hval hW (Nat.le_refl _)
set_option maxRecDepth 100000 in
theorem lifted (os : Os) (started : os.Started) (H : Type) (enc : TypeId × Value -> H) :
 ReturnsInHanded {} Try.checked os 5 .any (Rows.coreRecallsSpec.pre6 enc Try.prog Try.f5 Rows.coreRecallsRow.domain false) (Rows.coreRecallsSpec.post enc Try.prog Try.f5 false true false false) := by
 refine returnsInHanded_of_change (C := Try.checked) own started (by kernel_rfl) Try.func5
  (ChangeSpec.witness6 (enc := enc) (C := Try.checked) false ⟨#[], #[.agg #[.int .i64 0, .int .i64 0], .slice none 0 0, .slice none 0 0], []⟩ 8 (by kernel_rfl) (by kernel_rfl) (by kernel_rfl) (by kernel_rfl)) ?_
 intro W base args ds gs before hval hW _ _
 exact contract H enc W base args ds gs before hval hW
theorem proved : Rows.CoreRecallsSaid :=
 OpenClaim.holds_of_wide 5 Try.f5 rfl rfl rfl rfl rfl rfl rfl ⟨rfl, rfl, rfl, rfl, rfl⟩ rfl rfl rfl rfl rfl (by kernel_rfl) Try.func5 (by kernel_rfl)
  (of_decide_eq_true (by kernel_rfl)) (by unfold Func.isWrapper; first | (rw [if_pos (by decide +kernel)]; kernel_rfl) | (rw [if_neg (by decide +kernel)]; exact ⟨rfl, rfl⟩))
  (fun os started H enc _ => lifted os started H enc)
end Go.Proofs.Ytnikcplcdapjhaa.coreRecallsLaw
