/- CorePlays: whatever comes to somebody, what they send, how they vote, and what they agreed upon is what the document says. For every input. -/
import Derived.Test.YtnikcplcdapjhaaGreatRows
import Derived.Test.YtnikcplcdapjhaaGreatGg
import Derived.Test.YtnikcplcdapjhaaGreatSv3
import Derived.WalkKit
import Derived.ProofKit
import Derived.OpenShut
import Derived.JoinedCond
set_option linter.unusedVariables false
namespace Go.Proofs.YtnikcplcdapjhaaGreat.corePlaysLaw
open Go Go.Sv Go.ChangeShapes Go.WideShapes Go.ChangeAt Go.RowKit
def eA3 : Enc (Int × Int × Int) := ePair (eInt .i64) (ePair (eInt .i64) (eInt .i64))
theorem Reads.a3 : Reads eA3 (.arr 3 (.int .i64) 1) (fun x => IntIn .i64 x.1 /\ IntIn .i64 x.2.1 /\ IntIn .i64 x.2.2) (fun _ => 0) := by
 intro A d cs h
 cases h with
 | @arr n sz e l vs hl hv hh =>
  match l, hl with
  | [d0, d1, d2], _ =>
   obtain ⟨n0, p0, q0, _⟩ := Reads.int .i64 A _ _ (hh 0 _ rfl)
   obtain ⟨n1, p1, q1, _⟩ := Reads.int .i64 A _ _ (hh 1 _ rfl)
   obtain ⟨n2, p2, q2, _⟩ := Reads.int .i64 A _ _ (hh 2 _ rfl)
   have p0 : (cs.drop 0).take 1 = [.int .i64 n0] := p0
   have p1 : (cs.drop 1).take 1 = [.int .i64 n1] := p1
   have p2 : (cs.drop 2).take 1 = [.int .i64 n2] := p2
   have hv : cs.length = 3 := hv
   match cs, hv with
   | [a, b, c], _ =>
    simp at p0 p1 p2
    subst p0 p1 p2
    exact ⟨(n0, n1, n2), ⟨_, _, rfl, rfl, _, _, rfl, rfl, rfl⟩, ⟨q0, q1, q2⟩, Nat.zero_le _⟩
def shInC : Sh := .struct [(.int .i64, 0, 1), (.int .i64, 1, 1), (Go.Sv.Tryz.shM, 2, 41)] 43
def eInP : Enc InC := ePair (eInt .i64) (ePair (eInt .i64) eMsg)
theorem Reads.inP : Reads eInP shInC (fun _ => True) (fun _ => 0) :=
 Reads.weak (Reads.struct (.cons (Reads.int .i64) rfl rfl (.cons (Reads.int .i64) rfl rfl (.last Go.Sv.Tryz.Reads.msg rfl))) rfl) (fun _ _ => trivial) fun _ => Nat.zero_le _
theorem Reads.inC : Reads Go.Sv.Tryz.eInC shInC (fun _ => True) (fun _ => 0) := by
 intro A d cs h
 obtain ⟨x, ⟨_, _, rfl, rfl, _, _, rfl, rfl, dv, iv, lv, rfl, q⟩, h2, h3⟩ := Reads.inP A d cs h
 exact ⟨x, ⟨dv, iv, lv, rfl, q⟩, h2, h3⟩
def shapes : List Sh := [.arr 3 (.int .i64) 1, .sl shInC 43]
theorem Bk3 : Tryz.f3.params.toList.mapM (sh Tryz.prog 9) = some shapes := by kernel_rfl
theorem runs (A : AS) (avs : List V) (dats : List Dat) (hst : Go.Sv.Start A) (ha : ArgsOk A shapes dats avs) : ∃ k A', evFn Tryz.prog Go.Sv.Tryz.HH k 3 avs A = some (.bool true, A') := by
 unfold shapes at ha
 cases ha with
 | cons h1 ha => cases ha with
  | cons h2 ha => cases ha with
   | nil =>
    obtain ⟨vs, rfl, h1⟩ := h1
    obtain ⟨x, ⟨_, _, rfl, rfl, _, _, rfl, rfl, rfl⟩, q, _⟩ := Reads.a3 A _ _ h1
    obtain ⟨l, ⟨v, hv, r1⟩, r2, b1⟩ := Reads.inC.sl A _ _ h2
    cases hv
    obtain ⟨w, A', hk, rfl⟩ := Go.Sv.Tryz.corePlays_spec (b := x.2.1) (WF.start hst) q.1 q.2.2 r1 r2.1
    obtain ⟨k, hk⟩ := hk.get
    exact ⟨k, A', hk⟩
theorem own : ownKnob Tryz.prog.godebug = none := by kernel_rfl
theorem Bd3 : Tryz.f3.params.toList.length = 2 := by kernel_rfl
set_option maxRecDepth 100000 in
theorem contract (H : Type) (enc : TypeId × Value -> H) (W : World) (base : Nat) (args : Array Value) (ds gs : List (DataW H)) (before : List MemPlace)
 (hval : ∀ (j : Nat) t v, Tryz.f3.params[j]? = some t -> args[j]? = some v -> Value.okWide Tryz.prog W .any base t v)
 (hW : DataW.Whole enc Tryz.prog Tryz.f3.params.toList Rows.corePlaysSpec.vars false W args.toList ds gs before) :
 Calls Tryz.prog 3 args W fun e W' => ∃ v, e = .returned v /\ Rows.corePlaysSpec.post enc Tryz.prog Tryz.f3 false true false false W args v W' :=
 AX8 (N := bulkWs ds) Go.Sv.Tryz.progOk Bk3 rfl (fun H ds hl => by
  rw [Bd3] at hl
  match ds, hl with
  | [d0, d1], _ => exact ⟨rfl, rfl, rfl⟩) rfl Tryz.underlying4 (fun A avs dats hst ha hbb => runs A avs dats hst ha) hval hW (Nat.le_refl _)
set_option maxRecDepth 100000 in
theorem lifted (os : Os) (started : os.Started) (H : Type) (enc : TypeId × Value -> H) :
 ReturnsInHanded {} Tryz.checked os 3 .any (Rows.corePlaysSpec.pre6 enc Tryz.prog Tryz.f3 Rows.corePlaysRow.domain false) (Rows.corePlaysSpec.post enc Tryz.prog Tryz.f3 false true false false) := by
 refine returnsInHanded_of_change (C := Tryz.checked) own started (by kernel_rfl) Tryz.func3
  (ChangeSpec.witness6 (enc := enc) (C := Tryz.checked) false ⟨#[], #[.agg #[.int .i64 0, .int .i64 0, .int .i64 0], .slice none 0 0], []⟩ 8 (by kernel_rfl) (by kernel_rfl) (by kernel_rfl) (by kernel_rfl)) ?_
 intro W base args ds gs before hval hW _ _
 exact contract H enc W base args ds gs before hval hW
theorem proved : Rows.CorePlaysSaid :=
 OpenClaim.holds_of_wide 3 Tryz.f3 rfl rfl rfl rfl rfl rfl rfl ⟨rfl, rfl, rfl, rfl, rfl⟩ rfl rfl rfl rfl rfl (by kernel_rfl) Tryz.func3 (by kernel_rfl)
  (of_decide_eq_true (by kernel_rfl)) (by unfold Func.isWrapper; first | (rw [if_pos (by decide +kernel)]; kernel_rfl) | (rw [if_neg (by decide +kernel)]; exact ⟨rfl, rfl⟩))
  (fun os started H enc _ => lifted os started H enc)
end Go.Proofs.YtnikcplcdapjhaaGreat.corePlaysLaw
