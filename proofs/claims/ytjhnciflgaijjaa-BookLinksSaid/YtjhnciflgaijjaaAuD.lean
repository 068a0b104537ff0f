/- Audits: which heads aren't those of a list. -/
import Derived.Test.YtjhnciflgaijjaaAuC
import Derived.Test.YtjhnciflgaijjaaSv4
import Derived.Test.YtjhnciflgaijjaaAuA
set_option linter.unusedSimpArgs false
set_option linter.unusedVariables false
namespace Go.Sv
open Go
abbrev HdP := Int × Int × Bts
def rightD (ls : List Bts) (h : HdP) : Prop := 0 <= h.2.1 /\ h.2.1 <= ls.length /\ rootR ((ls.map leafH).take h.2.1.toNat) = h.2.2
instance (ls : List Bts) (h : HdP) : Decidable (rightD ls h) := by unfold rightD; infer_instance
end Go.Sv
namespace Go.Sv.Try
open Go Go.Proofs
section
variable {A B : AS} {m : Hp}
def hdC (x : HdP) : List V := .int .i64 x.1 :: .int .i64 x.2.1 :: bc x.2.2
def eHd : Enc HdP := ePair (eInt .i64) (ePair (eInt .i64) (eB 32 (by decide)))
theorem BQ6 {w : V} {x : HdP} (h : eHd.W m w x) : w = .agg (hdC x) /\ x.2.2.length = 32 := by
 obtain ⟨cs, rfl, h⟩ := h
 obtain ⟨_, _, rfl, rfl, _, _, rfl, rfl, rfl, h⟩ := h
 exact ⟨rfl, h⟩
theorem Ao1 {x : HdP} (h : x.2.2.length = 32) : (hdC x).length = 34 := by simp [hdC, Aa5, h]
theorem Bc8 (x : HdP) : (hdC x).all V.one = true := by simp only [hdC, List.all_cons, Ae0]; rfl
def hd0 : HdP := (0, 0, z32s)
theorem Bv9 : (zeroT Try.prog 34).bind V.cells = some (hdC hd0) := by kernel_rfl
theorem BF8 {x : HdP} (h : x.2.2.length = 32) : ∃ A', evStore Try.prog 34 (.ptr A.blk.length 0) (.agg (hdC x)) (A.push ⟨hdC hd0, .var⟩) = some A' /\ Fr S0 A A' /\ A'.blk[A.blk.length]? = some ⟨hdC x, .var⟩ := by
 obtain ⟨A2, s1, s2, s3, s4⟩ := Ag4 (P := Try.prog) A (z := hdC hd0) (t := 34) (x := .agg (hdC x)) (cs := hdC x) rfl (by rw [Ao1 h]; exact BD7) (by rw [Ao1 h]; rfl) (Bc8 x)
 exact ⟨A2, s1, s2, s3⟩
theorem BO7 (b : Nat) : evFieldAddr Try.prog 34 (.ptr b 0) 0 = some (.ptr b 0) /\ evFieldAddr Try.prog 34 (.ptr b 0) 1 = some (.ptr b 1) /\ evFieldAddr Try.prog 34 (.ptr b 0) 2 = some (.ptr b 2) := ⟨by kernel_rfl, by kernel_rfl, by kernel_rfl⟩
theorem Bu1 {b : Nat} {k : BK} {x : HdP} (hb : A.blk[b]? = some ⟨hdC x, k⟩) (h : x.2.2.length = 32) : evLoad Try.prog 3 (.ptr b 0) A = some (.int .i64 x.1) /\ evLoad Try.prog 3 (.ptr b 1) A = some (.int .i64 x.2.1) /\ evLoad Try.prog 32 (.ptr b 2) A = some (.agg (bc x.2.2)) /\ evLoad Try.prog 34 (.ptr b 0) A = some (.agg (hdC x)) :=
 ⟨by rw [Ab9 ag3 hb]; rfl, by rw [Ab9 ag3 hb]; rfl, At.load hb (o := 2) ⟨[.int .i64 x.1, .int .i64 x.2.1], [], by simp [hdC], rfl⟩ AW4 As0 (by rw [Aa5, h]), At.load hb (At.all _) BY0 BD7 (Ao1 h)⟩
theorem BZ9 {x y : Bts} (hx : x.length = 32) (hy : y.length = 32) : evEq Try.prog 32 (.agg (bc x)) (.agg (bc y)) = some (decide (x = y)) :=
 A62 (n := 32) (by kernel_rfl) AW4 (by kernel_rfl) hx hy
end
end Go.Sv.Try
namespace Go.Sv.Try
open Go Go.Proofs
section
variable {A B : AS} {m : Hp}
end
end Go.Sv.Try
namespace Go.Sv.Try
open Go Go.Proofs
section
variable {A B : AS} {m : Hp}
end
end Go.Sv.Try
namespace Go.Sv.Try
open Go Go.Proofs
section
variable {A B : AS} {m : Hp}
end
end Go.Sv.Try
