/- Audits: which heads aren't those of a list. -/
import Derived.Test.YtjhnciflgaijjaaAuC
import Derived.Test.YtjhnciflgaijjaaSv4
import Derived.Test.YtjhnciflgaijjaaAuA
set_option linter.unusedSimpArgs false
set_option linter.unusedVariables false
namespace Go.Sv
open Go
abbrev HdP := Int × Int × Bts
def rightD (ls : List Bts) (h : HdP) : Prop := 0 <= h.2.1 /\ h.2.1 <= ls.length /\ rootR ((ls.map leafH).take h.2.1.toNat) = h.2.2
instance (ls : List Bts) (h : HdP) : Decidable (rightD ls h) := by unfold rightD; infer_instance
end Go.Sv
namespace Go.Sv.Try
open Go Go.Proofs
section
variable {A B : AS} {m : Hp}
def hdC (x : HdP) : List V := .int .i64 x.1 :: .int .i64 x.2.1 :: bc x.2.2
def eHd : Enc HdP := ePair (eInt .i64) (ePair (eInt .i64) (eB 32 (by decide)))
theorem Bx6 {x : HdP} (h : x.2.2.length = 32) : (hdC x).length = 34 := by simp [hdC, Aa7, h]
def hd0 : HdP := (0, 0, z32s)
theorem B29 : (zeroT Try.prog 34).bind V.cells = some (hdC hd0) := by kernel_rfl
end
end Go.Sv.Try
namespace Go.Sv.Try
open Go Go.Proofs
section
variable {A B : AS} {m : Hp}
end
end Go.Sv.Try
namespace Go.Sv.Try
open Go Go.Proofs
section
variable {A B : AS} {m : Hp}
end
end Go.Sv.Try
namespace Go.Sv.Try
open Go Go.Proofs
section
variable {A B : AS} {m : Hp}
end
end Go.Sv.Try
