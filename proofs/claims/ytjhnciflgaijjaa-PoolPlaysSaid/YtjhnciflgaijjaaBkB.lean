/- Books: what they answer. -/
import Derived.Test.YtjhnciflgaijjaaBkA
set_option linter.unusedSimpArgs false
set_option linter.unusedVariables false
open Nat renaming reduceLT → Q0, reduceBEq → Q1, reduceEqDiff → Q2, reduceAdd → Q3
open Int renaming reduceEq → Q4, reduceLT → Q5, reduceLE → Q6, reduceGT → Q7, reduceGE → Q8
namespace Go.Sv.Try
open Go Go.Proofs
section
variable {A B C : AS} {m : Hp} {Z Z' : Nat -> Prop} {bp tp r : Nat} {M : List ((Int × Int) × Nat)} {N L : List Bts} {Hs : List HdP} {fl ft fh : Option Nat} {S : Loc -> Prop}
theorem AN5 (h : BkR Z A bp tp r M N L Hs fl ft fh) (who num : Int) :
 EvF Try.prog HH 50 [.ptr bp 0, .int .i64 who, .int .i64 num] A (match lookL M (who, num) with | some i => .tup [.int .i64 (i : Int), .int .i64 0] | none => .tup [.int .i64 0, .int .i64 4]) A := by
 obtain ⟨lv, hv, b1, b2, b3⟩ := h.ex
 have hlk := h.mp.look (P := Try.prog) kNm mtB zIB (who, num) true
 have key : ∃ w A', EvF Try.prog HH 50 [.ptr bp 0, .int .i64 who, .int .i64 num] A w A' /\ w = (match lookL M (who, num) with | some i => .tup [.int .i64 (i : Int), .int .i64 0] | none => .tup [.int .i64 0, .int .i64 4]) /\ A' = A := by
  refine Aa5 rfl Try.func50 (by unfold Try.f50; rfl) Try.ntmps50 (by unfold Try.f50; rfl) (by simp) ?_
  cases hq : lookL M (who, num) with
  | some i =>
   rw [hq] at hlk; simp only [if_true] at hlk
   simp only [RT, Q0, Q1, Q2, Q3, Q4, Q5, Q6, Q7, Q8, BR5, Ap2 b1, Bx8, hlk]
  | none =>
   rw [hq] at hlk; simp only [if_true] at hlk
   simp only [RT, Q0, Q1, Q2, Q3, Q4, Q5, Q6, Q7, Q8, BR5, Ap2 b1, Bx8, hlk]
 obtain ⟨_, _, k, rfl, rfl⟩ := key
 exact k
end
end Go.Sv.Try
namespace Go.Sv.Try
open Go Go.Proofs
theorem A93 {l : List Bts} (h1 : l.length <= 64) (h2 : lens l <= 131072) : checkM (batM l) = 0 := by
 unfold checkM
 rw [if_neg (by simp [batM, msg0]), if_neg ?_, if_neg ?_]
 . simp [batM, msg0]; omega
 . simp [batM, msg0, M.nums, numBad]
theorem Bn2 {l : List Bts} (h1 : l.length <= 8) (h2 : lens l <= 131072) : joinE l = 0 := by
 unfold joinE
 rw [if_neg (by omega)]
 exact A93 (by omega) h2
theorem Bf2 {l : List Bts} (h1 : l.length <= 8) (h : checkM (batM l) = 0) : splitB (writeB (batM l)) = l := by
 obtain ⟨e1, e2⟩ := Bx4 (A84 (AI6 h) ⟨rfl, by simp [batM, msg0]⟩)
 unfold splitB
 rw [e1, e2, if_neg]
 . rfl
 . rintro (q | q | q)
   . exact q rfl
   . exact q rfl
   . have : l.length > 8 := q; omega
end Go.Sv.Try
namespace Go.Sv.Try
open Go Go.Proofs
section
variable {A B C : AS} {m : Hp} {Z Z' : Nat -> Prop} {bp tp r : Nat} {M : List ((Int × Int) × Nat)} {N L : List Bts} {Hs : List HdP} {fl ft fh : Option Nat} {S : Loc -> Prop}
theorem AD5 {fo : Option Nat} (hw : WF A) (hf : Fr S0 A B) (h : ∀ f, fo = some f -> A.blk.length <= f) {z : Loc} (hz : inFamO B fo z) : z.newTo A := by
 rcases Ab6 hf hz with q | q
 . cases fo with
   | none => exact q.elim
   | some f =>
    have hlo := h f rfl
    cases z with
    | row b => obtain ⟨k, base, z1, z2⟩ := q; have := hw b k _ base z1 z2; omega
    | fam g => show A.blk.length <= g; rw [show g = f from q]; exact hlo
    | map r => exact q.elim
    | loop r => exact q.elim
    | it r => exact q.elim
 . exact q
theorem AN6 (hw : WF A) (hf : Fr S0 A B) (h1 : A.blk.length <= bp) (h2 : A.blk.length <= tp) (h3 : A.maps.length <= r) (a1 : ∀ f, fl = some f -> A.blk.length <= f) (a2 : ∀ f, ft = some f -> A.blk.length <= f) (a3 : ∀ f, fh = some f -> A.blk.length <= f) :
 ∀ z, bkS B bp tp r fl ft fh z -> z.newTo A := by
 rintro z (q | q | q | q | q | q)
 . subst q; exact h1
 . subst q; exact h2
 . subst q; exact h3
 . exact AD5 hw hf a1 q
 . exact AD5 hw hf a2 q
 . exact AD5 hw hf a3 q
end
end Go.Sv.Try
namespace Go.Sv.Try
open Go Go.Proofs
section
variable {A B C : AS} {m : Hp} {Z Z' : Nat -> Prop} {bp tp r : Nat} {M : List ((Int × Int) × Nat)} {N L : List Bts} {Hs : List HdP} {fl ft fh : Option Nat} {S : Loc -> Prop}
theorem B33 (b : Nat) : evEq Try.prog 84 (.ptr b 0) .pnil = some false := by kernel_rfl
end
end Go.Sv.Try
namespace Go.Sv.Try
open Go Go.Proofs
section
variable {A B C : AS} {m : Hp}
theorem ld2 {b : Nat} {x y : Int} {k : BK} (h : A.blk[b]? = some ⟨[.int .i64 x, .int .i64 y], k⟩) : evLoad Try.prog 3 (.ptr b 0) A = some (.int .i64 x) /\ evLoad Try.prog 3 (.ptr b 1) A = some (.int .i64 y) :=
 ⟨by rw [Ab3 ag3 h]; rfl, by rw [Ab3 ag3 h]; rfl⟩
theorem By0 {τ : Type} {E : Enc τ} {v : V} {l : List τ} (h : Slc E m v l) (hv : v = .snil) : l = [] := by
 rcases h with ⟨_, h⟩ | ⟨b, o, cs, h, _⟩
 . exact h
 . rw [hv] at h; cases h
end
end Go.Sv.Try
