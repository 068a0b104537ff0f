/- Books: what they answer. -/
import Derived.Test.YtjhnciflgaijjaaBkA
set_option linter.unusedSimpArgs false
set_option linter.unusedVariables false
open Nat renaming reduceLT → Q0, reduceBEq → Q1, reduceEqDiff → Q2, reduceAdd → Q3
open Int renaming reduceEq → Q4, reduceLT → Q5, reduceLE → Q6, reduceGT → Q7, reduceGE → Q8
namespace Go.Sv.Try
open Go Go.Proofs
section
variable {A B C : AS} {m : Hp} {Z Z' : Nat -> Prop} {bp tp r : Nat} {M : List ((Int × Int) × Nat)} {N L : List Bts} {Hs : List HdP} {fl ft fh : Option Nat} {S : Loc -> Prop}
theorem A38 : evBuild Try.prog 34 [] = some (.agg (hdC hd0)) := by kernel_rfl
theorem AQ1 : hd0.2.2.length = 32 := rfl
theorem BF6 {b : Nat} {x y : HdP} (h : A.blk[b]? = some ⟨hdC x, .var⟩) (hx : x.2.2.length = 32) (hy : y.2.2.length = 32) : ∃ A', evStore Try.prog 34 (.ptr b 0) (.agg (hdC y)) A = some A' /\ Fr (· = .row b) A A' /\ A'.blk[b]? = some ⟨hdC y, .var⟩ := by
 obtain ⟨A', s1, s2, s3, s4⟩ := Ab6 (P := Try.prog) (t := 34) (o := 0) (x := .agg (hdC y)) (cs := hdC y) h rfl (by rw [Aj3 hy]; exact Bi9) (by rw [Aj3 hy, Aj3 hx]; decide) (A36 y)
 rw [Ac6 (by rw [Aj3 hy, Aj3 hx])] at s3
 exact ⟨A', s1, s2, s3⟩
def headAt (Hs : List HdP) (k : Int) : Option HdP := if k < 1 then none else Hs[(k - 1).toNat]?
set_option maxRecDepth 10000 in
theorem AE5 (hw : WF A) (h : BkR Z A bp tp r M N L Hs fl ft fh) (hH : Hs.length <= 1000000) (k : Int) :
 ∃ w A', EvF Try.prog HH 48 [.ptr bp 0, .int .i64 k] A w A' /\ Fr S0 A A' /\ (match headAt Hs k with | some x => w = .tup [.agg (hdC x), .int .i64 0] /\ x.2.2.length = 32 | none => w = .tup [.agg (hdC hd0), .int .i64 4]) := by
 refine Aa9 rfl Try.func48 (by unfold Try.f48; rfl) Try.ntmps48 (by unfold Try.f48; rfl) (by simp) ?_
 obtain ⟨A1, e1, f1, r1, n1⟩ := Ab3 A (hdC hd0)
 obtain ⟨b4, hb4⟩ : ∃ b, b = A.blk.length := ⟨_, rfl⟩
 rw [<- hb4] at r1
 have h1 := h.fr0 f1
 obtain ⟨lv, hv, b1, b2, b3⟩ := h1.ex
 have hlen := fun B => b3.len (P := Try.prog) Try.underlying23 B
 have fin : ∀ {x : HdP}, x.2.2.length = 32 -> ∃ C, evStore Try.prog 34 (.ptr b4 0) (.agg (hdC x)) A1 = some C /\ evLoad Try.prog 34 (.ptr b4 0) C = some (.agg (hdC x)) /\ Fr S0 A C := fun {x} hx => by
  obtain ⟨C, s1, s2, s3⟩ := BF6 r1 AQ1 hx
  exact ⟨C, s1, (BC7 s3 hx).2.2.2, f1.row_ s2 (by omega)⟩
 by_cases c1 : k < 1
 . have e : headAt Hs k = none := if_pos c1
   obtain ⟨C, s1, s2, s3⟩ := fin AQ1
   simp only [RT, Q0, Q1, Q2, Q3, Q4, Q5, Q6, Q7, Q8, Bk5, <- e1, <- hb4, decide_eq_true c1, A38, s1, s2]
   rw [e]; exact ⟨s3, trivial⟩
 have e : headAt Hs k = Hs[(k - 1).toNat]? := if_neg c1
 by_cases c2 : k > Hs.length
 . have e2 : Hs[(k - 1).toNat]? = none := List.getElem?_eq_none (by omega)
   obtain ⟨C, s1, s2, s3⟩ := fin AQ1
   simp only [RT, Q0, Q1, Q2, Q3, Q4, Q5, Q6, Q7, Q8, Bk5, <- e1, <- hb4, decide_eq_false c1, Bk8, Aj4 b1, hlen, decide_eq_true c2, A38, s1, s2]
   rw [e, e2]; exact ⟨s3, trivial⟩
 obtain ⟨x, hx⟩ := Ad6 (l := Hs) (i := (k - 1).toNat) (by omega)
 obtain ⟨b, o, c, g3, g4, g5⟩ := b3.at (P := Try.prog) (k := .i64) (Hp.on_emp A1) Try.underlying23 Bi9 BI4 hx
 obtain ⟨rfl, hx32⟩ := Bu5 g5
 obtain ⟨C, s1, s2, s3⟩ := fin hx32
 have hwk : IntKind.i64.wrap (k - 1) = (((k - 1).toNat : Nat) : Int) := by rw [Ae9 (by omega) (by omega)]; omega
 simp only [RT, Q0, Q1, Q2, Q3, Q4, Q5, Q6, Q7, Q8, Bk5, <- e1, <- hb4, decide_eq_false c1, Bk8, Aj4 b1, hlen, decide_eq_false c2, hwk, g3, g4, s1, s2]
 rw [e, hx]; exact ⟨s3, rfl, hx32⟩
set_option maxRecDepth 10000 in
theorem AJ9 (hw : WF A) (h : BkR Z A bp tp r M N L Hs fl ft fh) (hl : ∀ x ∈ L, x.length <= 1000000000) (i : Int) :
 ∃ w A', EvF Try.prog HH 46 [.ptr bp 0, .int .i64 i] A w A' /\ Fr S0 A A' /\ ((i < 0 ∨ (L.length : Int) <= i) /\ w = .tup [.snil, .int .i64 4] ∨ ∃ n x c, i = ((n : Nat) : Int) /\ L[n]? = some x /\ w = .tup [.sl c 0 x.length 1, .int .i64 0] /\ A'.blk[c]? = some ⟨bc x, .arr A.blk.length 0⟩ /\ A.blk.length <= c) := by
 refine Aa9 rfl Try.func46 (by unfold Try.f46; rfl) Try.ntmps46 (by unfold Try.f46; rfl) (by simp) ?_
 obtain ⟨lv, hv, b1, b2, b3⟩ := h.ex
 have hlen := fun B => b2.len (P := Try.prog) Try.underlying22 B
 by_cases c1 : i < 0
 . simp only [RT, Q0, Q1, Q2, Q3, Q4, Q5, Q6, Q7, Q8, decide_eq_true c1]
   exact ⟨.refl _ _, .inl (.inl c1)⟩
 by_cases c2 : i >= L.length
 . simp only [RT, Q0, Q1, Q2, Q3, Q4, Q5, Q6, Q7, Q8, decide_eq_false c1, Bk8, Aj4 b1, hlen, decide_eq_true c2]
   exact ⟨.refl _ _, .inl (.inr c2)⟩
 obtain ⟨n, rfl⟩ := Int.eq_ofNat_of_zero_le (show 0 <= i by omega)
 obtain ⟨x, hx⟩ := Ad6 (l := L) (i := n) (by omega)
 have f1 := Fr.pushArr A []
 have r1 : (A.push ⟨[], .arr A.blk.length 0⟩).blk[bp]? = _ := f1.row0 b1
 have b2' := b2.fr0 f1
 obtain ⟨b, o, c, g3, g4, g5⟩ := b2'.at (P := Try.prog) (k := .i64) ((A85 _ A).fr0 f1) Try.underlying22 A14 A95 hx
 rw [Az3] at g5
 have := hl x (List.mem_of_getElem? hx)
 obtain ⟨c', B, y1, y2, y3, y4, y5⟩ := AD7 (P := Try.prog) (t := 44) (tx := 44) hw BC9 Try.underlying44 g5 (A85 _ A) (by omega) (by omega)
 simp only [RT, Q0, Q1, Q2, Q3, Q4, Q5, Q6, Q7, Q8, decide_eq_false c1, Bk8, Aj4 b1, hlen, decide_eq_false c2, Bv0, Aj4 r1, g3, g4, y1]
 exact ⟨y5, .inr ⟨n, x, c', rfl, hx, rfl, y2, y4⟩⟩
end
end Go.Sv.Try
namespace Go.Sv.Try
open Go Go.Proofs
end Go.Sv.Try
namespace Go.Sv.Try
open Go Go.Proofs
section
variable {A B C : AS} {m : Hp} {Z Z' : Nat -> Prop} {bp tp r : Nat} {M : List ((Int × Int) × Nat)} {N L : List Bts} {Hs : List HdP} {fl ft fh : Option Nat} {S : Loc -> Prop}
theorem AQ2 {fo : Option Nat} (hw : WF A) (hf : Fr S0 A B) (h : ∀ f, fo = some f -> A.blk.length <= f) {z : Loc} (hz : inFamO B fo z) : z.newTo A := by
 rcases Af4 hf hz with q | q
 . cases fo with
   | none => exact q.elim
   | some f =>
    have hlo := h f rfl
    cases z with
    | row b => obtain ⟨k, base, z1, z2⟩ := q; have := hw b k _ base z1 z2; omega
    | fam g => show A.blk.length <= g; rw [show g = f from q]; exact hlo
    | map r => exact q.elim
    | loop r => exact q.elim
    | it r => exact q.elim
 . exact q
theorem Bl2 (hw : WF A) (hf : Fr S0 A B) (h1 : A.blk.length <= bp) (h2 : A.blk.length <= tp) (h3 : A.maps.length <= r) (a1 : ∀ f, fl = some f -> A.blk.length <= f) (a2 : ∀ f, ft = some f -> A.blk.length <= f) (a3 : ∀ f, fh = some f -> A.blk.length <= f) :
 ∀ z, bkS B bp tp r fl ft fh z -> z.newTo A := by
 rintro z (q | q | q | q | q | q)
 . subst q; exact h1
 . subst q; exact h2
 . subst q; exact h3
 . exact AQ2 hw hf a1 q
 . exact AQ2 hw hf a2 q
 . exact AQ2 hw hf a3 q
end
end Go.Sv.Try
namespace Go.Sv.Try
open Go Go.Proofs
section
variable {A B C : AS} {m : Hp} {Z Z' : Nat -> Prop} {bp tp r : Nat} {M : List ((Int × Int) × Nat)} {N L : List Bts} {Hs : List HdP} {fl ft fh : Option Nat} {S : Loc -> Prop}
theorem BN4 (b : Nat) : evEq Try.prog 84 (.ptr b 0) .pnil = some false := by kernel_rfl
end
end Go.Sv.Try
namespace Go.Sv.Try
open Go Go.Proofs
section
variable {A B C : AS} {m : Hp}
theorem ld2 {b : Nat} {x y : Int} {k : BK} (h : A.blk[b]? = some ⟨[.int .i64 x, .int .i64 y], k⟩) : evLoad Try.prog 3 (.ptr b 0) A = some (.int .i64 x) /\ evLoad Try.prog 3 (.ptr b 1) A = some (.int .i64 y) :=
 ⟨by rw [Ab9 ag3 h]; rfl, by rw [Ab9 ag3 h]; rfl⟩
end
end Go.Sv.Try
