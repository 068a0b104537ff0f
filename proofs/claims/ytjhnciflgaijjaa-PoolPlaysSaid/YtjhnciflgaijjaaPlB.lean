/- PoolFair, on the abstract machine. -/
import Derived.Test.YtjhnciflgaijjaaPlA
set_option linter.unusedSimpArgs false
set_option linter.unusedVariables false
namespace Go.Sv.Try
open Go Go.Proofs
section
variable {A B C : AS} {m : Hp} {X Y : Nat -> Prop} {pp bp tp r : Nat} {P L : List Bts} {fo fl ft fh : Option Nat} {S : Loc -> Prop} {Hs : List HdP}
theorem B37 (b : Nat) : evEq Try.prog 41 (.ptr b 0) .pnil = some false := by kernel_rfl
theorem PB.oth (h : PB X A B pp P fo bp tp r L Hs fl ft fh) (hw : WF A) (hf : Fr S B C) (h1 : ¬ S (.row pp)) (h2 : ¬ S (.row bp)) (h3 : ¬ S (.row tp)) (h4 : ¬ S (.map r)) (hT : Tch X B S) (hA : ∀ z, S z -> z.newTo A) (hY : ∀ f, Y f -> X f ∨ B.blk.length <= f) : PB Y A C pp P fo bp tp r L Hs fl ft fh := by
 have hwB := h.fr.wf hw
 have lb := A55 h.bk.raw
 have lo := h.po.lt.2
 refine { h with fr := h.fr.trans hf fun z q => .inr (hA z q), po := h.po.oth hwB hf h1 (hT.mono fun f q => .inl q) (fun f q z => ?_) (fun f q => ?_), bk := h.bk.oth hwB hf h2 h3 h4 (hT.mono fun f q => .inl q) (fun f q z => ?_) (fun f q => ?_), dx := fun f q => ?_ }
 . rcases z with z | z
   . exact (h.dx f z).2 q
   . exact h.d f z q
 . rcases q with q | q
   . exact (hY f q).imp .inl id
   . exact .inl (.inr q)
 . rcases z with z | z | z | z
   . exact (h.dx f z).1 q
   . exact h.d f q z
   . cases z
   . cases z
 . rcases q with q | q
   . exact (hY f q).imp .inl id
   . exact .inl (.inr q)
 . rcases hY f q with y | y
   . exact h.dx f y
   . exact ⟨fun z => by have := lb f z; omega, fun z => by have := lo f z; omega⟩
theorem PB.pp_box (h : PB X A B pp P fo bp tp r L Hs fl ft fh) : (∃ cs, B.blk[pp]? = some ⟨cs, .var⟩) /\ (∃ cs, B.blk[bp]? = some ⟨cs, .var⟩) /\ ∃ cs, B.blk[tp]? = some ⟨cs, .var⟩ := by
 obtain ⟨lv, y1, _⟩ := h.po.ex
 exact ⟨⟨_, y1⟩, h.bk.raw.box⟩
end
end Go.Sv.Try
namespace Go.Sv.Try
open Go Go.Proofs
section
variable {A B C : AS} {m : Hp} {X Y : Nat -> Prop} {pp bp tp r : Nat} {P L : List Bts} {fo fl ft fh : Option Nat} {S : Loc -> Prop} {Hs : List HdP}
theorem PB.loop {k : Nat} (h : PB X A B pp P fo bp tp r L Hs fl ft fh) (hw : WF A) (hf : Fr (· = .loop k) B C) (h2 : A.loops.length <= k) : PB X A C pp P fo bp tp r L Hs fl ft fh :=
 h.oth hw hf (fun q => by cases q) (fun q => by cases q) (fun q => by cases q) (fun q => by cases q) (fun b k q => by cases q) (fun z q => by subst q; exact h2) (fun f q => .inl q)
theorem PB.box {b : Nat} {cs : List V} (h : PB X A B pp P fo bp tp r L Hs fl ft fh) (hw : WF A) (hf : Fr (· = .row b) B C) (hb : B.blk[b]? = some ⟨cs, .var⟩) (h1 : b ≠ pp /\ b ≠ bp /\ b ≠ tp) (h2 : A.blk.length <= b) : PB X A C pp P fo bp tp r L Hs fl ft fh :=
 h.oth hw hf (fun q => by cases q; exact h1.1 rfl) (fun q => by cases q; exact h1.2.1 rfl) (fun q => by cases q; exact h1.2.2 rfl) (fun q => by cases q) (.box hb) (fun z q => by subst q; exact h2) (fun f q => .inl q)
theorem BJ8 (a b : Int) : evMM (fun x y => if y < x then y else x) [.int .i64 a, .int .i64 b] = some (.int .i64 (min a b)) := by
 show foldMM _ _ _ _ = _
 simp only [foldMM, if_true]
 congr 2
 split <;> omega
theorem Bn9 {P : List Bts} {i : Nat} {x : Bts} (hx : P[i]? = some x) (w : Int) : (cntP (P.take (i + 1)) w : Int) = if w = (nmOf x).1 then (cntP (P.take i) (nmOf x).1 : Int) + 1 else cntP (P.take i) w := by
 unfold cntP
 rw [Au7 hx]
 by_cases q : w = (nmOf x).1
 . subst q; simp
 . have : ¬ (nmOf x).1 = w := fun z => q z.symm
   simp [q, this]
theorem BJ9 (P : List Bts) (i : Nat) (w : Int) : cntP (P.take i) w <= cntP P w := ((List.take_sublist i P).filter _).length_le
end
end Go.Sv.Try
