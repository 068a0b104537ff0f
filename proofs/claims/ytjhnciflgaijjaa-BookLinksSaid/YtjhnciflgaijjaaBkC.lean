/- BookMany: what is pending, and what is in the book. -/
import Derived.Test.YtjhnciflgaijjaaBkB
import Derived.Test.YtjhnciflgaijjaaSv4
set_option linter.unusedSimpArgs false
set_option linter.unusedVariables false
namespace Go.Sv.Try
open Go Go.Proofs
def cntL (l : List (Int × Int)) (w : Int) : Int := (lookL l w).getD 0
theorem Bw4 (l : List (Int × Int)) (w v w' : Int) : cntL (setL l w v) w' = if w' = w then v else cntL l w' := by
 unfold cntL; rw [Bq7]; split <;> rfl
def Told (l : List (Int × Int)) (x : Bts) : Prop := ∃ w n c, x = writeB (entM w n [c]) /\ (0 <= w /\ w <= 15) /\ 1 <= n /\ n <= cntL l w /\ n <= 1000
theorem Told.up {l : List (Int × Int)} {x : Bts} {w v : Int} (h : Told l x) (hv : cntL l w <= v) : Told (setL l w v) x := by
 obtain ⟨w', n, c, h1, h2, h3, h4, h5⟩ := h
 refine ⟨w', n, c, h1, h2, h3, ?_, h5⟩
 rw [Bw4]
 split
 . rename_i q; subst q; omega
 . exact h4
end Go.Sv.Try
namespace Go.Sv.Try
open Go Go.Proofs
abbrev evI : Int -> V := fun n => V.int .i64 n
def zOf (fo : Option Nat) : Nat -> Prop := fun f => fo = some f
structure BmI (A B : AS) (bp tp r rm : Nat) (pv : V) (L P : List Bts) (Ml : List (Int × Int)) (i : Nat) : Prop where
 fr : Fr S0 A B
 ex : ∃ Hs fl ft fh fo, IsBk (zOf fo) B bp tp r L Hs fl ft fh /\ Hs.length <= i /\ Lst (eSl eU8) (qHp (bkX (zOf fo) fl ft fh) B) B pv P fo /\ (∀ f, fo = some f -> fl ≠ some f /\ ft ≠ some f /\ fh ≠ some f) /\ ∀ f, bkX (zOf fo) fl ft fh f -> A.blk.length <= f
 b1 : A.blk.length <= bp
 b2 : A.blk.length <= tp
 b3 : A.maps.length <= r
 b4 : A.maps.length <= rm
 mp : MapIs B rm evI evI Ml
 ne : rm ≠ r
 cn : ∀ w, 0 <= cntL Ml w /\ cntL Ml w <= i
 en : ∀ x ∈ L ++ P, Told Ml x
 fo : P.foldl addE L = L ++ P
 ln : L.length + P.length <= i
section
variable {A B C : AS} {m : Hp} {Z Z' : Nat -> Prop} {bp tp r rm i : Nat} {L P : List Bts} {Hs : List HdP} {fl ft fh : Option Nat} {S : Loc -> Prop} {Ml : List (Int × Int)} {pv : V}
theorem Own.qHp {N : Nat} {v : V} {l : Bts} {X : Nat -> Prop} (h : Own N A v l.length 1 (bc l)) (hX : ∀ f, X f -> f < N) : Slc eU8 (Go.Sv.qHp X A) v l := by
 obtain ⟨_, _, ⟨rfl, h0⟩ | ⟨b, f, base, rfl, h1, h2, h3, _⟩⟩ := h
 . exact .inl ⟨rfl, List.eq_nil_of_length_eq_zero h0⟩
 . exact AP0 h1 fun q => by have := hX f q; omega
theorem BmI.fr0 (h : BmI A B bp tp r rm pv L P Ml i) (hf : Fr S0 B C) : BmI A C bp tp r rm pv L P Ml i := by
 obtain ⟨Hs, fl, ft, fh, fo, h1, h2, h3, h4, h5⟩ := h.ex
 exact { h with fr := h.fr.then0 hf, ex := ⟨Hs, fl, ft, fh, fo, h1.fr0 hf, h2, (h3.fr0 hf).mono (At2 hf), h4, h5⟩, mp := h.mp.fr hf fun q => q }
theorem BmI.push {D : AS} (h : BmI A D bp tp r rm pv L P Ml i) (hw : WF A) (hf : Fr S0 D B) {x : Bts} {u : V} {N : Nat} (ho : Own N B u x.length 1 (bc x)) (hN : D.blk.length <= N)
 (hfold : (P ++ [x]).foldl addE L = L ++ (P ++ [x])) (ht : Told Ml x) (hl : L.length + P.length + 1 <= i) (hi : i <= 1000) :
 ∃ pv' C, evAppend Try.prog 22 22 pv (.sl B.blk.length 0 1 1) (B.push ⟨[u], .arr B.blk.length 0⟩) = some (pv', C) /\ BmI A C bp tp r rm pv' L (P ++ [x]) Ml i := by
 obtain ⟨Hs, fl, ft, fh, fo, j1, h2, j3, h4, h5⟩ := h.ex
 obtain ⟨e1, e2, e3, e4, e5⟩ := j1.raw.lt
 have hu := Own.qHp (X := bkX (zOf fo) fl ft fh) ho fun f q => by
  rcases q with q | q | q | q
  . have := j3.famLt f q; omega
  . have := e3 f q; omega
  . have := e4 f q; omega
  . have := e5 f q; omega
 have h := h.fr0 hf
 have h1 := j1.fr0 hf
 have h3 := (j3.fr0 hf).mono (At2 hf)
 have hwB := h.fr.wf hw
 obtain ⟨pv', C, fo', p1, p2, p3, p4⟩ := h3.push (P := Try.prog) (t := 22) (tx := 22) (n := 1) rfl BO2 Try.underlying22 hwB (y := x) (cs' := [u]) ⟨u, rfl, hu⟩ (by omega) (by omega)
 obtain ⟨⟨_, bx1⟩, _, bx2⟩ := h1.raw.box
 obtain ⟨l1, l2, l3, l4, l5⟩ := h1.raw.lt
 have nm : ∀ k, ¬ inFamO B fo (.map k) := fun k q => by cases fo <;> exact q.elim
 have hz : ∀ f, zOf fo' f -> zOf fo f ∨ B.blk.length <= f := fun f q => p4.or q
 refine ⟨pv', C, p1, { fr := h.fr.newFam hw p3 fun f q => h5 f (.inl q), ex := ⟨Hs, fl, ft, fh, fo', h1.oth hwB p3 (Ac3 bx1) (Ac3 bx2) (nm r) (.famO fun f q => q) (fun f q z => ?_) hz, h2, p2.mono (An3 p3 (.famO fun f q => .inl q) hwB fun f q => ?_), fun f q => ?_, fun f q => ?_⟩, b1 := h.b1, b2 := h.b2, b3 := h.b3, b4 := h.b4, mp := h.mp.fr p3 (nm rm), ne := h.ne, cn := h.cn, en := fun y hy => ?_, fo := hfold, ln := by rw [List.length_append]; show L.length + (P.length + 1) <= i; omega }⟩
 . obtain ⟨e1, e2, e3⟩ := h4 f z
   rcases q with q | q | q
   . exact e1 q
   . exact e2 q
   . exact e3 q
 . rcases q with q | q
   . exact (hz f q).imp .inl id
   . exact .inl (.inr q)
 . rcases p4.or q with y | y
   . exact h4 f y
   . refine ⟨fun z => ?_, fun z => ?_, fun z => ?_⟩
     . have := l3 f z; omega
     . have := l4 f z; omega
     . have := l5 f z; omega
 . have := h.fr.len
   rcases q with q | q
   . rcases hz f q with y | y
     . exact h5 f (.inl y)
     . omega
   . exact h5 f (.inr q)
 . rw [<- List.append_assoc] at hy
   rcases List.mem_append.1 hy with hy | hy
   . exact h.en y hy
   . rw [List.mem_singleton.1 hy]; exact ht
end
end Go.Sv.Try
namespace Go.Sv.Try
open Go Go.Proofs
section
variable {A B C : AS} {m : Hp} {bp tp r rm i : Nat} {L P : List Bts} {Ml : List (Int × Int)} {pv : V}
theorem BmI.slc (h : BmI A B bp tp r rm pv L P Ml i) : Slc (eSl eU8) (arrHp B) pv P := by
 obtain ⟨Hs, fl, ft, fh, fo, h1, h2, h3, h4, h5⟩ := h.ex
 exact h3.slcArr (Bj0 _ _)
theorem BmI.size (h : BmI A B bp tp r rm pv L P Ml i) : EvF Try.prog HH 45 [.ptr bp 0] B (.int .i64 L.length) B := by
 obtain ⟨Hs, fl, ft, fh, fo, h1, h2, h3, h4, h5⟩ := h.ex
 exact Ag3 h1.raw
end
end Go.Sv.Try
