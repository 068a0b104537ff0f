/- Audits: which heads aren't those of a list. -/
import Derived.Test.YtjhnciflgaijjaaAuC
import Derived.Test.YtjhnciflgaijjaaSv4
import Derived.Test.YtjhnciflgaijjaaAuA
set_option linter.unusedSimpArgs false
set_option linter.unusedVariables false
open Nat renaming reduceLT → Q0, reduceBEq → Q1, reduceEqDiff → Q2, reduceAdd → Q3
open Int renaming reduceEq → Q4, reduceLT → Q5, reduceLE → Q6, reduceGT → Q7, reduceGE → Q8
namespace Go.Sv
open Go
abbrev HdP := Int × Int × Bts
def rightD (ls : List Bts) (h : HdP) : Prop := 0 <= h.2.1 /\ h.2.1 <= ls.length /\ rootR ((ls.map leafH).take h.2.1.toNat) = h.2.2
instance (ls : List Bts) (h : HdP) : Decidable (rightD ls h) := by unfold rightD; infer_instance
def badP (ls : List Bts) (hs : List HdP) (i : Nat) : Bool := match hs[i]? with
 | some h => !decide (rightD ls h)
 | none => false
def badH (ls : List Bts) (hs : List HdP) : List Nat := (List.range hs.length).filter (badP ls hs)
theorem Bb1 {P : Program} {H : Hints} {f : FuncId} {nt : Nat} {a : Kt} {k2 : List Kt} {x : Ex} {e : Env} {A : AS} {Q : Ex -> Env -> AS -> Prop} (R : Ex -> Env -> AS -> Prop) (h : Run P H f nt [a] x e A R) (hk : ∀ x e A, R x e A -> Run P H f nt k2 x e A Q) : Run P H f nt (a :: k2) x e A Q := Aj7 (k1 := [a]) h hk
theorem Bk4 {p : Nat -> Bool} {i n : Nat} (h : i < n) (hp : p i = true) : ((List.range n).filter p)[((List.range i).filter p).length]? = some i := by
 obtain ⟨k, rfl⟩ : ∃ k, n = i + 1 + k := ⟨n - (i + 1), by omega⟩
 rw [List.range_add, List.range_succ, List.filter_append, List.filter_append, List.append_assoc, List.getElem?_append_right (Nat.le_refl _), Nat.sub_self]
 simp [hp]
theorem AJ5 {p : Nat -> Bool} {i : Nat} : ((List.range (i + 1)).filter p) = (List.range i).filter p ++ (if p i = true then [i] else []) := by
 rw [List.range_succ, List.filter_append]
 congr 1
 cases h : p i <;> simp [h]
end Go.Sv
namespace Go.Sv.Try
open Go Go.Proofs
section
variable {A B : AS} {m : Hp}
def hdC (x : HdP) : List V := .int .i64 x.1 :: .int .i64 x.2.1 :: bc x.2.2
def eHd : Enc HdP := ePair (eInt .i64) (ePair (eInt .i64) (eB 32 (by decide)))
theorem Bu5 {w : V} {x : HdP} (h : eHd.W m w x) : w = .agg (hdC x) /\ x.2.2.length = 32 := by
 obtain ⟨cs, rfl, h⟩ := h
 obtain ⟨_, _, rfl, rfl, _, _, rfl, rfl, rfl, h⟩ := h
 exact ⟨rfl, h⟩
theorem Aj3 {x : HdP} (h : x.2.2.length = 32) : (hdC x).length = 34 := by simp [hdC, Ab0, h]
theorem A36 (x : HdP) : (hdC x).all V.one = true := by simp only [hdC, List.all_cons, Aj1]; rfl
def hd0 : HdP := (0, 0, z32s)
theorem Bk5 : (zeroT Try.prog 34).bind V.cells = some (hdC hd0) := by kernel_rfl
theorem Bu6 {x : HdP} (h : x.2.2.length = 32) : ∃ A', evStore Try.prog 34 (.ptr A.blk.length 0) (.agg (hdC x)) (A.push ⟨hdC hd0, .var⟩) = some A' /\ Fr S0 A A' /\ A'.blk[A.blk.length]? = some ⟨hdC x, .var⟩ := by
 obtain ⟨A2, s1, s2, s3, s4⟩ := Ai2 (P := Try.prog) A (z := hdC hd0) (t := 34) (x := .agg (hdC x)) (cs := hdC x) rfl (by rw [Aj3 h]; exact Bi9) (by rw [Aj3 h]; rfl) (A36 x)
 exact ⟨A2, s1, s2, s3⟩
theorem BM9 (b : Nat) : evFieldAddr Try.prog 34 (.ptr b 0) 0 = some (.ptr b 0) /\ evFieldAddr Try.prog 34 (.ptr b 0) 1 = some (.ptr b 1) /\ evFieldAddr Try.prog 34 (.ptr b 0) 2 = some (.ptr b 2) := ⟨by kernel_rfl, by kernel_rfl, by kernel_rfl⟩
theorem BC7 {b : Nat} {k : BK} {x : HdP} (hb : A.blk[b]? = some ⟨hdC x, k⟩) (h : x.2.2.length = 32) : evLoad Try.prog 3 (.ptr b 0) A = some (.int .i64 x.1) /\ evLoad Try.prog 3 (.ptr b 1) A = some (.int .i64 x.2.1) /\ evLoad Try.prog 32 (.ptr b 2) A = some (.agg (bc x.2.2)) /\ evLoad Try.prog 34 (.ptr b 0) A = some (.agg (hdC x)) :=
 ⟨by rw [Ab9 ag3 hb]; rfl, by rw [Ab9 ag3 hb]; rfl, At.load hb (o := 2) ⟨[.int .i64 x.1, .int .i64 x.2.1], [], by simp [hdC], rfl⟩ A96 AO4 (by rw [Ab0, h]), At.load hb (At.all _) BI4 Bi9 (Aj3 h)⟩
theorem BN0 {x y : Bts} (hx : x.length = 32) (hy : y.length = 32) : evEq Try.prog 32 (.agg (bc x)) (.agg (bc y)) = some (decide (x = y)) :=
 AX1 (n := 32) (by kernel_rfl) A96 (by kernel_rfl) hx hy
def argN (_ : AS) (args : List V) (i : Nat) : Prop := args = [.int .i64 (i : Int)]
theorem AZ0 {v u : V} (hv : v.one = true) (hu : u.one = true) : ∃ w A', EvF Try.prog HH 19 [v, u] A w A' /\ w = .fn 61 [] [.ptr A.blk.length 0, .ptr (A.blk.length + 1) 0] /\ Fr S0 A A' /\ A'.blk[A.blk.length]? = some ⟨[v], .var⟩ /\ A'.blk[A.blk.length + 1]? = some ⟨[u], .var⟩ := by
 refine Aa9 rfl Try.func19 (by unfold Try.f19; rfl) Try.ntmps19 (by unfold Try.f19; rfl) (by simp) ?_
 obtain ⟨A1, e1, f1, r1, n1⟩ := Ab3 A [v]
 obtain ⟨A2, e2, f2, r2, n2⟩ := Ab3 A1 [u]
 simp only [RT, Q0, Q1, Q2, Q3, Q4, Q5, Q6, Q7, Q8, one_cells hv, one_cells hu, <- e1, <- e2, n1]
 rw [n1] at r2
 exact ⟨f1.then0 f2, f2.row0 r1, r2⟩
set_option maxRecDepth 10000 in
set_option maxHeartbeats 16000000 in
theorem AP7 {b1 b2 : Nat} {v u : V} {ls : List Bts} {hs : List HdP} {S : Loc -> Prop} (hw : WF A) (hm : m.on A) (hS : ∀ b, S (.row b) -> m b = none /\ b ≠ b1 /\ b ≠ b2 /\ b < A.blk.length) (h1 : A.blk[b1]? = some ⟨[v], .var⟩) (h2 : A.blk[b2]? = some ⟨[u], .var⟩)
 (hl : Slc (eSl eU8) m v ls) (hh : Slc eHd m u hs) (hn : ls.length <= 1000000) (hx : ∀ x ∈ ls, x.length <= 1000000) (hhn : hs.length <= 1000000) :
 Goes Try.prog HH 61 [] [.ptr b1 0, .ptr b2 0] A S argN (badH ls hs) := by
 intro lo J D hJ hD hstep hJ0
 refine Aa9 rfl Try.func61 (by unfold Try.f61; rfl) Try.ntmps61 (by unfold Try.f61; rfl) (by simp) ?_
 obtain ⟨xs, hxs⟩ : ∃ x, x = badH ls hs := ⟨_, rfl⟩
 rw [<- hxs] at hstep ⊢
 obtain ⟨p, hp⟩ : ∃ p, p = badP ls hs := ⟨_, rfl⟩
 have hxs2 : xs = (List.range hs.length).filter p := by rw [hxs, hp]; rfl
 obtain ⟨w0, A1, k1, f1, fo, hL, hfo⟩ := Au5 hw hm hl (by omega) (fun x q => by have := hx x q; omega)
 obtain ⟨lv, hlv⟩ : ∃ l, l = ls.map leafH := ⟨_, rfl⟩
 rw [<- hlv] at hL
 have hlvn : lv.length = ls.length := by rw [hlv, List.length_map]
 have hlen := fun B => hh.len (P := Try.prog) Try.underlying23 B
 have hf1 : Fr S A A1 := f1.mono fun _ q => q.elim
 simp only [RT, Q0, Q1, Q2, Q3, Q4, Q5, Q6, Q7, Q8, Ae8 Bi8 h1]
 refine Aa0 k1 ?_
 simp only [RT, Q0, Q1, Q2, Q3, Q4, Q5, Q6, Q7, Q8, Ae8 BK8 (f1.row0 h2), hlen]
 have hlenL := fun B => hL.len (P := Try.prog) Try.underlying36 B
 have keepL : ∀ {B C : AS}, Fr S A B -> Lst eI Hp.emp B w0 lv fo -> Fr S B C -> Lst eI Hp.emp C w0 lv fo := fun {B C} q w z => w.fr z fun b y f k base y1 y2 y3 => by
  have hb := (hS b y).2.2.2
  obtain ⟨cs', z1, z2⟩ := q.kind b _ (List.getElem?_eq_getElem hb)
  rw [y2] at z1; cases z1
  have := hw b _ f base (List.getElem?_eq_getElem hb) y3
  have := hfo f y1
  omega
 refine Aa2 (fun z e B => ∃ i : Nat, z = hs.length - i /\ i <= hs.length /\ e.get 12 = .int .i64 i /\ e.get 0 = .yield lo /\ e.get 4 = w0 /\ e.get 10 = u /\ e.get 11 = .int .i64 hs.length /\ Fr S A B /\ Lst eI Hp.emp B w0 lv fo /\ J ((List.range i).filter p).length B)
  (fun z e B => Fr S A B /\ ((Is z (.exit 0) /\ J xs.length B) ∨ (Is z .ret /\ ∃ i, i < xs.length /\ D i B)))
  ⟨_, 0, rfl, by omega, rfl, rfl, rfl, rfl, rfl, hf1, hL, hJ _ _ _ hJ0 f1⟩ ?_ ?_
 rotate_left
 . rintro z e B hz ⟨q1, ⟨rfl, q2⟩ | ⟨rfl, q2⟩⟩
   . simp only [RT, Q0, Q1, Q2, Q3, Q4, Q5, Q6, Q7, Q8]
     exact ⟨q1, .inl q2⟩
   . simp only [RT, Q0, Q1, Q2, Q3, Q4, Q5, Q6, Q7, Q8]
     exact ⟨q1, .inr q2⟩
 clear hL k1 f1 hf1 hJ0
 rintro z e B ⟨i, rfl, hi, h12, h0, h4, h10, h11, hf, hL, hj⟩
 simp only [RT, Q0, Q1, Q2, Q3, Q4, Q5, Q6, Q7, Q8, h11, h12]
 refine Aa1 (fun q1 => ?_) (fun q1 => ?_)
 rotate_left
 . have : i = hs.length := by omega
   subst this
   simp only [RT, Q0, Q1, Q2, Q3, Q4, Q5, Q6, Q7, Q8]
   exact ⟨hf, .inl ⟨rfl, by rw [hxs2]; exact hj⟩⟩
 obtain ⟨x, hx'⟩ := Ad6 (l := hs) (i := i) (by omega)
 obtain ⟨b, o, c, g3, g4, g5⟩ := hh.at (P := Try.prog) (k := .i64) (hm.fr hf fun b q => (hS b q).1) Try.underlying23 Bi9 BI4 hx'
 obtain ⟨rfl, hx32⟩ := Bu5 g5
 obtain ⟨C, s1, s2, s3⟩ := Bu6 (A := B) hx32
 obtain ⟨b6, hb6⟩ : ∃ b, b = B.blk.length := ⟨_, rfl⟩
 rw [<- hb6] at s1 s3
 have hfC := hf.then0 s2
 have hLC := hL.fr0 s2
 have hjC := hJ _ _ _ hj s2
 have fa := BM9 b6
 have ld := BC7 s3 hx32
 have hwi : IntKind.i64.wrap ((i : Int) + 1) = ((i + 1 : Nat) : Int) := by rw [Af9 (by omega)]
 have hpi : p i = !decide (rightD ls x) := by rw [hp]; unfold badP; rw [hx']
 simp only [RT, Q0, Q1, Q2, Q3, Q4, Q5, Q6, Q7, Q8, h10, h12, g3, g4, Bk5, <- hb6, s1]
 refine Bb1 (fun z e D => Is z .normal /\ e.get 7 = .bool (decide (rightD ls x)) /\ e.get 12 = .int .i64 i /\ e.get 5 = .int .i64 i /\ e.get 0 = .yield lo /\ e.get 4 = w0 /\ e.get 10 = u /\ e.get 11 = .int .i64 hs.length /\ Fr S0 C D) ?_ ?_
 . by_cases c1 : x.2.1 >= 0
   rotate_left
   . have hno : decide (rightD ls x) = false := decide_eq_false fun q => c1 q.1
     simp only [RT, Q0, Q1, Q2, Q3, Q4, Q5, Q6, Q7, Q8, AU1, fa, ld, decide_eq_false c1, Aa4]
     rw [hno]
     have z9 : Fr S0 C C := .refl _ _
     and_intros <;> first | rfl | assumption
   obtain ⟨sz, hsz⟩ := Int.eq_ofNat_of_zero_le c1
   by_cases c2 : sz <= ls.length
   rotate_left
   . have hno : decide (rightD ls x) = false := decide_eq_false fun q => by have := q.2.1; omega
     simp only [RT, Q0, Q1, Q2, Q3, Q4, Q5, Q6, Q7, Q8, AU1, fa, ld, decide_eq_true c1, h4, hlenL, hlvn, decide_eq_false (show ¬ (x.2.1 <= (ls.length : Int)) by omega), Aa4]
     rw [hno]
     have z9 : Fr S0 C C := .refl _ _
     and_intros <;> first | rfl | assumption
   obtain ⟨wt, t1, t2⟩ := hLC.toN (P := Try.prog) (t := 36) Try.underlying36 AO4 (hi := sz) (by omega) (kh := .i64) C
   have t2 := t2.slcArr (fun _ _ q => by cases q)
   obtain ⟨_, D, k1, f1, rfl⟩ := AE4 (hfC.wf hw) (Aj2 C) t2 (by rw [List.length_take]; omega)
   have hr32 : (rootR (lv.take sz)).length = 32 := Ae7 fun y hy => by
    rw [hlv] at hy
    obtain ⟨b, _, rfl⟩ := List.mem_map.1 (List.mem_of_mem_take hy)
    exact Aq2 b
   have hdec : decide (rightD ls x) = decide (rootR (lv.take sz) = x.2.2) := by
    have : rightD ls x ↔ rootR (lv.take sz) = x.2.2 := by
     unfold rightD
     rw [hlv, hsz, Int.toNat_natCast]
     exact ⟨fun q => q.2.2, fun q => ⟨by omega, by omega, q⟩⟩
    by_cases q : rightD ls x
    . rw [decide_eq_true q, decide_eq_true (this.1 q)]
    . rw [decide_eq_false q, decide_eq_false fun w => q (this.2 w)]
   have ldD := BC7 (f1.row0 s3) hx32
   rw [<- hsz] at t1
   simp only [RT, Q0, Q1, Q2, Q3, Q4, Q5, Q6, Q7, Q8, AU1, fa, ld, decide_eq_true c1, h4, hlenL, hlvn, decide_eq_true (show (x.2.1 <= (ls.length : Int)) by omega), t1, Aa4]
   refine Aa0 k1 ?_
   simp only [RT, Q0, Q1, Q2, Q3, Q4, Q5, Q6, Q7, Q8, Aa4]
   refine ⟨AX3 (ha := rfl) rfl rfl rfl rfl ldD.2.2.1 rfl Aa4, ?_⟩
   simp only [RT, Q0, Q1, Q2, Q3, Q4, Q5, Q6, Q7, Q8, Aa4, BN0 hr32 hx32]
   rw [hdec]
   and_intros <;> first | rfl | assumption
 rintro z e D ⟨rfl, h7, h12, h5, h0, h4, h10, h11, hCD⟩
 have hfD := hfC.then0 hCD
 have hLD := hLC.fr0 hCD
 have hjD := hJ _ _ _ hjC hCD
 by_cases hr : rightD ls x
 . have hpf : p i = false := by rw [hpi, decide_eq_true hr]; rfl
   simp only [RT, Q0, Q1, Q2, Q3, Q4, Q5, Q6, Q7, Q8, h7, AT4, decide_eq_true hr, not_true_eq_false, h12, hwi]
   refine ⟨hs.length - (i + 1), by omega, i + 1, rfl, by omega, rfl, h0, h4, h10, h11, hfD, hLD, ?_⟩
   rw [AJ5, hpf]; simpa using hjD
 . have hpt : p i = true := by rw [hpi, decide_eq_false hr]; rfl
   have hat := Bk4 (p := p) (n := hs.length) (by omega) hpt
   rw [<- hxs2] at hat
   obtain ⟨bb, E, y1, y2, y3, y4⟩ := hstep _ _ D _ hat hjD hfD rfl
   simp only [RT, Q0, Q1, Q2, Q3, Q4, Q5, Q6, Q7, Q8, h7, AT4, decide_eq_false hr, not_false_eq_true, h0, h5]
   refine ⟨_, E, y1, ?_⟩
   simp only [RT, Q0, Q1, Q2, Q3, Q4, Q5, Q6, Q7, Q8]
   have hfE := hfD.thn y2
   have hLE := keepL hfD hLD y2
   cases bb with
   | true =>
    simp only [RT, Q0, Q1, Q2, Q3, Q4, Q5, Q6, Q7, Q8, h12, hwi]
    refine ⟨hs.length - (i + 1), by omega, i + 1, rfl, by omega, rfl, h0, h4, h10, h11, hfE, hLE, ?_⟩
    rw [AJ5, hpt]
    simpa using y3 rfl
   | false =>
    simp only [RT, Q0, Q1, Q2, Q3, Q4, Q5, Q6, Q7, Q8]
    exact ⟨hfE, .inr ⟨rfl, _, (List.getElem?_eq_some_iff.1 hat).1, y4 rfl⟩⟩
end
end Go.Sv.Try
namespace Go.Sv.Try
open Go Go.Proofs
section
variable {A B : AS} {m : Hp}
theorem BF2 {x : HdP} (h : x.2.2.length = 32) : bsl Try.prog 23 1 (some [(0, .agg (hdC x))]) = some (.newSl (hdC x) 1 34) := AH2 Try.underlying23 Bi9 Bk5 rfl (Aj3 h) (by decide)
end
end Go.Sv.Try
namespace Go.Sv.Try
open Go Go.Proofs
section
variable {A B : AS} {m : Hp}
end
end Go.Sv.Try
namespace Go.Sv.Try
open Go Go.Proofs
section
variable {A B : AS} {m : Hp}
theorem Bb2 {v : V} (hv : v.one = true) : ∃ w A', EvF Try.prog HH 29 [v] A w A' /\ w = .fn 70 [] [.ptr A.blk.length 0] /\ Fr S0 A A' /\ A'.blk[A.blk.length]? = some ⟨[v], .var⟩ := by
 refine Aa9 rfl Try.func29 (by unfold Try.f29; rfl) Try.ntmps29 (by unfold Try.f29; rfl) (by simp) ?_
 simp only [RT, Q0, Q1, Q2, Q3, Q4, Q5, Q6, Q7, Q8, one_cells hv]
 exact ⟨Fr.pushVar A _, Ab2 A _⟩
def Pref (L : List Bts) (l : List (List Bts)) : Prop := ∀ x ∈ l, ∃ n, x = L.take n
set_option maxRecDepth 10000 in
set_option maxHeartbeats 16000000 in
theorem AP8 {bx : Nat} {v : V} {l : List (List Bts)} {L : List Bts} {S : Loc -> Prop} {AR : AS -> List V -> Nat -> Prop} (hm : m.on A) (hb : A.blk[bx]? = some ⟨[v], .var⟩) (h : Slc (eSl (eSl eU8)) m v l) (hl : l.length <= 1000) (hL : L.length <= 1000) (hp : Pref L l) :
 Goes Try.prog HH 70 [] [.ptr bx 0] A S AR [] := by
 intro lo J D hJ hD hstep hJ0
 refine Aa9 rfl Try.func70 (by unfold Try.f70; rfl) Try.ntmps70 (by unfold Try.f70; rfl) (by simp) ?_
 have ld := Ae8 (P := Try.prog) (t := 26) BN9 hb
 have hlen := fun B => h.len (P := Try.prog) Try.underlying26 B
 simp only [RT, Q0, Q1, Q2, Q3, Q4, Q5, Q6, Q7, Q8, ld, hlen]
 refine Aa2 (fun z e B => B = A /\ ∃ i : Nat, z = l.length - i /\ i <= l.length /\ e.get 9 = .int .i64 i /\ e.get 1 = .ptr bx 0 /\ e.get 7 = v /\ e.get 8 = .int .i64 l.length) (fun z e B => B = A /\ Is z (.exit 0)) ⟨_, rfl, 0, rfl, by omega, rfl, rfl, rfl, rfl⟩ ?_ ?_
 rotate_left
 . rintro z e B hz ⟨rfl, rfl⟩
   simp only [RT, Q0, Q1, Q2, Q3, Q4, Q5, Q6, Q7, Q8]
   exact ⟨.refl _ _, .inl hJ0⟩
 rintro z e B ⟨rfl, i, rfl, hi, h9, h1, h7, h8⟩
 simp only [RT, Q0, Q1, Q2, Q3, Q4, Q5, Q6, Q7, Q8, h9, h8]
 refine Aa1 (fun q1 => ?_) (fun q1 => ?_)
 rotate_left
 . simp only [RT, Q0, Q1, Q2, Q3, Q4, Q5, Q6, Q7, Q8]
   rfl
 obtain ⟨x, hx⟩ := Ad6 (l := l) (i := i) (by omega)
 obtain ⟨b, o, c, g1, g2, g3⟩ := h.at (P := Try.prog) (k := .i64) hm Try.underlying26 Bs0 Bi8 hx
 rw [Az3] at g3
 have g4 := fun B => g3.len (P := Try.prog) Try.underlying22 B
 have wi : IntKind.i64.wrap ((i : Int) + 1) = ((i + 1 : Nat) : Int) := by rw [Af9 (by omega)]
 obtain ⟨nx, hnx⟩ := hp x (List.mem_of_getElem? hx)
 have hxl : x.length <= 1000 := by rw [hnx, List.length_take]; omega
 simp only [RT, Q0, Q1, Q2, Q3, Q4, Q5, Q6, Q7, Q8, h7, h9, g1, g2, wi]
 refine Aa2 (fun z e C => C = B /\ ∃ k : Nat, z = l.length - k /\ e.get 5 = .int .i64 k /\ k <= l.length + 1 /\ e.get 9 = .int .i64 i /\ e.get 1 = .ptr bx 0 /\ e.get 7 = v /\ e.get 8 = .int .i64 l.length /\ e.get 4 = c) (fun z e C => C = B /\ Is z (.exit 2) /\ e.get 9 = .int .i64 i /\ e.get 1 = .ptr bx 0 /\ e.get 7 = v /\ e.get 8 = .int .i64 l.length) ⟨_, rfl, i + 1, rfl, rfl, by omega, h9, h1, h7, h8, rfl⟩ ?_ ?_
 rotate_left
 . rintro z e C hz ⟨rfl, rfl, h9, h1, h7, h8⟩
   simp only [RT, Q0, Q1, Q2, Q3, Q4, Q5, Q6, Q7, Q8, h9, wi]
   exact ⟨l.length - (i + 1), by omega, i + 1, rfl, by omega, rfl, h1, h7, h8⟩
 clear h9 h1 h7 h8
 rintro z e C ⟨rfl, k, rfl, h5, hk, h9, h1, h7, h8, h4⟩
 simp only [RT, Q0, Q1, Q2, Q3, Q4, Q5, Q6, Q7, Q8, h5, h1, ld, hlen]
 refine Aa1 (fun q2 => ?_) (fun q2 => ?_)
 rotate_left
 . simp only [RT, Q0, Q1, Q2, Q3, Q4, Q5, Q6, Q7, Q8]
   exact ⟨rfl, h9, h1, h7, h8⟩
 obtain ⟨y, hy⟩ := Ad6 (l := l) (i := k) (by omega)
 obtain ⟨b', o', c', y1, y2, y3⟩ := h.at (P := Try.prog) (k := .i64) hm Try.underlying26 Bs0 Bi8 hy
 rw [Az3] at y3
 have y4 := fun B => y3.len (P := Try.prog) Try.underlying22 B
 have wk : IntKind.i64.wrap ((k : Int) + 1) = ((k + 1 : Nat) : Int) := by rw [Af9 (by omega)]
 obtain ⟨ny, hny⟩ := hp y (List.mem_of_getElem? hy)
 have hmn : ∃ mn : Nat, evMM (fun x y => if y < x then y else x) [.int .i64 (x.length : Int), .int .i64 (y.length : Int)] = some (.int .i64 (mn : Int)) /\ mn <= x.length /\ mn <= y.length := by
  by_cases q : (y.length : Int) < x.length
  . exact ⟨y.length, by show some (V.int .i64 (if (y.length : Int) < x.length then (y.length : Int) else x.length)) = _; rw [if_pos q], by omega, by omega⟩
  . exact ⟨x.length, by show some (V.int .i64 (if (y.length : Int) < x.length then (y.length : Int) else x.length)) = _; rw [if_neg q], by omega, by omega⟩
 obtain ⟨mn, hmn1, hmn2, hmn3⟩ := hmn
 simp only [RT, Q0, Q1, Q2, Q3, Q4, Q5, Q6, Q7, Q8, h4, g4, h1, ld, h5, y1, y2, y4, hmn1]
 refine Aa2 (fun z e D => D = C /\ ∃ n : Nat, z = mn - n /\ n <= mn /\ e.get 30 = .int .i64 n /\ e.get 29 = .int .i64 mn /\ e.get 5 = .int .i64 k /\ e.get 9 = .int .i64 i /\ e.get 1 = .ptr bx 0 /\ e.get 7 = v /\ e.get 8 = .int .i64 l.length /\ e.get 4 = c) (fun z e D => D = C /\ Is z (.exit 4) /\ e.get 5 = .int .i64 k /\ e.get 9 = .int .i64 i /\ e.get 1 = .ptr bx 0 /\ e.get 7 = v /\ e.get 8 = .int .i64 l.length /\ e.get 4 = c) ⟨_, rfl, 0, rfl, by omega, rfl, rfl, h5, h9, h1, h7, h8, h4⟩ ?_ ?_
 rotate_left
 . rintro z e D hz ⟨rfl, rfl, h5, h9, h1, h7, h8, h4⟩
   simp only [RT, Q0, Q1, Q2, Q3, Q4, Q5, Q6, Q7, Q8, h5, wk]
   exact ⟨l.length - (k + 1), by omega, k + 1, rfl, rfl, by omega, h9, h1, h7, h8, h4⟩
 clear h9 h1 h7 h8 h4 h5
 rintro z e D ⟨rfl, n, rfl, hn, h30, h29, h5, h9, h1, h7, h8, h4⟩
 simp only [RT, Q0, Q1, Q2, Q3, Q4, Q5, Q6, Q7, Q8, h30, h29]
 refine Aa1 (fun q3 => ?_) (fun q3 => ?_)
 rotate_left
 . simp only [RT, Q0, Q1, Q2, Q3, Q4, Q5, Q6, Q7, Q8]
   exact ⟨rfl, h5, h9, h1, h7, h8, h4⟩
 obtain ⟨p, hpx⟩ := Ad6 (l := x) (i := n) (by omega)
 obtain ⟨p', hpy⟩ := Ad6 (l := y) (i := n) (by omega)
 have hpe : p = p' := by
  have e1 := hpx
  have e2 := hpy
  have l1 := (List.getElem?_eq_some_iff.1 hpx).1
  have l2 := (List.getElem?_eq_some_iff.1 hpy).1
  rw [hnx] at e1 l1; rw [hny] at e2 l2
  rw [List.length_take] at l1 l2
  rw [List.getElem?_take_of_lt (by omega)] at e1 e2
  rw [e1] at e2; exact Option.some.inj e2
 obtain ⟨bp, op, cp, u1, u2, u3⟩ := g3.at (P := Try.prog) (k := .i64) hm Try.underlying22 A14 A95 hpx
 obtain ⟨bq, oq, cq, v1, v2, v3⟩ := y3.at (P := Try.prog) (k := .i64) hm Try.underlying22 A14 A95 hpy
 rw [Az3] at u3 v3
 have u4 := AW8 (P := Try.prog) (s := 44) (d := 9) (by decide) u3 hm Try.underlying44 Try.underlying5 Try.underlying9
 have v4 := AW8 (P := Try.prog) (s := 44) (d := 9) (by decide) v3 hm Try.underlying44 Try.underlying5 Try.underlying9
 have wn : IntKind.i64.wrap ((n : Int) + 1) = ((n + 1 : Nat) : Int) := by rw [Af9 (by omega)]
 simp only [RT, Q0, Q1, Q2, Q3, Q4, Q5, Q6, Q7, Q8, h30]
 rw [Br8, Aa7 (by rfl)]
 simp only [RT, Q0, Q1, Q2, Q3, Q4, Q5, Q6, Q7, Q8, h4, u1, u2, u4, h1, ld, h5, y1, y2, v1, v2, v4, decide_eq_true hpe, h30, wn]
 refine ⟨mn - (n + 1), by omega, n + 1, rfl, by omega, ?_⟩
 and_intros <;> first | rfl | assumption
theorem AV2 {P : Program} {H : Hints} {f : FuncId} {nt : Nat} {k : List Kt} {e : Env} {A : AS} {Q : Ex -> Env -> AS -> Prop} {g : Operand} {ps : Array Tmp} {asg bd : Code} {id : Nat} {h : FuncId} {first cap : List V} {AR : AS -> List V -> Nat -> Prop} {fn : Func}
 (hg : e.eval g = some (.fn h first cap)) (hgo : ∀ A0, Fr S0 A A0 -> Goes P H h first cap A0 (orLoop S0 A.loops.length) AR [])
 (hf : P.funcs[f]? = some fn) (hnt : fn.ntmps = nt) (hps : ps.toList.all (fun p => decide (p < nt)) = true)
 (hend : ∀ A2, Fr S0 A A2 -> Run P H f nt k .normal e A2 Q) : Run P H f nt (.code (.rangeFunc g ps asg bd) :: .blk id :: k) .normal e A Q := by
 refine AD6 (S := S0) (AR := AR) (xs := []) (fun _ _ => True) (fun _ => True) hg (fun q => q) hgo trivial (fun _ _ _ _ _ => trivial) (fun _ _ _ _ => trivial) hf hnt hps ?_ (fun _ _ => trivial) (fun A2 _ q => hend A2 q)
 intro i x A1 args hi
 simp at hi
end
end Go.Sv.Try
