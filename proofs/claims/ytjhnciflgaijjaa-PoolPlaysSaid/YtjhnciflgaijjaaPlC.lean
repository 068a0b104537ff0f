/- The document's pool. -/
import Derived.Test.YtjhnciflgaijjaaPlB
set_option linter.unusedSimpArgs false
set_option linter.unusedVariables false
open Nat renaming reduceLT → Q0, reduceBEq → Q1, reduceEqDiff → Q2, reduceAdd → Q3
open Int renaming reduceEq → Q4, reduceLT → Q5, reduceLE → Q6, reduceGT → Q7, reduceGE → Q8
namespace Go.Sv.Try
open Go Go.Proofs
section
variable {A B C : AS} {m : Hp} {X Y : Nat -> Prop} {P L : List Bts} {lv rl sv : V}
theorem AO0 {fo : Option Nat} {l : List Bts} {v : V} (h : Lst eStr Hp.emp B v l fo) (hX : ∀ f, X f -> f < A.blk.length) (hn : ∀ f, fo = some f -> A.blk.length <= f) : Slc eStr (qHp X B) v l :=
 h.slcQ (fun _ _ q => by cases q) fun f q z => by have := hX f z; have := hn f q; omega
set_option maxRecDepth 10000 in
set_option maxHeartbeats 32000000 in
theorem AO1 {x : Bts} (hw : WF A) (hX : ∀ f, X f -> f < A.blk.length) (hl : Slc eStr (qHp X A) lv P) (hok : PoOk P) (hx : x.length <= 1000000000) :
 ∃ w A', EvF Try.prog HH 56 [lv, .str x] A w A' /\ Fr S0 A A' /\ ∃ lv', w = .tup [lv', .int .i64 (putC P x)] /\ Slc eStr (qHp X A') lv' (putP P x) := by
 refine Aa5 rfl Try.func56 (by unfold Try.f56; rfl) Try.ntmps56 (by unfold Try.f56; rfl) (by simp) ?_
 have hP := hok.len
 have hlen := fun B => hl.len (P := Try.prog) Try.underlying43 B
 obtain ⟨_, A1, k1, f1, Y, dv, iv, lw, rfl, z1, z2⟩ := Ak0 (b := x) hw (by omega)
 obtain ⟨A2, t1, t2, t3⟩ := Al7 (A := A1) z1
 obtain ⟨b6, hb6⟩ : ∃ b, b = A1.blk.length := ⟨_, rfl⟩
 rw [<- hb6] at t1 t3
 have f12 := f1.then0 t2
 have w2 := f12.wf hw
 have keep : ∀ {B : AS}, Fr S0 A B -> Slc eStr (qHp X B) lv P := fun q => hl.mono (Ae7 q)
 have nop : putC P x ≠ 0 -> putP P x = P := fun q => if_neg q
 simp only [RT, Q0, Q1, Q2, Q3, Q4, Q5, Q6, Q7, Q8]
 refine Aa0 k1 ?_
 by_cases c0 : entC x = 0
 rotate_left
 . have hp : putC P x = entC x := if_pos c0
   simp only [RT, Q0, Q1, Q2, Q3, Q4, Q5, Q6, Q7, Q8, zcM, <- hb6, t1, c0]
   rw [nop (by rw [hp]; exact c0)]
   exact ⟨f12, lv, by rw [hp], keep f12⟩
 have hY := z2 c0
 have hnm : (Y.who, Y.num) = nmOf x := by rw [hY]; rfl
 have hwho : Y.who = (nmOf x).1 := by rw [<- hnm]
 have hnum : Y.num = (nmOf x).2 := by rw [<- hnm]
 have fam := faM b6
 have l1 := f12.len
 have lb6 := Ab9 t3
 simp only [RT, Q0, Q1, Q2, Q3, Q4, Q5, Q6, Q7, Q8, zcM, <- hb6, t1, c0]
 refine Aa4 (fun z e B => ∃ i : Nat, z = P.length - i /\ i <= P.length /\ e.get 9 = .int .i64 i /\ e.get 8 = .int .i64 (cntP (P.take i) (nmOf x).1) /\ e.get 0 = lv /\ e.get 1 = .str x /\ e.get 6 = .ptr b6 0 /\ Fr S0 A2 B /\ ∀ y ∈ P.take i, nmOf y ≠ nmOf x)
  (fun z e B => Fr S0 A2 B /\ ((Is z (.exit 0) /\ e.get 8 = .int .i64 (cntP P (nmOf x).1) /\ e.get 0 = lv /\ e.get 1 = .str x /\ ∀ y ∈ P, nmOf y ≠ nmOf x) ∨ (Is z .ret /\ e.get 4 = lv /\ e.get 5 = .int .i64 5 /\ ∃ y ∈ P, nmOf y = nmOf x)))
  ⟨_, 0, rfl, by omega, rfl, by unfold cntP; simp [Env.get], rfl, rfl, rfl, .refl _ _, by simp⟩ ?_ ?_
 . rintro z e B ⟨i, rfl, hi, h9, h8, h0, h1, h6, hf, hn⟩
   simp only [RT, Q0, Q1, Q2, Q3, Q4, Q5, Q6, Q7, Q8, h9, h0, hlen]
   refine Aa1 (fun q1 => ?_) (fun q1 => ?_)
   rotate_left
   . have : i = P.length := by omega
     subst this
     rw [List.take_length] at hn h8
     simp only [RT, Q0, Q1, Q2, Q3, Q4, Q5, Q6, Q7, Q8]
     exact ⟨hf, .inl ⟨rfl, h8, h0, h1, hn⟩⟩
   obtain ⟨y, hy⟩ := Ac9 (l := P) (i := i) (by omega)
   have hye := hok.ent y (List.mem_of_getElem? hy)
   have hyl := Ap3 hye
   have wB := hf.wf w2
   obtain ⟨b, o, c, g1, g2, g3⟩ := (keep (f12.then0 hf)).at (P := Try.prog) (k := .i64) (Ao8 X B) Try.underlying43 sz9 ag9 hy
   rw [AA7.1 g3] at g2
   obtain ⟨_, C, k2, j1, U, dv2, iv2, lw2, rfl, u1, u2⟩ := Ak0 (b := y) wB (by omega)
   have hU := u2 hye
   have hnu : (U.who, U.num) = nmOf y := by rw [hU]; rfl
   have hwu : U.who = (nmOf y).1 := by rw [<- hnu]
   have hmu : U.num = (nmOf y).2 := by rw [<- hnu]
   obtain ⟨D, v1, v2, v3⟩ := Al7 (A := C) u1
   have ldu := ldM v3 u1.id
   have fau := faM C.blk.length
   have jD := j1.then0 v2
   have ldy := ldM ((hf.then0 jD).row0 t3) z1.id
   have fD := hf.then0 jD
   have wi : IntKind.i64.wrap ((i : Int) + 1) = ((i + 1 : Nat) : Int) := by rw [Ad6 (by omega)]
   have hct := Bn9 hy (nmOf x).1
   have next : nmOf y ≠ nmOf x -> ∀ z ∈ P.take (i + 1), nmOf z ≠ nmOf x := fun hne z hz => by
    rw [Ac4 hy] at hz
    rcases List.mem_append.1 hz with hz | hz
    . exact hn z hz
    . rw [List.mem_singleton.1 hz]; exact hne
   simp only [RT, Q0, Q1, Q2, Q3, Q4, Q5, Q6, Q7, Q8, h0, h9, g1, g2]
   refine Aa0 k2 ?_
   by_cases c1' : U.who = Y.who
   rotate_left
   . have c1 : ¬ (nmOf y).1 = (nmOf x).1 := by rw [<- hwu, <- hwho]; exact c1'
     have hne := next fun q => c1 (by rw [q])
     rw [if_neg (fun q => c1 q.symm)] at hct
     rw [<- hct] at h8
     simp only [RT, Q0, Q1, Q2, Q3, Q4, Q5, Q6, Q7, Q8, zcM, v1, fau, ldu, fam, ldy, decide_eq_true (show ¬ U.who = Y.who from c1'), h6, h9, wi]
     refine ⟨P.length - (i + 1), by omega, i + 1, rfl, by omega, ?_⟩
     and_intros <;> first | rfl | assumption
   have c1 : (nmOf y).1 = (nmOf x).1 := by rw [<- hwu, <- hwho]; exact c1'
   by_cases c2' : U.num = Y.num
   . have c2 : (nmOf y).2 = (nmOf x).2 := by rw [<- hmu, <- hnum]; exact c2'
     simp only [RT, Q0, Q1, Q2, Q3, Q4, Q5, Q6, Q7, Q8, zcM, v1, fau, ldu, fam, ldy, decide_eq_false (show ¬ ¬ U.who = Y.who from fun q => q c1'), decide_eq_true c2', h6, h0]
     have hdup : ∃ y ∈ P, nmOf y = nmOf x := ⟨y, List.mem_of_getElem? hy, Prod.ext c1 c2⟩
     refine ⟨fD, .inr ?_⟩
     and_intros <;> first | rfl | exact hdup
   . have c2 : ¬ (nmOf y).2 = (nmOf x).2 := by rw [<- hmu, <- hnum]; exact c2'
     have hne := next fun q => c2 (by rw [q])
     rw [if_pos c1.symm, c1] at hct
     have hcl := BJ9 P i (nmOf x).1
     have hc3 := hok.cnt (nmOf x).1
     have wc : IntKind.i64.wrap ((cntP (P.take i) (nmOf x).1 : Int) + 1) = (cntP (P.take (i + 1)) (nmOf x).1 : Int) := by rw [hct]; exact Ae1 (by omega) (by omega)
     simp only [RT, Q0, Q1, Q2, Q3, Q4, Q5, Q6, Q7, Q8, zcM, v1, fau, ldu, fam, ldy, decide_eq_false (show ¬ ¬ U.who = Y.who from fun q => q c1'), decide_eq_false c2', h6, h8, wc, h9, wi]
     refine ⟨P.length - (i + 1), by omega, i + 1, rfl, by omega, ?_⟩
     and_intros <;> first | rfl | assumption
 . rintro z e B hz ⟨hf, ⟨rfl, h8, h0, h1, hn⟩ | ⟨rfl, h4, h5, hdup⟩⟩
   rotate_left
   . have hp : putC P x = 5 := by unfold putC; rw [if_neg (by simp [c0]), if_pos hdup]
     simp only [RT, Q0, Q1, Q2, Q3, Q4, Q5, Q6, Q7, Q8, h4, h5]
     rw [nop (by rw [hp]; decide), hp]
     exact ⟨f12.then0 hf, lv, rfl, keep (f12.then0 hf)⟩
   have fB := f12.then0 hf
   have wB := fB.wf hw
   have hnd : ¬ ∃ y ∈ P, nmOf y = nmOf x := fun ⟨y, hy, q⟩ => hn y hy q
   have hc3 := hok.cnt (nmOf x).1
   by_cases c3 : cntP P (nmOf x).1 = 3
   . have hp : putC P x = 120 := by unfold putC; rw [if_neg (by simp [c0]), if_neg hnd, if_pos c3]
     simp only [RT, Q0, Q1, Q2, Q3, Q4, Q5, Q6, Q7, Q8, h8, decide_eq_true (show (cntP P (nmOf x).1 : Int) >= 3 by omega), h0]
     rw [nop (by rw [hp]; decide), hp]
     exact ⟨fB, lv, rfl, keep fB⟩
   by_cases c4 : P.length = 24
   . have hp : putC P x = 3 := by unfold putC; rw [if_neg (by simp [c0]), if_neg hnd, if_neg c3, if_pos c4]
     simp only [RT, Q0, Q1, Q2, Q3, Q4, Q5, Q6, Q7, Q8, h8, decide_eq_false (show ¬ (cntP P (nmOf x).1 : Int) >= 3 by omega), h0, hlen, decide_eq_true (show (P.length : Int) >= 24 by omega)]
     rw [nop (by rw [hp]; decide), hp]
     exact ⟨fB, lv, rfl, keep fB⟩
   have hp : putC P x = 0 := by unfold putC; rw [if_neg (by simp [c0]), if_neg hnd, if_neg c3, if_neg c4]
   have hpp : putP P x = P ++ [x] := if_pos hp
   obtain ⟨w6, C, f6, y1, y2, y3, y4⟩ := AQ9 (P := Try.prog) (t := 43) (tx := 43) (n := 1) rfl wB BG5 Try.underlying43 (keep fB) (Ao8 X B) (by omega) (by omega)
   have y2 : Lst eStr Hp.emp C w6 P (some f6) := y2
   obtain ⟨w7, D, f7, p1, p2, p3, p4⟩ := y2.push (P := Try.prog) (t := 43) (tx := 43) (n := 1) rfl BG5 Try.underlying43 (y4.wf wB) (y := x) (cs' := [.str x]) rfl (by omega) (by omega)
   have fD : Fr S0 A D := fB.trans (y4.newFam wB p3 fun f q => by cases q; exact y3) fun _ q => q.elim
   simp only [RT, Q0, Q1, Q2, Q3, Q4, Q5, Q6, Q7, Q8, h8, decide_eq_false (show ¬ (cntP P (nmOf x).1 : Int) >= 3 by omega), h0, hlen, decide_eq_false (show ¬ (P.length : Int) >= 24 by omega), Bf4, y1, h1, Bn0, p1]
   rw [hpp, hp]
   refine ⟨fD, w7, rfl, AO0 p2 hX fun f q => ?_⟩
   have := fB.len
   rcases p4.or q with y | y
   . cases y; omega
   . have := y4.len; omega
set_option maxRecDepth 10000 in
set_option maxHeartbeats 32000000 in
theorem AH6 (hw : WF A) (hX : ∀ f, X f -> f < A.blk.length) (hl : Slc eStr (qHp X A) lv P) (hok : PoOk P) (hr : Slc eStr (qHp X A) rl L) (h1 : sv.one = true) (hE : ∀ x ∈ L, entC x = 0) (hL : L.length <= 1000) :
 ∃ w A', EvF Try.prog HH 57 [lv, .agg [rl, sv]] A w A' /\ Fr S0 A A' /\ Slc eStr (qHp X A') w (doneP P L) := by
 refine Aa5 rfl Try.func57 (by unfold Try.f57; rfl) Try.ntmps57 (by unfold Try.f57; rfl) (by simp) ?_
 have hP := hok.len
 have hlen := fun B => hl.len (P := Try.prog) Try.underlying43 B
 obtain ⟨A1, e1, f1, r1, n1⟩ := Aa8 A [rl, sv]
 obtain ⟨b3, hb3⟩ : ∃ b, b = A.blk.length := ⟨_, rfl⟩
 rw [<- hb3] at r1
 have w1 := f1.wf hw
 have keep : ∀ {B : AS}, Fr S0 A B -> Slc eStr (qHp X B) lv P := fun q => hl.mono (Ae7 q)
 obtain ⟨p, hp⟩ : ∃ p : Bts -> Bool, p = fun x => (lookL (mapOf L) (nmOf x)).isNone := ⟨_, rfl⟩
 have hdone : doneP P L = P.filter p := by rw [hp]; rfl
 simp only [RT, Q0, Q1, Q2, Q3, Q4, Q5, Q6, Q7, Q8, <- e1, <- hb3]
 refine Aa4 (fun z e B => ∃ (i : Nat) (w : V) (fo : Option Nat), z = P.length - i /\ i <= P.length /\ e.get 6 = .int .i64 i /\ e.get 0 = lv /\ e.get 3 = .ptr b3 0 /\ e.get 5 = w /\ Fr S0 A1 B /\ Lst eStr Hp.emp B w ((P.take i).filter p) fo /\ ∀ f, fo = some f -> A1.blk.length <= f)
  (fun z e B => Is z (.exit 0) /\ ∃ (w : V) (fo : Option Nat), e.get 5 = w /\ Fr S0 A1 B /\ Lst eStr Hp.emp B w (P.filter p) fo /\ ∀ f, fo = some f -> A1.blk.length <= f)
  ⟨_, 0, .snil, none, rfl, by omega, rfl, rfl, rfl, rfl, .refl _ _, by simpa using Lst.nil, fun f q => by cases q⟩ ?_ ?_
 . rintro z e B ⟨i, w, fo, rfl, hi, h6, h0, h3, h5, hf, hLs, hfo⟩
   simp only [RT, Q0, Q1, Q2, Q3, Q4, Q5, Q6, Q7, Q8, h6, h0, hlen]
   refine Aa1 (fun q1 => ?_) (fun q1 => ?_)
   rotate_left
   . have : i = P.length := by omega
     subst this
     rw [List.take_length] at hLs
     simp only [RT, Q0, Q1, Q2, Q3, Q4, Q5, Q6, Q7, Q8]
     exact ⟨rfl, w, fo, h5, hf, hLs, hfo⟩
   obtain ⟨y, hy⟩ := Ac9 (l := P) (i := i) (by omega)
   have hye := hok.ent y (List.mem_of_getElem? hy)
   have hyl := Ap3 hye
   have wB := hf.wf w1
   have fAB := f1.then0 hf
   obtain ⟨b, o, c, g1, g2, g3⟩ := (keep fAB).at (P := Try.prog) (k := .i64) (Ao8 X B) Try.underlying43 sz9 ag9 hy
   rw [AA7.1 g3] at g2
   obtain ⟨_, C, k2, j1, U, dv2, iv2, lw2, rfl, u1, u2⟩ := Ak0 (b := y) wB (by omega)
   have hU := u2 hye
   have hnu : (U.who, U.num) = nmOf y := by rw [hU]; rfl
   obtain ⟨D, v1, v2, v3⟩ := Al7 (A := C) u1
   have ldu := ldM v3 u1.id
   have fau := faM C.blk.length
   have jD := j1.then0 v2
   have fD := hf.then0 jD
   have fAD := f1.then0 fD
   have ldr := Bv5 (fD.row0 r1)
   obtain ⟨_, E, kf, jf, rfl⟩ := Az8 (sv := sv) (fD.wf w1) (Ao8 X D) (hr.mono (Ae7 fAD)) hE hL U.who U.num
   have wi : IntKind.i64.wrap ((i : Int) + 1) = ((i + 1 : Nat) : Int) := by rw [Ad6 (by omega)]
   have fE := fD.then0 jf
   have hLE := hLs.fr0 (jD.then0 jf)
   simp only [RT, Q0, Q1, Q2, Q3, Q4, Q5, Q6, Q7, Q8, h0, h6, g1, g2]
   refine Aa0 k2 ?_
   simp only [RT, Q0, Q1, Q2, Q3, Q4, Q5, Q6, Q7, Q8, zcM, v1, h3, ldr, fau, ldu]
   refine Aa0 kf ?_
   rw [hnu]
   by_cases c1 : findR L (nmOf y) < 0
   . have hpy : p y = true := by
      rw [hp]; show (lookL (mapOf L) (nmOf y)).isNone = true
      have : ¬ 0 <= findR L (nmOf y) := by omega
      rw [Au5] at this
      rw [Classical.byContradiction this]; rfl
     obtain ⟨b', o', c', g1', g2', g3'⟩ := (keep (f1.then0 fE)).at (P := Try.prog) (k := .i64) (Ao8 X E) Try.underlying43 sz9 ag9 hy
     rw [AA7.1 g3'] at g2'
     have hfl : ((P.take i).filter p).length <= 24 := Nat.le_trans (List.length_filter_le _ _) (by rw [List.length_take]; omega)
     obtain ⟨w', F, fo', p1, p2, p3, p4⟩ := hLE.push (P := Try.prog) (t := 43) (tx := 43) (n := 1) rfl BG5 Try.underlying43 (fE.wf w1) (y := y) (cs' := [.str y]) rfl (by omega) (by omega)
     have fF : Fr S0 A1 F := fE.newFam w1 p3 hfo
     have hfo' : ∀ f, fo' = some f -> A1.blk.length <= f := fun f q => by
      rcases p4.or q with y | y
      . exact hfo f y
      . have := fE.len; omega
     have e : (P.take i).filter p ++ [y] = (P.take (i + 1)).filter p := by rw [Au7 hy, if_pos hpy]
     rw [e] at p2
     simp only [RT, Q0, Q1, Q2, Q3, Q4, Q5, Q6, Q7, Q8, decide_eq_true c1, h5, h0, h6, g1', g2', Bn0, p1, wi]
     refine ⟨P.length - (i + 1), by omega, i + 1, w', fo', rfl, by omega, ?_⟩
     and_intros <;> first | rfl | assumption
   . have hpy : p y = false := by
      rw [hp]; show (lookL (mapOf L) (nmOf y)).isNone = false
      have : 0 <= findR L (nmOf y) := by omega
      rw [Au5] at this
      cases q : lookL (mapOf L) (nmOf y) with
      | none => exact absurd q this
      | some i => rfl
     have e : (P.take i).filter p = (P.take (i + 1)).filter p := by rw [Au7 hy, hpy]; simp
     rw [e] at hLE
     simp only [RT, Q0, Q1, Q2, Q3, Q4, Q5, Q6, Q7, Q8, decide_eq_false c1, h6, wi]
     refine ⟨P.length - (i + 1), by omega, i + 1, w, fo, rfl, by omega, ?_⟩
     and_intros <;> first | rfl | assumption
 . rintro z e B hz ⟨rfl, w, fo, h5, hf, hLs, hfo⟩
   simp only [RT, Q0, Q1, Q2, Q3, Q4, Q5, Q6, Q7, Q8, h5]
   rw [hdone]
   exact ⟨f1.then0 hf, AO0 hLs hX fun f q => by have := hfo f q; have := f1.len; omega⟩
set_option maxRecDepth 10000 in
set_option maxHeartbeats 32000000 in
theorem AD9 (hw : WF A) (hm : m.on A) (hl : Slc eStr m lv P) (hok : PoOk P) :
 ∃ w A', EvF Try.prog HH 60 [lv] A w A' /\ Fr S0 A A' /\ w = .str (if joinE (P.take 8) = 0 then writeB (batM (P.take 8)) else []) := by
 refine Aa5 rfl Try.func60 (by unfold Try.f60; rfl) Try.ntmps60 (by unfold Try.f60; rfl) (by simp) ?_
 have hP := hok.len
 have hlen := fun B => hl.len (P := Try.prog) Try.underlying43 B
 simp only [RT, Q0, Q1, Q2, Q3, Q4, Q5, Q6, Q7, Q8]
 refine Aa4 (fun z e B => ∃ (i : Nat) (w : V) (fo : Option Nat), z = P.length - i /\ i <= (P.take 8).length /\ e.get 4 = .int .i64 i /\ e.get 0 = lv /\ e.get 3 = w /\ Fr S0 A B /\ Lst (eSl eU8) (qHp (zOf fo) B) B w (P.take i) fo /\ ∀ f, fo = some f -> A.blk.length <= f)
  (fun z e B => Is z (.exit 0) /\ ∃ (w : V) (fo : Option Nat), e.get 3 = w /\ Fr S0 A B /\ Lst (eSl eU8) (qHp (zOf fo) B) B w (P.take 8) fo)
  ⟨_, 0, .snil, none, rfl, by omega, rfl, rfl, rfl, .refl _ _, .nil, fun f q => by cases q⟩ ?_ ?_
 . rintro z e B ⟨i, w, fo, rfl, hi, h4, h0, h3, hf, hLs, hfo⟩
   rw [List.length_take] at hi
   have fin : i = (P.take 8).length -> Lst (eSl eU8) (qHp (zOf fo) B) B w (P.take 8) fo := fun q => by
    have : P.take i = P.take 8 := by
     rw [q, List.length_take]
     by_cases c : 8 <= P.length
     . rw [Nat.min_eq_left c]
     . rw [Nat.min_eq_right (by omega), List.take_length, List.take_of_length_le (by omega)]
    rw [<- this]; exact hLs
   by_cases c1 : (i : Int) < (P.length : Int)
   rotate_left
   . have hL8 := fin (by rw [List.length_take]; omega)
     simp only [RT, Q0, Q1, Q2, Q3, Q4, Q5, Q6, Q7, Q8, h4, h0, hlen, decide_eq_false c1]
     exact ⟨rfl, w, fo, h3, hf, hL8⟩
   by_cases c2 : (i : Int) < 8
   rotate_left
   . have hL8 := fin (by rw [List.length_take]; omega)
     simp only [RT, Q0, Q1, Q2, Q3, Q4, Q5, Q6, Q7, Q8, h4, h0, hlen, decide_eq_true c1, decide_eq_false c2]
     exact ⟨rfl, w, fo, h3, hf, hL8⟩
   obtain ⟨y, hy⟩ := Ac9 (l := P) (i := i) (by omega)
   have hyl := Ap3 (hok.ent y (List.mem_of_getElem? hy))
   have wB := hf.wf hw
   obtain ⟨b, o, c, g1, g2, g3⟩ := hl.at (P := Try.prog) (k := .i64) (hm.fr0 hf) Try.underlying43 sz9 ag9 hy
   rw [AA7.1 g3] at g2
   have f0 := Fr.pushArr B (bc y)
   have hrow := Ab0 B ⟨bc y, .arr B.blk.length 0⟩
   have cv := AG3 (P := Try.prog) (A := B) (s := 9) (d := 44) (l := y) (by decide) Try.underlying9 Try.underlying44 Try.underlying5
   rw [show (y.map fun u => V.int .u8 u.toNat) = bc y from rfl] at cv
   obtain ⟨b0, hb0⟩ : ∃ b, b = B.blk.length := ⟨_, rfl⟩
   obtain ⟨B1, e1⟩ : ∃ X, X = B.push ⟨bc y, .arr b0 0⟩ := ⟨_, rfl⟩
   rw [<- hb0, <- e1] at f0 hrow
   have hLB := (hLs.fr0 f0).mono (Ae7 f0)
   have hsl : Slc eU8 (qHp (zOf fo) B1) (.sl b0 0 y.length 1) y := Aw6 hrow fun q => by have := hLs.famLt _ q; omega
   have w1 := f0.wf wB
   obtain ⟨w', C, fo', p1, p2, p3, p4⟩ := hLB.push (P := Try.prog) (t := 22) (tx := 22) (n := 1) rfl BG3 Try.underlying22 w1 (y := y) (cs' := [.sl b0 0 y.length 1]) ⟨_, rfl, hsl⟩ (by rw [List.length_take]; omega) (by rw [List.length_take]; omega)
   rw [<- Ac4 hy] at p2
   have p2 := p2.mono (Ad1 p3 (Y := zOf fo') (.famO fun f q => q) w1 fun f q => p4.or q)
   have fB1 := hf.then0 f0
   have fC : Fr S0 A C := fB1.newFam hw p3 hfo
   have hfo' : ∀ f, fo' = some f -> A.blk.length <= f := fun f q => by
    rcases p4.or q with y | y
    . exact hfo f y
    . have := fB1.len; omega
   have wi : IntKind.i64.wrap ((i : Int) + 1) = ((i + 1 : Nat) : Int) := by rw [Ad6 (by omega)]
   have hi' : i + 1 <= (P.take 8).length := by rw [List.length_take]; omega
   simp only [RT, Q0, Q1, Q2, Q3, Q4, Q5, Q6, Q7, Q8, h4, h0, hlen, decide_eq_true c1, decide_eq_true c2, h3, g1, g2, cv, <- hb0, <- e1, Bn1 (.inr ⟨_, _, _, _, rfl⟩), p1, wi]
   refine ⟨P.length - (i + 1), by omega, i + 1, w', fo', rfl, hi', ?_⟩
   and_intros <;> first | rfl | assumption
 . rintro z e B hz ⟨rfl, w, fo, h3, hf, hLs⟩
   obtain ⟨_, C, k1, f1, rfl⟩ := AT5 (hf.wf hw) (Af6 B) (hLs.slcArr (AH0 _ _)) (by rw [List.length_take]; omega) (fun b hb => by have := Ap3 (hok.ent b (List.mem_of_mem_take hb)); omega)
   simp only [RT, Q0, Q1, Q2, Q3, Q4, Q5, Q6, Q7, Q8, h3]
   refine Aa0 k1 ?_
   simp only [RT, Q0, Q1, Q2, Q3, Q4, Q5, Q6, Q7, Q8]
   exact hf.then0 f1
end
end Go.Sv.Try
namespace Go.Sv.Try
open Go Go.Proofs
def ppX (fo fl ft fh : Option Nat) : Nat -> Prop := fun f => fo = some f ∨ bkF fl ft fh f
structure PP (A B : AS) (pp : Nat) (P : List Bts) (fo : Option Nat) (bp tp r : Nat) (L : List Bts) (Hs : List HdP) (fl ft fh : Option Nat) (b7 b8 : Nat) (lv rl sv : V) : Prop where
 pb : PB (fun _ => False) A B pp P fo bp tp r L Hs fl ft fh
 x7 : B.blk[b7]? = some ⟨[lv], .var⟩
 x8 : B.blk[b8]? = some ⟨[rl, sv], .var⟩
 l7 : Slc eStr (qHp (ppX fo fl ft fh) B) lv P
 l8 : Slc eStr (qHp (ppX fo fl ft fh) B) rl L
 s8 : Slc (eInt .i64) (qHp (ppX fo fl ft fh) B) sv (sizesH Hs)
 n7 : b7 ≠ pp /\ b7 ≠ bp /\ b7 ≠ tp
 n8 : b8 ≠ pp /\ b8 ≠ bp /\ b8 ≠ tp
 n78 : b7 ≠ b8
 a7 : A.blk.length <= b7
 a8 : A.blk.length <= b8
section
variable {A B C : AS} {m : Hp} {pp bp tp r b7 b8 : Nat} {P L : List Bts} {fo fl ft fh : Option Nat} {S : Loc -> Prop} {Hs : List HdP} {lv rl sv : V}
theorem PP.fr0 (h : PP A B pp P fo bp tp r L Hs fl ft fh b7 b8 lv rl sv) (hf : Fr S0 B C) : PP A C pp P fo bp tp r L Hs fl ft fh b7 b8 lv rl sv :=
 { h with pb := h.pb.fr0 hf, x7 := hf.row0 h.x7, x8 := hf.row0 h.x8, l7 := h.l7.mono (Ae7 hf), l8 := h.l8.mono (Ae7 hf), s8 := h.s8.mono (Ae7 hf) }
theorem PP.xlt (h : PB (fun _ => False) A B pp P fo bp tp r L Hs fl ft fh) : ∀ f, ppX fo fl ft fh f -> f < B.blk.length := fun f q => q.elim (h.po.lt.2 f) (A55 h.bk.raw f)
theorem Bf7 (h : PB (fun _ => False) A B pp P fo bp tp r L Hs fl ft fh) : Tch (ppX fo fl ft fh) B (poS B pp fo) := by
 obtain ⟨⟨_, x0⟩, _⟩ := h.pp_box
 exact .or (.box x0) (.famO fun f q => .inl q)
theorem AO2 {b : Nat} {cs : List V} (hb : B.blk[b]? = some ⟨cs, .var⟩) (h : b ≠ pp) : ¬ poS B pp fo (.row b) := by
 rintro (q | q)
 . cases q; exact h rfl
 . exact Aa9 hb q
set_option maxHeartbeats 4000000 in
theorem PP.opPut (h : PP A B pp P fo bp tp r L Hs fl ft fh b7 b8 lv rl sv) (hw : WF A) (hm : m.on B) {v : V} {x : Bts} (hv : Slc eU8 m v x) (hx : x.length <= 1000000000) :
 ∃ lv' C D E fo', EvF Try.prog HH 56 [lv, .str x] B (.tup [lv', .int .i64 (putC P x)]) C /\ Fr S0 B C /\ EvF Try.prog HH 26 [.ptr pp 0, v] C (.int .i64 (putC P x)) D /\ evStore Try.prog 43 (.ptr b7 0) lv' D = some E /\ PP A E pp (putP P x) fo' bp tp r L Hs fl ft fh b7 b8 lv' rl sv := by
 have wB := h.pb.fr.wf hw
 obtain ⟨_, C, k1, f1, lv', rfl, hl1⟩ := AO1 wB (PP.xlt h.pb) h.l7 h.pb.po.ok hx
 have h1 := h.fr0 f1
 have wC := h1.pb.fr.wf hw
 obtain ⟨D, fo', k2, f2, g2, hP2⟩ := h1.pb.put hw (fun f q => q.elim) (hm.fr0 f1) hv hx
 have hq := Ad1 (Y := ppX fo' fl ft fh) f2 (Bf7 h1.pb) wC fun f q => q.elim (fun q => (g2.or q).imp .inl id) fun q => .inl (.inr q)
 have x7D := f2.row _ _ h1.x7 (AO2 h1.x7 h.n7.1)
 have x8D := f2.row _ _ h1.x8 (AO2 h1.x8 h.n8.1)
 have wD := hP2.fr.wf hw
 have hl2 := hl1.mono hq
 obtain ⟨E, s1, s2, s3, _⟩ := Ae4 (P := Try.prog) (t := 43) (x := lv') x7D (one_cells hl2.one) B11 hl2.one
 have hq2 := Ad1 (X := ppX fo' fl ft fh) (Y := ppX fo' fl ft fh) s2 (.box x7D) wD fun f q => .inl q
 exact ⟨lv', C, D, E, fo', k1, f1, k2, s1, { pb := hP2.box hw s2 x7D h.n7 h.a7, x7 := s3, x8 := s2.row _ _ x8D (fun q => by cases q; exact h.n78 rfl), l7 := hl2.mono hq2, l8 := (h1.l8.mono hq).mono hq2, s8 := (h1.s8.mono hq).mono hq2, n7 := h.n7, n8 := h.n8, n78 := h.n78, a7 := h.a7, a8 := h.a8 }⟩
set_option maxHeartbeats 8000000 in
theorem PP.opApp (h : PP A B pp P fo bp tp r L Hs fl ft fh b7 b8 lv rl sv) (hw : WF A) (hm : m.on B) {v : V} {x : Bts} (hv : Slc eU8 m v x) (hx : x.length <= 1000000000) (hH : Hs.length <= 900) :
 ∃ rl' sv' w C D E F G H fl' ft' fh' Hs', EvF Try.prog HH 44 [.ptr bp 0, v] B (.int .i64 (((applyB L x).length : Int) - L.length)) C /\ Fr (bkS B bp tp r fl ft fh) B C /\ C.blk[b8]? = some ⟨[rl, sv], .var⟩ /\
  EvF Try.prog HH 49 [.agg [rl, sv], .str x] C (.agg [rl', sv']) D /\ evStore Try.prog 99 (.ptr b8 0) (.agg [rl', sv']) D = some E /\ E.blk[b7]? = some ⟨[lv], .var⟩ /\ E.blk[b8]? = some ⟨[rl', sv'], .var⟩ /\
  EvF Try.prog HH 57 [lv, .agg [rl', sv']] E w F /\ F.blk[b7]? = some ⟨[lv], .var⟩ /\
  EvF Try.prog HH 58 [.ptr pp 0, .ptr bp 0] F (.int .i64 ((P.length : Int) - (doneP P (applyB L x)).length)) G /\ G.blk[b7]? = some ⟨[lv], .var⟩ /\
  evStore Try.prog 43 (.ptr b7 0) w G = some H /\ (∀ X, evLen Try.prog 43 w X = some (.int .i64 (doneP P (applyB L x)).length)) /\
  PP A H pp (doneP P (applyB L x)) fo bp tp r (applyB L x) Hs' fl' ft' fh' b7 b8 w rl' sv' /\ Hs'.length = Hs.length + 1 := by
 have wB := h.pb.fr.wf hw
 obtain ⟨C, fl', ft', fh', k1, f1, h1, gf⟩ := h.pb.app hw (fun f q => q.elim) hm hv hx (by omega)
 have wC := h1.fr.wf hw
 have lC := f1.len
 have tc := AN7 (X := ppX fo fl ft fh) h.pb.bk.raw fun f q => .inr q
 have gg : ∀ f, ppX fo fl' ft' fh' f -> ppX fo fl ft fh f ∨ B.blk.length <= f := fun f q => q.elim (fun q => .inl (.inl q)) fun q => (gf f q).imp .inr id
 have hq := Ad1 (Y := ppX fo fl' ft' fh') f1 tc wB gg
 have x7C := f1.row _ _ h.x7 (As5 h.x7 h.n7.2.1 h.n7.2.2)
 have x8C := f1.row _ _ h.x8 (As5 h.x8 h.n8.2.1 h.n8.2.2)
 have l7C := h.l7.mono hq
 have l8C := h.l8.mono hq
 have s8C := h.s8.mono hq
 have hsz : (sizesH Hs).length = Hs.length := by unfold sizesH; rw [List.length_map]
 obtain ⟨_, D, k2, f2, rl', sv', g1, g2, rfl, q1, q2, q3, q4, q5, q6⟩ := Au6 wC (Ao8 _ C) l8C s8C h.pb.bk.ent h.pb.bk.len (by omega) hx
 have h2 := h1.fr0 f2
 have wD := h2.fr.wf hw
 have x8D := f2.row0 x8C
 obtain ⟨E, s1, s2, s3⟩ := By4 x8D (v' := rl') (w' := sv') q1.one q2.one
 have xl1 := PP.xlt h1
 have hq2 := Ad1 (X := ppX fo fl' ft' fh') (Y := ppX fo fl' ft' fh') s2 (.box x8D) wD fun f q => .inl q
 have l8E := (AO0 q1 xl1 q3).mono hq2
 have s8D : Slc (eInt .i64) (qHp (ppX fo fl' ft' fh') D) sv' (sizesH Hs ++ [((applyB L x).length : Int)]) := q2.slcQ (fun _ _ q => by cases q) fun f q z => by have := xl1 f z; have := q4 f q; omega
 have s8E := s8D.mono hq2
 have hsz : sizesH Hs ++ [((applyB L x).length : Int)] = sizesH (Hs ++ [hdOf Hs (applyB L x)]) := by unfold sizesH; rw [List.map_append]; rfl
 rw [hsz] at s8E
 have h3 := h2.box hw s2 x8D h.n8 h.a8
 have wE := h3.fr.wf hw
 have x7E := s2.row _ _ (f2.row0 x7C) (fun q => by cases q; exact h.n78 rfl)
 have l7E := (l7C.mono (Ae7 f2)).mono hq2
 obtain ⟨w, F, k3, f3, hl3⟩ := AH6 (sv := sv') wE (PP.xlt h3) l7E h3.po.ok l8E s8E.one q5 q6
 have h4 := h3.fr0 f3
 have wF := h4.fr.wf hw
 have x7F := f3.row0 x7E
 have x8F := f3.row0 s3
 obtain ⟨G, k4, f4, h5⟩ := h4.done hw
 have wG := h5.fr.wf hw
 have hq4 := Ad1 (Y := ppX fo fl' ft' fh') f4 (Bf7 h4) wF fun f q => .inl q
 have x7G := f4.row _ _ x7F (AO2 x7F h.n7.1)
 have x8G := f4.row _ _ x8F (AO2 x8F h.n8.1)
 have l7G := hl3.mono hq4
 obtain ⟨H, t1, t2, t3, _⟩ := Ae4 (P := Try.prog) (t := 43) (x := w) x7G (one_cells l7G.one) B11 l7G.one
 have hq5 := Ad1 (X := ppX fo fl' ft' fh') (Y := ppX fo fl' ft' fh') t2 (.box x7G) wG fun f q => .inl q
 exact ⟨rl', sv', w, C, D, E, F, G, H, fl', ft', fh', _, k1, f1, x8C, k2, s1, x7E, s3, k3, x7F, k4, x7G, t1, fun X => l7G.len (P := Try.prog) Try.underlying43 X, { pb := h5.box hw t2 x7G h.n7 h.a7, x7 := t3, x8 := t2.row _ _ x8G (fun q => by cases q; exact h.n78 rfl), l7 := l7G.mono hq5, l8 := ((l8E.mono (Ae7 f3)).mono hq4).mono hq5, s8 := ((s8E.mono (Ae7 f3)).mono hq4).mono hq5, n7 := h.n7, n8 := h.n8, n78 := h.n78, a7 := h.a7, a8 := h.a8 }, by simp⟩
end
end Go.Sv.Try
namespace Go.Sv.Try
open Go Go.Proofs
abbrev OqP := Int × Bts
def eOq : Enc OqP := ePair (eInt .i64) (eSl eU8)
def shOq : Sh := .struct [(.int .i64, 0, 1), (.sl (.int .u8) 1, 1, 1)] 2
theorem Reads.oq : Reads eOq shOq (fun _ => True) (fun _ => 0) :=
 Reads.weak (Reads.struct (.cons (Reads.int .i64) rfl rfl (.last Reads.u8.sl rfl)) rfl) (fun _ _ => trivial) fun _ => Nat.zero_le _
theorem BU3 {m : Hp} {w : V} {o : OqP} (h : eOq.W m w o) : ∃ v, w = .agg [.int .i64 o.1, v] /\ Slc eU8 m v o.2 := by
 unfold Enc.W at h
 rw [if_pos (show eOq.agg = true from rfl)] at h
 obtain ⟨d, rfl, c1, c2, rfl, h1, v, rfl, h3⟩ := h
 have h1 : c1 = [.int .i64 o.1] := h1
 subst h1
 exact ⟨v, rfl, h3⟩
section
variable {A B C : AS} {m : Hp} {pp bp tp r b7 b8 : Nat} {P L : List Bts} {fo fl ft fh : Option Nat} {S : Loc -> Prop} {Hs : List HdP} {lv rl sv : V}
theorem B38 (b : Nat) : evFieldAddr Try.prog 112 (.ptr b 0) 0 = some (.ptr b 0) /\ evFieldAddr Try.prog 112 (.ptr b 0) 1 = some (.ptr b 1) := ⟨by kernel_rfl, by kernel_rfl⟩
theorem BU4 {b : Nat} {k : BK} {n : Int} {v : V} (h : A.blk[b]? = some ⟨[.int .i64 n, v], k⟩) : evLoad Try.prog 3 (.ptr b 0) A = some (.int .i64 n) /\ evLoad Try.prog 44 (.ptr b 1) A = some v := ⟨by rw [Ab3 ag3 h]; rfl, by rw [Ab3 AY7 h]; rfl⟩
theorem BU5 {n : Int} {v : V} (h : v.one = true) : ∃ A', evStore Try.prog 112 (.ptr A.blk.length 0) (.agg [.int .i64 n, v]) (A.push ⟨[.int .i64 0, .snil], .var⟩) = some A' /\ Fr S0 A A' /\ A'.blk[A.blk.length]? = some ⟨[.int .i64 n, v], .var⟩ := by
 obtain ⟨A2, s1, s2, s3, s4⟩ := Ag2 (P := Try.prog) A (z := [.int .i64 0, .snil]) (t := 112) (x := .agg [.int .i64 n, v]) (cs := [.int .i64 n, v]) rfl BQ8 rfl (by show (true && (v.one && true)) = true; rw [h]; rfl)
 exact ⟨A2, s1, s2, s3⟩
theorem BK0 (a b : Int) : evMM (fun x y => if y > x then y else x) [.int .i64 a, .int .i64 b] = some (.int .i64 (max a b)) := by
 show foldMM _ _ _ _ = _
 simp only [foldMM, if_true]
 congr 2
 split <;> omega
set_option maxRecDepth 10000 in
set_option maxHeartbeats 32000000 in
theorem poolPlays_spec {v : V} {os : List OqP} {most : Int} (hw0 : WF A) (hm0 : m.on A) (hl : Slc eOq m v os) :
 ∃ w A', EvF Try.prog HH 13 [v, .int .i64 most] A w A' /\ w = .bool true := by
 refine Aa5 rfl Try.func13 (by unfold Try.f13; rfl) Try.ntmps13 (by unfold Try.f13; rfl) (by simp) ?_
 have hlen := fun B => hl.len (P := Try.prog) Try.underlying110 B
 obtain ⟨Au, eu, fu, ru, nu⟩ := Aa8 A [.int .i64 most]
 obtain ⟨b3, hb3⟩ : ∃ b, b = A.blk.length := ⟨_, rfl⟩
 rw [<- hb3] at ru
 obtain ⟨Av, ev, fv, rv, nv⟩ := Aa8 Au [.bool false]
 obtain ⟨b4, hb4⟩ : ∃ b, b = Au.blk.length := ⟨_, rfl⟩
 rw [<- hb4] at rv nv
 have out : ∀ {B : AS} (b : Bool), B.blk[b4]? = some ⟨[.bool false], .var⟩ -> ∃ C, evStore Try.prog 4 (.ptr b4 0) (.bool b) B = some C /\ evLoad Try.prog 4 (.ptr b4 0) C = some (.bool b) := fun {B} b h => by
  obtain ⟨C, t1, t2, t3, t4⟩ := Ae4 (P := Try.prog) (t := 4) (x := .bool b) h rfl sz4 rfl
  exact ⟨C, t1, Aa6 ag4 t3⟩
 obtain ⟨C0, o1, o2⟩ := out true rv
 have hw := fv.wf (fu.wf hw0)
 have hm := (hm0.fr0 fu).fr0 fv
 have ru := fv.row0 ru
 simp only [RT, Q0, Q1, Q2, Q3, Q4, Q5, Q6, Q7, Q8, <- eu, <- hb3, zc4, <- ev, <- hb4]
 refine Aa0 (Bb0 rfl) ?_
 by_cases c1 : (os.length : Int) > 60
 . simp only [RT, Q0, Q1, Q2, Q3, Q4, Q5, Q6, Q7, Q8, hlen, decide_eq_true c1, o1, o2]
 clear o1 o2 C0
 obtain ⟨_, A1, _, A2, pp, bp, tp, r, ft0, k1, k2, rfl, rfl, hP0⟩ := By8 (X := fun _ => False) hw (fun f q => q)
 obtain ⟨A3, e3, f3, r3, n3⟩ := Aa8 A2 [.snil]
 obtain ⟨b7, hb7⟩ : ∃ b, b = A2.blk.length := ⟨_, rfl⟩
 rw [<- hb7] at r3
 obtain ⟨A4, e4, f4, r4, n4⟩ := Aa8 A3 [.snil, .snil]
 obtain ⟨b8, hb8⟩ : ∃ b, b = A3.blk.length := ⟨_, rfl⟩
 rw [<- hb8] at r4
 have lP := hP0.po.lt.1
 have lB := hP0.bk.raw.lt
 have lA := hP0.fr.len
 have hPP0 : PP Av A4 pp [] none bp tp r [] [] none ft0 none b7 b8 .snil .snil .snil := ⟨(hP0.fr0 f3).fr0 f4, f4.row0 r3, r4, .inl ⟨rfl, rfl⟩, .inl ⟨rfl, rfl⟩, .inl ⟨rfl, rfl⟩, ⟨by omega, by have := lB.1; omega, by have := lB.2.1; omega⟩, ⟨by omega, by have := lB.1; omega, by have := lB.2.1; omega⟩, by omega, by omega, by omega⟩
 simp only [RT, Q0, Q1, Q2, Q3, Q4, Q5, Q6, Q7, Q8, hlen, decide_eq_false c1]
 refine Aa0 k1 ?_
 simp only [RT, Q0, Q1, Q2, Q3, Q4, Q5, Q6, Q7, Q8]
 refine Aa0 k2 ?_
 simp only [RT, Q0, Q1, Q2, Q3, Q4, Q5, Q6, Q7, Q8, B46, <- e3, <- hb7, B05, <- e4, <- hb8, B37, B33, hlen]
 refine Aa4 (fun z e B => ∃ (i : Nat) (P L : List Bts) (Hs : List HdP) (fo fl ft fh : Option Nat) (lv rl sv : V), z = os.length - i /\ i <= os.length /\ Hs.length <= i /\ e.get 31 = .int .i64 i /\ e.get 30 = .int .i64 os.length /\ e.get 29 = v /\ e.get 3 = .ptr b3 0 /\ e.get 4 = .ptr b4 0 /\ e.get 5 = .ptr pp 0 /\ e.get 6 = .ptr bp 0 /\ e.get 7 = .ptr b7 0 /\ e.get 8 = .ptr b8 0 /\ PP Av B pp P fo bp tp r L Hs fl ft fh b7 b8 lv rl sv)
  (fun z e B => Is z (.exit 0) /\ ∃ (P L : List Bts) (Hs : List HdP) (fo fl ft fh : Option Nat) (lv rl sv : V), e.get 3 = .ptr b3 0 /\ e.get 4 = .ptr b4 0 /\ e.get 5 = .ptr pp 0 /\ e.get 7 = .ptr b7 0 /\ PP Av B pp P fo bp tp r L Hs fl ft fh b7 b8 lv rl sv)
  ⟨_, 0, [], [], [], none, none, ft0, none, .snil, .snil, .snil, rfl, by omega, by simp, rfl, rfl, rfl, by rw [hb3]; rfl, by rw [hb4]; rfl, rfl, rfl, rfl, rfl, hPP0⟩ ?_ ?_
 . rintro z e B ⟨i, P, L, Hs, fo, fl, ft, fh, lv, rl, sv, rfl, hi, hHs, h31, h30, h29, h3, h4, h5, h6, h7, h8, hP⟩
   simp only [RT, Q0, Q1, Q2, Q3, Q4, Q5, Q6, Q7, Q8, h31, h30]
   refine Aa1 (fun q1 => ?_) (fun q1 => ?_)
   rotate_left
   . simp only [RT, Q0, Q1, Q2, Q3, Q4, Q5, Q6, Q7, Q8]
     exact ⟨rfl, P, L, Hs, fo, fl, ft, fh, lv, rl, sv, h3, h4, h5, h7, hP⟩
   obtain ⟨⟨kd, x⟩, hx⟩ := Ac9 (l := os) (i := i) (by omega)
   have hmB := hm.fr0 hP.pb.fr
   obtain ⟨b, o, c, y3, y4, y5⟩ := hl.at (P := Try.prog) (k := .i64) hmB Try.underlying110 BQ8 BX7 hx
   obtain ⟨dv, rfl, hdv⟩ := BU3 y5
   have hdv : Slc eU8 m dv x := hdv
   obtain ⟨B1, t1, t2, t3⟩ := BU5 (A := B) (n := kd) hdv.one
   obtain ⟨b10, hb10⟩ : ∃ b, b = B.blk.length := ⟨_, rfl⟩
   rw [<- hb10] at t1 t3
   have hP1 := hP.fr0 t2
   have hm1 := hm.fr0 hP1.pb.fr
   have fo10 := B38 b10
   have ld10 := BU4 t3
   have hcl := fun B => hdv.len (P := Try.prog) Try.underlying44 B
   have hcv := fun {B : AS} (q : m.on B) => Ao5 (P := Try.prog) (A := B) (s := 44) (d := 9) (by decide) hdv q Try.underlying44 Try.underlying5 Try.underlying9
   have hwi : IntKind.i64.wrap ((i : Int) + 1) = ((i + 1 : Nat) : Int) := by rw [Ad6 (by omega)]
   by_cases d1 : (x.length : Int) > 3000
   . simp only [RT, Q0, Q1, Q2, Q3, Q4, Q5, Q6, Q7, Q8, h29, h31, y3, y4, BG0, <- hb10, t1, fo10, ld10, hcl, decide_eq_true d1, hwi]
     refine ⟨os.length - (i + 1), by omega, i + 1, P, L, Hs, fo, fl, ft, fh, lv, rl, sv, rfl, by omega, by omega, ?_⟩
     and_intros <;> first | rfl | assumption
   have ldl := Aa6 (P := Try.prog) (t := 43) Bl4 hP1.x7
   by_cases d2 : kd = 0
   . obtain ⟨lv', C, D, E, fo', k3, f3', k4, s1, hP2⟩ := hP1.opPut hw hm1 hdv (by omega)
     have ld10C := BU4 (f3'.row0 t3)
     have kl := Az9 hP2.pb.po
     have hll := fun X => hP2.l7.len (P := Try.prog) Try.underlying43 X
     have ldE := Aa6 (P := Try.prog) (t := 43) Bl4 hP2.x7
     simp only [RT, Q0, Q1, Q2, Q3, Q4, Q5, Q6, Q7, Q8, h29, h31, y3, y4, BG0, <- hb10, t1, fo10, ld10, hcl, decide_eq_false d1, decide_eq_true d2, h7, ldl, hcv hm1]
     refine Aa0 k3 ?_
     simp only [RT, Q0, Q1, Q2, Q3, Q4, Q5, Q6, Q7, Q8, h5, fo10, ld10C]
     refine Aa0 k4 ?_
     simp only [RT, Q0, Q1, Q2, Q3, Q4, Q5, Q6, Q7, Q8, h7, s1, A76, h5, ldE, hll, Aa2]
     refine Aa0 kl ?_
     simp only [RT, Q0, Q1, Q2, Q3, Q4, Q5, Q6, Q7, Q8, Aa2]
     refine ⟨Aa3 (ha := h7) rfl ldE rfl Aa2, ?_⟩
     simp only [RT, Q0, Q1, Q2, Q3, Q4, Q5, Q6, Q7, Q8, Aa2, h31, hwi]
     refine ⟨os.length - (i + 1), by omega, i + 1, putP P x, L, Hs, fo', fl, ft, fh, lv', rl, sv, rfl, by omega, by omega, ?_⟩
     and_intros <;> first | rfl | assumption
   . obtain ⟨rl', sv', w, C, D, E, F, G, H, fl', ft', fh', Hs', k3, f3', x8C, k4, s1, x7E, x8E, k5, x7F, k6, x7G, s2, hlw, hP2, hH2⟩ := hP1.opApp hw hm1 hdv (by omega) (by omega)
     have n10 : b10 ≠ bp /\ b10 ≠ tp := by have h1 := hP.pb.bk.raw.lt; exact ⟨by have := h1.1; omega, by have := h1.2.1; omega⟩
     have t3C := f3'.row _ _ t3 (As5 t3 n10.1 n10.2)
     have ld10C := BU4 t3C
     have hmC : m.on C := by
      have hC : Fr S0 Av C := hP1.pb.fr.trans f3' fun z y => .inr (AN6 hw hP1.pb.fr hP1.pb.l2 hP1.pb.l3 hP1.pb.l4 (fun g y => hP1.pb.lf g (.inl y)) (fun g y => hP1.pb.lf g (.inr (.inl y))) (fun g y => hP1.pb.lf g (.inr (.inr y))) z y)
      exact hm.fr0 hC
     have kl := Az9 hP2.pb.po
     have hlp := fun X => hP.l7.len (P := Try.prog) Try.underlying43 X
     have ldE := Aa6 (P := Try.prog) (t := 43) Bl4 x7E
     have ldF := Aa6 (P := Try.prog) (t := 43) Bl4 x7F
     have ldG := Aa6 (P := Try.prog) (t := 43) Bl4 x7G
     have ldH := Aa6 (P := Try.prog) (t := 43) Bl4 hP2.x7
     have hP24 := hP.pb.po.ok.len
     have hdl : (doneP P (applyB L x)).length <= P.length := List.length_filter_le _ _
     have hwd : IntKind.i64.wrap ((P.length : Int) - ((doneP P (applyB L x)).length : Int)) = (P.length : Int) - ((doneP P (applyB L x)).length : Int) := Ae1 (by omega) (by omega)
     simp only [RT, Q0, Q1, Q2, Q3, Q4, Q5, Q6, Q7, Q8, h29, h31, y3, y4, BG0, <- hb10, t1, fo10, ld10, hcl, decide_eq_false d1, decide_eq_false d2, h6]
     refine Aa0 k3 ?_
     simp only [RT, Q0, Q1, Q2, Q3, Q4, Q5, Q6, Q7, Q8, h8, Bv5 x8C, fo10, ld10C, hcv hmC]
     refine Aa0 k4 ?_
     simp only [RT, Q0, Q1, Q2, Q3, Q4, Q5, Q6, Q7, Q8, h8, s1, h7, ldE, Bv5 x8E]
     refine Aa0 k5 ?_
     simp only [RT, Q0, Q1, Q2, Q3, Q4, Q5, Q6, Q7, Q8, Bs2, h5, h6, h7, ldF, hlp, hlw, hwd, Aa2]
     refine Aa0 k6 ?_
     simp only [RT, Q0, Q1, Q2, Q3, Q4, Q5, Q6, Q7, Q8, Aa2]
     refine ⟨Aa3 (ha := h7) rfl ldG rfl Aa2, ?_⟩
     simp only [RT, Q0, Q1, Q2, Q3, Q4, Q5, Q6, Q7, Q8, Aa2, h7, s2, A76, h5, ldH, hlw]
     refine Aa0 kl ?_
     simp only [RT, Q0, Q1, Q2, Q3, Q4, Q5, Q6, Q7, Q8, Aa2]
     refine ⟨Aa3 (ha := h7) rfl ldH rfl Aa2, ?_⟩
     simp only [RT, Q0, Q1, Q2, Q3, Q4, Q5, Q6, Q7, Q8, Aa2, h31, hwi]
     refine ⟨os.length - (i + 1), by omega, i + 1, doneP P (applyB L x), applyB L x, Hs', fo, fl', ft', fh', w, rl', sv', rfl, by omega, by omega, ?_⟩
     and_intros <;> first | rfl | assumption
 clear hPP0 hP0
 rintro z e B hz ⟨rfl, P, L, Hs, fo, fl, ft, fh, lv, rl, sv, h3, h4, h5, h7, hP⟩
 have hok := hP.pb.po.ok
 have hP24 := hok.len
 have wB := hP.pb.fr.wf hw
 obtain ⟨B1, e1, g1, t1, _⟩ := Aa8 B [.int .i64 0]
 obtain ⟨b14, hb14⟩ : ∃ b, b = B.blk.length := ⟨_, rfl⟩
 rw [<- hb14] at t1
 obtain ⟨B2, s1, g2, t2, _⟩ := Ae4 (P := Try.prog) (t := 3) (x := .int .i64 0) t1 rfl sz3 rfl
 have g12 : Fr S0 B B2 := g1.row_ g2 (by omega)
 have hB2 := hP.fr0 g12
 obtain ⟨_, F, k3, rfl, g3, y3, y4⟩ := AK1 (A := B2) (pp := pp) most
 have hF := hB2.fr0 g3
 have wF := hF.pb.fr.wf hw
 obtain ⟨xs, hxs⟩ : ∃ l, l = P.take most.toNat := ⟨_, rfl⟩
 have ru2 := (hB2.pb.fr).row0 ru
 have n14 : b14 ≠ pp /\ b14 ≠ bp /\ b14 ≠ tp := by
  have h1 := hP.pb.po.lt.1
  have h2 := hP.pb.bk.raw.lt
  exact ⟨by omega, by have := h2.1; omega, by have := h2.2.1; omega⟩
 have l14 : Av.blk.length <= b14 := by have := hP.pb.fr.len; omega
 have hll := fun X => hP.l7.len (P := Try.prog) Try.underlying43 X
 obtain ⟨mm, hmm⟩ : ∃ x, x = qHp (ppX fo fl ft fh) F := ⟨_, rfl⟩
 have hl7 := hF.l7
 rw [<- hmm] at hl7
 have hmo : mm.on F := by rw [hmm]; exact Ao8 _ _
 have t2F := g3.row0 t2
 have hm14 : mm b14 = none := by rw [hmm]; exact AN4 t2F
 have l14' := Ab9 t2
 have lb7 := Ab9 hP.x7
 have n147 : b7 ≠ b14 := by omega
 have n143 : b3 ≠ b14 := by have := Ab9 ru; omega
 simp only [RT, Q0, Q1, Q2, Q3, Q4, Q5, Q6, Q7, Q8, zc3, <- e1, <- hb14, s1, h5, h3, Aa6 ag3 ru2]
 refine Aa0 k3 ?_
 simp only [RT, Q0, Q1, Q2, Q3, Q4, Q5, Q6, Q7, Q8]
 refine AY4 (S := (· = .row b14)) (T := S0) (K := fun r => arrHp F r ≠ none ∨ r = B2.blk.length + 1) (Fin := fun _ => True) (AR := argPf) (xs := xs)
  (fun i D => PB (fun _ => False) Av D pp P fo bp tp r L Hs fl ft fh /\ mm.on D /\ D.blk[b7]? = some ⟨[lv], .var⟩ /\ D.blk[b3]? = some ⟨[.int .i64 most], .var⟩ /\ D.blk[b14]? = some ⟨[.int .i64 (i : Int)], .var⟩) (fun z D => False)
  rfl (fun q => by cases q) (fun q => q) ?_ ⟨hF.pb, hmo, hF.x7, g3.row0 ru2, t2F⟩ ?_ (fun _ _ _ q => q.elim) Try.func13 Try.ntmps13 (by simp) ?_ ?_ (fun _ _ _ q => q.elim)
 . intro A0 hf0 hblk
   have g := AD6 (S := orLoop (· = .row b14) F.loops.length) (hf0.wf wF) (hF.pb.po.fr0 hf0) (hf0.row0 y3) (hf0.row0 y4)
   have e : arrHp A0 = arrHp F := by funext r; unfold arrHp; rw [hblk]
   rw [e, <- hxs] at g; exact g
 . rintro i D G ⟨q1, q2, q3, q4, q5⟩ hf
   exact ⟨q1.loop hw hf hF.pb.fr.llen, q2.fr hf (fun b y => by cases y), hf.row _ _ q3 (fun y => by cases y), hf.row _ _ q4 (fun y => by cases y), hf.row _ _ q5 (fun y => by cases y)⟩
 . rintro i x D G args hi ⟨q1, q2, q3, q4, q5⟩ hDG hfG ⟨w, rfl, hnw⟩
   refine ⟨_, rfl, ?_⟩
   simp only [RT, Q0, Q1, Q2, Q3, Q4, Q5, Q6, Q7, Q8]
   refine ⟨rfl, .refl _ _, fun H hH => ?_⟩
   have q1H := (q1.fr0 hDG).loop hw hH hF.pb.fr.llen
   have q2H := (q2.fr0 hDG).fr hH (fun b y => by cases y)
   have q3H := hH.row _ _ (hDG.row0 q3) (fun y => by cases y)
   have q4H := hH.row _ _ (hDG.row0 q4) (fun y => by cases y)
   have q5H := hH.row _ _ (hDG.row0 q5) (fun y => by cases y)
   have wG := (q1.fr0 hDG).fr.wf hw
   have hwx : Slc eU8 (qHp (fun _ => False) H) w x := (hnw.slcQ (X := fun _ => False) (fun f q => q.elim)).mono (Ad1 hH (fun b k q => by cases q) wG fun f q => .inl q)
   have hcv := Ao5 (P := Try.prog) (A := H) (s := 44) (d := 9) (by decide) hwx (Ao8 _ H) Try.underlying44 Try.underlying5 Try.underlying9
   have hil := (List.getElem?_eq_some_iff.1 hi).1
   have hil2 : i < most.toNat /\ i < P.length := by rw [hxs, List.length_take] at hil; omega
   have hPi : P[i]? = some x := by rw [hxs, List.getElem?_take_of_lt hil2.1] at hi; exact hi
   obtain ⟨b', o', c', g3', g4', g5'⟩ := hl7.at (P := Try.prog) (k := .i64) q2H Try.underlying43 sz9 ag9 hPi
   rw [AA7.1 g5'] at g4'
   obtain ⟨I, u1, u2, u3, _⟩ := Ae4 (P := Try.prog) (t := 3) (x := .int .i64 ((i + 1 : Nat) : Int)) q5H rfl sz3 rfl
   have hwi : IntKind.i64.wrap ((i : Int) + 1) = ((i + 1 : Nat) : Int) := by rw [Ad6 (by omega)]
   rw [Bs3, Ab2 (by rfl)]
   simp only [RT, Q0, Q1, Q2, Q3, Q4, Q5, Q6, Q7, Q8, Aa6 ag3 q5H, h7, Aa6 Bl4 q3H, hll, decide_eq_false (show ¬ (i : Int) >= (P.length : Int) by omega), h3, Aa6 ag3 q4H, decide_eq_false (show ¬ (i : Int) >= most by omega), hcv, g3', g4', hwi, u1]
   refine ⟨u2, .inl ⟨rfl, ⟨q1H.box hw u2 q5H n14 l14, q2H.fr u2 (fun b y => by cases y; exact hm14), u2.row _ _ q3H (fun y => by cases y; exact n147 rfl), u2.row _ _ q4H (fun y => by cases y; exact n143 rfl), u3⟩, fun r hr => ?_⟩⟩
   have hrl : r < F.blk.length /\ r ≠ b14 := by
    rcases hr with hr | hr
    . exact ⟨Classical.byContradiction fun q => hr ((Af6 F).fresh (by omega)), fun q => hr (by rw [q]; exact Ae5 t2F)⟩
    . have := Ab9 y4; exact ⟨by omega, by omega⟩
   have hlG := hfG.len
   rw [List.getElem?_eq_getElem (show r < G.blk.length by omega)]
   exact u2.row _ _ (hH.row _ _ (List.getElem?_eq_getElem _) fun q => by cases q) fun q => by cases q; exact hrl.2 rfl
 rintro D G ⟨q1, q2, q3, q4, q5⟩ hDG _ hFG
 have nr : ∀ b, ¬ ((S0 (.row b)) ∨ Loc.row b = .loop F.loops.length) := fun b q => by rcases q with q | q; exact q; cases q
 have hG : PB (fun _ => False) Av G pp P fo bp tp r L Hs fl ft fh := q1.oth hw hDG (nr _) (nr _) (nr _) (fun q => by rcases q with q | q; exact q; cases q) (fun b k q => absurd q (nr b)) (fun z q => by
  rcases q with q | q
  . exact q.elim
  . subst q; exact hF.pb.fr.llen) (fun f q => .inl q)
 have q2G := q2.fr hDG fun b q => absurd q (nr b)
 have q3G := hDG.row _ _ q3 (nr _)
 have q4G := hDG.row _ _ q4 (nr _)
 have q5G := hDG.row _ _ q5 (nr _)
 have wG := hG.fr.wf hw
 obtain ⟨w, H, k5, f5, _, hb⟩ := Ar5 wG hG.po
 have hj := AD8 hok.ent 8 (Nat.le_refl _)
 have hb := (hb hj).arrBts
 have wH := f5.wf wG
 obtain ⟨_, I, k6, f6, rfl⟩ := AD9 wH (q2G.fr0 f5) hl7 hok
 rw [if_pos hj] at k6
 have hcv := Ao5 (P := Try.prog) (A := H) (s := 44) (d := 9) (by decide) hb (Af6 H) Try.underlying44 Try.underlying5 Try.underlying9
 have hcv2 := Ao5 (P := Try.prog) (A := I) (s := 44) (d := 9) (by decide) hb ((Af6 H).fr0 f6) Try.underlying44 Try.underlying5 Try.underlying9
 have hI := (hG.fr0 f5).fr0 f6
 obtain ⟨C0, o1, o2⟩ := out true (hI.fr.row0 rv)
 have hn : ((xs.length : Nat) : Int) = max 0 (min most (P.length : Int)) := by rw [hxs, List.length_take]; omega
 simp only [RT, Q0, Q1, Q2, Q3, Q4, Q5, Q6, Q7, Q8, Bs4, Aa6 ag3 q5G, h3, Aa6 ag3 q4G, h7, Aa6 Bl4 q3G, hll, BJ8, BK0, decide_eq_true hn, h5, Aa2]
 refine Aa0 k5 ?_
 simp only [RT, Q0, Q1, Q2, Q3, Q4, Q5, Q6, Q7, Q8, Aa2]
 refine ⟨Bs1 (ha := h7) rfl rfl rfl rfl (Aa6 Bl4 (f5.row0 q3G)) rfl Aa2, ?_⟩
 simp only [RT, Q0, Q1, Q2, Q3, Q4, Q5, Q6, Q7, Q8, hcv, Aa2]
 refine Aa0 k6 ?_
 simp only [RT, Q0, Q1, Q2, Q3, Q4, Q5, Q6, Q7, Q8, Aa2]
 refine ⟨Be4 rfl rfl rfl rfl hcv2 rfl Aa2, ?_⟩
 simp only [RT, Q0, Q1, Q2, Q3, Q4, Q5, Q6, Q7, Q8, h4, o1, o2, Aa2]
end
end Go.Sv.Try
