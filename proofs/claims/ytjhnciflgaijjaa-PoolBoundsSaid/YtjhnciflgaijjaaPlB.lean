/- PoolFair, on the abstract machine. -/
import Derived.Test.YtjhnciflgaijjaaPlA
set_option linter.unusedSimpArgs false
set_option linter.unusedVariables false
open Nat renaming reduceLT → Q0, reduceBEq → Q1, reduceEqDiff → Q2, reduceAdd → Q3
open Int renaming reduceEq → Q4, reduceLT → Q5, reduceLE → Q6, reduceGT → Q7, reduceGE → Q8
namespace Go.Sv.Try
open Go Go.Proofs
section
variable {A B C : AS} {m : Hp} {X Y : Nat -> Prop} {pp bp tp r : Nat} {P L : List Bts} {fo fl ft fh : Option Nat} {S : Loc -> Prop} {Hs : List HdP}
theorem B03 (b : Nat) : evEq Try.prog 41 (.ptr b 0) .pnil = some false := by kernel_rfl
theorem PB.oth (h : PB X A B pp P fo bp tp r L Hs fl ft fh) (hw : WF A) (hf : Fr S B C) (h1 : ¬ S (.row pp)) (h2 : ¬ S (.row bp)) (h3 : ¬ S (.row tp)) (h4 : ¬ S (.map r)) (hT : Tch X B S) (hA : ∀ z, S z -> z.newTo A) (hY : ∀ f, Y f -> X f ∨ B.blk.length <= f) : PB Y A C pp P fo bp tp r L Hs fl ft fh := by
 have hwB := h.fr.wf hw
 have lb := Bc9 h.bk.raw
 have lo := h.po.lt.2
 refine { h with fr := h.fr.trans hf fun z q => .inr (hA z q), po := h.po.oth hwB hf h1 (hT.mono fun f q => .inl q) (fun f q z => ?_) (fun f q => ?_), bk := h.bk.oth hwB hf h2 h3 h4 (hT.mono fun f q => .inl q) (fun f q z => ?_) (fun f q => ?_), dx := fun f q => ?_ }
 . rcases z with z | z
   . exact (h.dx f z).2 q
   . exact h.d f z q
 . rcases q with q | q
   . exact (hY f q).imp .inl id
   . exact .inl (.inr q)
 . rcases z with z | z | z | z
   . exact (h.dx f z).1 q
   . exact h.d f q z
   . cases z
   . cases z
 . rcases q with q | q
   . exact (hY f q).imp .inl id
   . exact .inl (.inr q)
 . rcases hY f q with y | y
   . exact h.dx f y
   . exact ⟨fun z => by have := lb f z; omega, fun z => by have := lo f z; omega⟩
end
end Go.Sv.Try
namespace Go.Sv.Try
open Go Go.Proofs
section
variable {A B C : AS} {m : Hp} {X Y : Nat -> Prop} {pp bp tp r : Nat} {P L : List Bts} {fo fl ft fh : Option Nat} {S : Loc -> Prop} {Hs : List HdP}
theorem PB.mapU {k : Nat} (h : PB X A B pp P fo bp tp r L Hs fl ft fh) (hw : WF A) (hf : Fr (· = .map k) B C) (h1 : k ≠ r) (h2 : A.maps.length <= k) : PB X A C pp P fo bp tp r L Hs fl ft fh :=
 h.oth hw hf (fun q => by cases q) (fun q => by cases q) (fun q => by cases q) (fun q => by cases q; exact h1 rfl) (fun b k q => by cases q) (fun z q => by subst q; exact h2) (fun f q => .inl q)
theorem PB.loop {k : Nat} (h : PB X A B pp P fo bp tp r L Hs fl ft fh) (hw : WF A) (hf : Fr (· = .loop k) B C) (h2 : A.loops.length <= k) : PB X A C pp P fo bp tp r L Hs fl ft fh :=
 h.oth hw hf (fun q => by cases q) (fun q => by cases q) (fun q => by cases q) (fun q => by cases q) (fun b k q => by cases q) (fun z q => by subst q; exact h2) (fun f q => .inl q)
theorem PB.box {b : Nat} {cs : List V} (h : PB X A B pp P fo bp tp r L Hs fl ft fh) (hw : WF A) (hf : Fr (· = .row b) B C) (hb : B.blk[b]? = some ⟨cs, .var⟩) (h1 : b ≠ pp /\ b ≠ bp /\ b ≠ tp) (h2 : A.blk.length <= b) : PB X A C pp P fo bp tp r L Hs fl ft fh :=
 h.oth hw hf (fun q => by cases q; exact h1.1 rfl) (fun q => by cases q; exact h1.2.1 rfl) (fun q => by cases q; exact h1.2.2 rfl) (fun q => by cases q) (.box hb) (fun z q => by subst q; exact h2) (fun f q => .inl q)
theorem BG4 (a b : Int) : evMM (fun x y => if y < x then y else x) [.int .i64 a, .int .i64 b] = some (.int .i64 (min a b)) := by
 show foldMM _ _ _ _ = _
 simp only [foldMM, if_true]
 congr 2
 split <;> omega
theorem A33 {P : List Bts} {i : Nat} {x : Bts} (hx : P[i]? = some x) (w : Int) : (cntP (P.take (i + 1)) w : Int) = if w = (nmOf x).1 then (cntP (P.take i) (nmOf x).1 : Int) + 1 else cntP (P.take i) w := by
 unfold cntP
 rw [AK6 hx]
 by_cases q : w = (nmOf x).1
 . subst q; simp
 . have : ¬ (nmOf x).1 = w := fun z => q z.symm
   simp [q, this]
theorem Bs2 (P : List Bts) (i : Nat) (w : Int) : cntP (P.take i) w <= cntP P w := ((List.take_sublist i P).filter _).length_le
theorem A78 {P : List Bts} (h : OnceN P) : doneP (P.drop 8) (P.take 8) = P.drop 8 := by
 have h1 := AR3 (L := []) (P := P) h 8
 rw [List.nil_append] at h1
 conv => lhs; rw [<- h1]
 rw [<- h1]
 unfold doneP
 rw [List.filter_filter]
 congr 1; funext x; simp
set_option maxRecDepth 10000 in
set_option maxHeartbeats 32000000 in
theorem poolBounds_spec {v : V} {xs : List Bts} (hw0 : WF A) (hm0 : m.on A) (hl : Slc (eSl eU8) m v xs) :
 ∃ w A', EvF Try.prog HH 14 [v] A w A' /\ w = .bool true := by
 refine Aa3 rfl Try.func14 (by unfold Try.f14; rfl) Try.ntmps14 (by unfold Try.f14; rfl) (by simp) ?_
 have hlen := fun B => hl.len (P := Try.prog) Try.underlying22 B
 obtain ⟨Av, ev, fv, rv, nv⟩ := Aa9 A [.bool false]
 obtain ⟨b2, hb2⟩ : ∃ b, b = A.blk.length := ⟨_, rfl⟩
 rw [<- hb2] at rv nv
 have out : ∀ {B : AS} (b : Bool), B.blk[b2]? = some ⟨[.bool false], .var⟩ -> ∃ C, evStore Try.prog 4 (.ptr b2 0) (.bool b) B = some C /\ evLoad Try.prog 4 (.ptr b2 0) C = some (.bool b) := fun {B} b h => by
  obtain ⟨C, t1, t2, t3, t4⟩ := Ag4 (P := Try.prog) (t := 4) (x := .bool b) h rfl sz4 rfl
  exact ⟨C, t1, Aa8 ag4 t3⟩
 obtain ⟨C0, o1, o2⟩ := out true rv
 have hw := fv.wf hw0
 have hm := hm0.fr0 fv
 simp only [RT, Q0, Q1, Q2, Q3, Q4, Q5, Q6, Q7, Q8, zc4, <- ev, <- hb2]
 refine Aa0 (A90 rfl) ?_
 by_cases c1 : (xs.length : Int) > 60
 . simp only [RT, Q0, Q1, Q2, Q3, Q4, Q5, Q6, Q7, Q8, hlen, decide_eq_true c1, o1, o2]
 clear o1 o2 C0
 obtain ⟨_, A1, _, A2, pp, bp, tp, r, ft0, k1, k2, rfl, rfl, hP0⟩ := Bv4 (X := fun _ => False) hw (fun f q => q)
 simp only [RT, Q0, Q1, Q2, Q3, Q4, Q5, Q6, Q7, Q8, hlen, decide_eq_false c1]
 refine Aa0 k1 ?_
 simp only [RT, Q0, Q1, Q2, Q3, Q4, Q5, Q6, Q7, Q8]
 refine Aa0 k2 ?_
 simp only [RT, Q0, Q1, Q2, Q3, Q4, Q5, Q6, Q7, Q8, B03, BZ8, hlen]
 refine Aa2 (fun z e B => ∃ (i : Nat) (P : List Bts) (fo fl ft fh : Option Nat), z = xs.length - i /\ i <= xs.length /\ e.get 29 = .int .i64 i /\ e.get 28 = .int .i64 xs.length /\ e.get 27 = v /\ e.get 2 = .ptr b2 0 /\ e.get 3 = .ptr pp 0 /\ e.get 4 = .ptr bp 0 /\ PB (fun _ => False) Av B pp P fo bp tp r [] [] fl ft fh)
  (fun z e B => Is z (.exit 0) /\ ∃ (P : List Bts) (fo fl ft fh : Option Nat), e.get 2 = .ptr b2 0 /\ e.get 3 = .ptr pp 0 /\ e.get 4 = .ptr bp 0 /\ PB (fun _ => False) Av B pp P fo bp tp r [] [] fl ft fh)
  ⟨_, 0, [], none, none, ft0, none, rfl, by omega, rfl, rfl, rfl, by rw [hb2]; rfl, rfl, rfl, hP0⟩ ?_ ?_
 . rintro z e B ⟨i, P, fo, fl, ft, fh, rfl, hi, h29, h28, h27, h2, h3, h4, hP⟩
   simp only [RT, Q0, Q1, Q2, Q3, Q4, Q5, Q6, Q7, Q8, h29, h28]
   refine Aa1 (fun q1 => ?_) (fun q1 => ?_)
   rotate_left
   . simp only [RT, Q0, Q1, Q2, Q3, Q4, Q5, Q6, Q7, Q8]
     exact ⟨rfl, P, fo, fl, ft, fh, h2, h3, h4, hP⟩
   obtain ⟨x, hx⟩ := Ad4 (l := xs) (i := i) (by omega)
   have hmB := hm.fr0 hP.fr
   obtain ⟨b, o, c, y3, y4, y5⟩ := hl.at (P := Try.prog) (k := .i64) hmB Try.underlying22 A56 A17 hx
   rw [AU3] at y5
   have hcl := fun B => y5.len (P := Try.prog) Try.underlying44 B
   have hwi : IntKind.i64.wrap ((i : Int) + 1) = ((i + 1 : Nat) : Int) := by rw [Ae7 (by omega)]
   by_cases d1 : (x.length : Int) <= 3000
   rotate_left
   . simp only [RT, Q0, Q1, Q2, Q3, Q4, Q5, Q6, Q7, Q8, h27, h29, y3, y4, hcl, decide_eq_false d1, hwi]
     refine ⟨xs.length - (i + 1), by omega, i + 1, P, fo, fl, ft, fh, rfl, by omega, ?_⟩
     and_intros <;> first | rfl | assumption
   obtain ⟨C, fo', k3, f3, _, hP'⟩ := hP.put hw (fun f q => q.elim) hmB y5 (by omega)
   simp only [RT, Q0, Q1, Q2, Q3, Q4, Q5, Q6, Q7, Q8, h27, h29, y3, y4, hcl, decide_eq_true d1, h3]
   refine Aa0 k3 ?_
   simp only [RT, Q0, Q1, Q2, Q3, Q4, Q5, Q6, Q7, Q8, h29, hwi]
   refine ⟨xs.length - (i + 1), by omega, i + 1, putP P x, fo', fl, ft, fh, rfl, by omega, ?_⟩
   and_intros <;> first | rfl | assumption
 clear hP0
 rintro z e B hz ⟨rfl, P, fo, fl, ft, fh, h2, h3, h4, hP⟩
 have hok := hP.po.ok
 have hP24 := hok.len
 have wB := hP.fr.wf hw
 obtain ⟨B1, eB1⟩ : ∃ X, X = B.pushMap ⟨[], 0⟩ := ⟨_, rfl⟩
 have g1 : Fr S0 B B1 := by rw [eB1]; exact Fr.pushMap B _
 obtain ⟨rm, hrm⟩ : ∃ r, r = B.maps.length := ⟨_, rfl⟩
 have hM1 : MapIs B1 rm evI evI [] := by rw [eB1, hrm]; exact MapIs.new B
 have hrl := hP.bk.raw.rl
 have hrA : Av.maps.length <= rm := by have := hP.fr.mlen; omega
 obtain ⟨B2, s1, g2, s3, _⟩ := Af8 (P := Try.prog) B1 (z := [.mnil]) (t := 86) (x := .map rm) (cs := [.map rm]) rfl B16 rfl rfl
 obtain ⟨b7, hb7⟩ : ∃ b, b = B1.blk.length := ⟨_, rfl⟩
 rw [<- hb7] at s1 s3
 have hP2 := (hP.fr0 g1).fr0 g2
 obtain ⟨_, B3, k3, rfl, g3, y1, y2⟩ := AH2 (A := B2) (pp := pp) 100
 have hP3 := hP2.fr0 g3
 have w3 := hP3.fr.wf hw
 have s33 := g3.row0 s3
 have hM3 : MapIs B3 rm evI evI [] := (hM1.fr g2 fun q => q).fr g3 fun q => q
 have rvB : ∀ {C : AS}, Fr S0 Av C -> C.blk[b2]? = some ⟨[.bool false], .var⟩ := fun q => q.row0 rv
 have hlv := Ac6 rv
 have hxs : P.take (100 : Int).toNat = P := List.take_of_length_le (by show P.length <= 100; omega)
 simp only [RT, Q0, Q1, Q2, Q3, Q4, Q5, Q6, Q7, Q8, BQ6, <- eB1, <- hrm, B17, <- hb7, s1, h3]
 refine Aa0 k3 ?_
 simp only [RT, Q0, Q1, Q2, Q3, Q4, Q5, Q6, Q7, Q8]
 refine AV5 (S := (· = .map rm)) (T := S0) (K := fun r => arrHp B3 r ≠ none ∨ r = B2.blk.length + 1) (Fin := fun _ => True) (AR := argPf) (xs := P)
  (fun i C => PB (fun _ => False) Av C pp P fo bp tp r [] [] fl ft fh /\ C.blk[b7]? = some ⟨[.map rm], .var⟩ /\ ∃ Ml, MapIs C rm evI evI Ml /\ ∀ w, cntL Ml w = (cntP (P.take i) w : Int)) (fun z C => False)
  rfl (fun q => by cases q) (fun q => q) ?_ ⟨hP3, s33, [], hM3, fun w => by unfold cntP; simp [cntL, lookL]⟩ ?_ (fun _ _ _ q => q.elim) Try.func14 Try.ntmps14 (by simp) ?_ ?_ (fun _ _ _ q => q.elim)
 . intro A0 hf0 hblk
   have g := AB8 (S := orLoop (· = .map rm) B3.loops.length) (hf0.wf w3) (hP3.po.fr0 hf0) (hf0.row0 y1) (hf0.row0 y2)
   have e : arrHp A0 = arrHp B3 := by funext r; unfold arrHp; rw [hblk]
   rw [e, hxs] at g; exact g
 . rintro i C D ⟨q1, q2, Ml, q3, q4⟩ hf
   exact ⟨q1.loop hw hf hP3.fr.llen, hf.row _ _ q2 (fun y => by cases y), Ml, q3.fr hf (fun y => by cases y), q4⟩
 . rintro i x C D args hi ⟨q1, q2, Ml, q3, q4⟩ hCD hfD ⟨w, rfl, hnw⟩
   refine ⟨_, rfl, ?_⟩
   simp only [RT, Q0, Q1, Q2, Q3, Q4, Q5, Q6, Q7, Q8]
   refine ⟨rfl, .refl _ _, fun E hE => ?_⟩
   have q1E := (q1.fr0 hCD).loop hw hE hP3.fr.llen
   have q2E := hE.row _ _ (hCD.row0 q2) (fun y => by cases y)
   have q3E := (q3.fr hCD fun q => q).fr hE (fun y => by cases y)
   have wE := q1E.fr.wf hw
   have hwx : Slc eU8 (qHp (fun _ => False) E) w x := (hnw.slcQ (X := fun _ => False) (fun f q => q.elim)).mono (Ad9 hE (fun b k q => by cases q) ((q1.fr0 hCD).fr.wf hw) fun f q => .inl q)
   have hxe := hok.ent x (List.mem_of_getElem? hi)
   obtain ⟨_, F, p1, j1, X, dv, iv, lw, rfl, z1, z2⟩ := Al4 wE (AV4 _ E) hwx (by have := AR0 hxe; omega)
   have hX := z2 hxe
   have hwho : X.who = (nmOf x).1 := by rw [hX]; rfl
   obtain ⟨G, t1, t2, t3⟩ := Ao4 (A := F) z1
   have ldm := ldM t3 z1.id
   have fam := faM F.blk.length
   have jG := j1.then0 t2
   have q3G := q3E.fr jG (fun q => q)
   have q2G := jG.row0 q2E
   have hcl := Bs2 P i (nmOf x).1
   have hc3 := hok.cnt (nmOf x).1
   have hcq := q4 (nmOf x).1
   have hlk := A29 q3G X.who
   rw [hwho, hcq] at hlk
   obtain ⟨I, u1, u2, u3⟩ := q3G.upd (P := Try.prog) BW6 BW7 X.who ((cntP (P.take i) (nmOf x).1 : Int) + 1)
   have u1 : evMapUpdate Try.prog 86 (.map rm) (.int .i64 X.who) (.int .i64 ((cntP (P.take i) (nmOf x).1 : Int) + 1)) G = some I := u1
   rw [hwho] at u1 u3
   have hlk2 := A29 u3 (nmOf x).1
   rw [AK3, if_pos rfl] at hlk2
   have q2I := u2.row _ _ q2G (fun y => by cases y)
   have t3I := u2.row _ _ t3 (fun y => by cases y)
   have ldmI := ldM t3I z1.id
   have hwc : IntKind.i64.wrap ((cntP (P.take i) (nmOf x).1 : Int) + 1) = (cntP (P.take i) (nmOf x).1 : Int) + 1 := by rw [Ad8 (by omega) (by omega)]
   have hcnt := A33 hi (nmOf x).1
   rw [if_pos rfl] at hcnt
   have hcl2 := Bs2 P (i + 1) (nmOf x).1
   refine Aa0 p1 ?_
   simp only [RT, Q0, Q1, Q2, Q3, Q4, Q5, Q6, Q7, Q8, zcM, t1, hxe, Aa8 BX7 q2G, fam, ldm, hwho, hlk, hwc, u1, Aa8 BX7 q2I, ldmI, hlk2, decide_eq_false (show ¬ (cntP (P.take i) (nmOf x).1 : Int) + 1 > 3 by omega)]
   have fEI : Fr (· = .map rm) E I := jG.after0 u2
   refine ⟨fEI, .inl ⟨rfl, ⟨(q1E.fr0 jG).mapU hw u2 (by omega) hrA, q2I, _, u3, fun w => ?_⟩, fun r hr => ?_⟩⟩
   . rw [AK3, A33 hi w]
     split
     . rfl
     . exact q4 w
   . cases hr' : D.blk[r]? with
     | some k => exact fEI.row _ _ (hE.row _ _ hr' fun q => by cases q) (fun q => by cases q)
     | none =>
      exfalso
      have hlD := hfD.len
      have h1 := List.getElem?_eq_none_iff.1 hr'
      rcases hr with hr | hr
      . exact hr ((Ah2 B3).fresh (by omega))
      . have := Ac6 y2; omega
 rintro C D ⟨q1, _⟩ hCD _ hBD
 have hPD : PB (fun _ => False) Av D pp P fo bp tp r [] [] fl ft fh := q1.oth hw hCD (fun q => by rcases q with q | q; exact q; cases q) (fun q => by rcases q with q | q; exact q; cases q) (fun q => by rcases q with q | q; exact q; cases q) (fun q => by rcases q with q | q; exact q; cases q) (fun b k q => by rcases q with q | q; exact q.elim; cases q) (fun z q => by
  rcases q with q | q
  . exact q.elim
  . subst q; exact hP3.fr.llen) (fun f q => .inl q)
 have kl := Ax8 hPD.po
 obtain ⟨w, C1, C2, C3, Hs', fl', ft', fh', r1, r2, r3, hP', _, _⟩ := hPD.round hw (fun f q => q.elim) hok.one (by simp; omega) (by simp)
 have kl2 := Ax8 hP'.po
 obtain ⟨C4, r4, _, hP''⟩ := hP'.done hw
 rw [List.nil_append] at r4 hP''
 rw [A78 hok.one] at r4
 rw [List.length_drop] at kl2
 have hz0 : ((P.drop 8).length : Int) - ((P.drop 8).length : Int) = 0 := by omega
 rw [hz0] at r4
 have hwd : IntKind.i64.wrap ((P.length : Int) - ((min 8 P.length : Nat) : Int)) = (P.length : Int) - ((min 8 P.length : Nat) : Int) := Ad8 (by omega) (by omega)
 have e1 : ((min 8 P.length : Nat) : Int) = min (P.length : Int) 8 := by omega
 have e2 : ((P.length - 8 : Nat) : Int) = (P.length : Int) - ((min 8 P.length : Nat) : Int) := by omega
 obtain ⟨C0, o1, o2⟩ := out true (rvB hP''.fr)
 simp only [RT, Q0, Q1, Q2, Q3, Q4, Q5, Q6, Q7, Q8, h3]
 refine Aa0 kl ?_
 simp only [RT, Q0, Q1, Q2, Q3, Q4, Q5, Q6, Q7, Q8, decide_eq_false (show ¬ (P.length : Int) > 24 by omega), h3]
 refine Aa0 r1 ?_
 simp only [RT, Q0, Q1, Q2, Q3, Q4, Q5, Q6, Q7, Q8, h4]
 refine Aa0 r2 ?_
 simp only [RT, Q0, Q1, Q2, Q3, Q4, Q5, Q6, Q7, Q8, BG4, decide_eq_true e1, h3, h4]
 refine Aa0 r3 ?_
 simp only [RT, Q0, Q1, Q2, Q3, Q4, Q5, Q6, Q7, Q8, h3]
 refine Aa0 kl2 ?_
 simp only [RT, Q0, Q1, Q2, Q3, Q4, Q5, Q6, Q7, Q8, hwd, decide_eq_true e2, h3, h4]
 refine Aa0 r4 ?_
 simp only [RT, Q0, Q1, Q2, Q3, Q4, Q5, Q6, Q7, Q8, h2, o1, o2]
end
end Go.Sv.Try
