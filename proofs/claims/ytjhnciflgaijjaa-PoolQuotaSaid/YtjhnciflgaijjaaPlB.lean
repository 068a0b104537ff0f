/- PoolFair, on the abstract machine. -/
import Derived.Test.YtjhnciflgaijjaaPlA
set_option linter.unusedSimpArgs false
set_option linter.unusedVariables false
open Nat renaming reduceLT → Q0, reduceBEq → Q1, reduceEqDiff → Q2, reduceAdd → Q3
open Int renaming reduceEq → Q4, reduceLT → Q5, reduceLE → Q6, reduceGT → Q7, reduceGE → Q8
namespace Go.Sv.Try
open Go Go.Proofs
section
variable {A B C : AS} {m : Hp} {X Y : Nat -> Prop} {pp bp tp r : Nat} {P L : List Bts} {fo fl ft fh : Option Nat} {S : Loc -> Prop} {Hs : List HdP}
theorem B15 (b : Nat) : evEq Try.prog 41 (.ptr b 0) .pnil = some false := by kernel_rfl
theorem PB.oth (h : PB X A B pp P fo bp tp r L Hs fl ft fh) (hw : WF A) (hf : Fr S B C) (h1 : ¬ S (.row pp)) (h2 : ¬ S (.row bp)) (h3 : ¬ S (.row tp)) (h4 : ¬ S (.map r)) (hT : Tch X B S) (hA : ∀ z, S z -> z.newTo A) (hY : ∀ f, Y f -> X f ∨ B.blk.length <= f) : PB Y A C pp P fo bp tp r L Hs fl ft fh := by
 have hwB := h.fr.wf hw
 have lb := Bd4 h.bk.raw
 have lo := h.po.lt.2
 refine { h with fr := h.fr.trans hf fun z q => .inr (hA z q), po := h.po.oth hwB hf h1 (hT.mono fun f q => .inl q) (fun f q z => ?_) (fun f q => ?_), bk := h.bk.oth hwB hf h2 h3 h4 (hT.mono fun f q => .inl q) (fun f q z => ?_) (fun f q => ?_), dx := fun f q => ?_ }
 . rcases z with z | z
   . exact (h.dx f z).2 q
   . exact h.d f z q
 . rcases q with q | q
   . exact (hY f q).imp .inl id
   . exact .inl (.inr q)
 . rcases z with z | z | z | z
   . exact (h.dx f z).1 q
   . exact h.d f q z
   . cases z
   . cases z
 . rcases q with q | q
   . exact (hY f q).imp .inl id
   . exact .inl (.inr q)
 . rcases hY f q with y | y
   . exact h.dx f y
   . exact ⟨fun z => by have := lb f z; omega, fun z => by have := lo f z; omega⟩
end
end Go.Sv.Try
namespace Go.Sv.Try
open Go Go.Proofs
section
variable {A B C : AS} {m : Hp} {X Y : Nat -> Prop} {pp bp tp r : Nat} {P L : List Bts} {fo fl ft fh : Option Nat} {S : Loc -> Prop} {Hs : List HdP}
theorem PB.mapU {k : Nat} (h : PB X A B pp P fo bp tp r L Hs fl ft fh) (hw : WF A) (hf : Fr (· = .map k) B C) (h1 : k ≠ r) (h2 : A.maps.length <= k) : PB X A C pp P fo bp tp r L Hs fl ft fh :=
 h.oth hw hf (fun q => by cases q) (fun q => by cases q) (fun q => by cases q) (fun q => by cases q; exact h1 rfl) (fun b k q => by cases q) (fun z q => by subst q; exact h2) (fun f q => .inl q)
theorem PB.loop {k : Nat} (h : PB X A B pp P fo bp tp r L Hs fl ft fh) (hw : WF A) (hf : Fr (· = .loop k) B C) (h2 : A.loops.length <= k) : PB X A C pp P fo bp tp r L Hs fl ft fh :=
 h.oth hw hf (fun q => by cases q) (fun q => by cases q) (fun q => by cases q) (fun q => by cases q) (fun b k q => by cases q) (fun z q => by subst q; exact h2) (fun f q => .inl q)
theorem PB.box {b : Nat} {cs : List V} (h : PB X A B pp P fo bp tp r L Hs fl ft fh) (hw : WF A) (hf : Fr (· = .row b) B C) (hb : B.blk[b]? = some ⟨cs, .var⟩) (h1 : b ≠ pp /\ b ≠ bp /\ b ≠ tp) (h2 : A.blk.length <= b) : PB X A C pp P fo bp tp r L Hs fl ft fh :=
 h.oth hw hf (fun q => by cases q; exact h1.1 rfl) (fun q => by cases q; exact h1.2.1 rfl) (fun q => by cases q; exact h1.2.2 rfl) (fun q => by cases q) (.box hb) (fun z q => by subst q; exact h2) (fun f q => .inl q)
end
end Go.Sv.Try
namespace Go.Sv.Try
open Go Go.Proofs
section
variable {A B C : AS} {m : Hp} {X Y : Nat -> Prop} {pp bp tp r : Nat} {P L : List Bts} {fo fl ft fh : Option Nat} {S : Loc -> Prop} {Hs : List HdP}
theorem Bd5 {w k : Int} (h1 : 0 <= w /\ w <= 15) (h2 : 1 <= k /\ k <= 10000) : entC (writeB (entM w k [])) = 0 /\ nmOf (writeB (entM w k [])) = (w, k) /\ entryE w k [] = 0 := by
 have hc := AH7 (x := []) (w := w) (n := k) ⟨h1.1, by omega⟩ ⟨by omega, by omega⟩ (by simp)
 exact ⟨A30 hc h1.2 h2.1 (by simp), Bl2 hc, Bc9 h1 ⟨h2.1, by omega⟩ (by simp)⟩
theorem A35 {P : List Bts} {x : Bts} (hok : PoOk P) (h1 : entC x = 0) (h2 : ∀ y ∈ P, nmOf y ≠ nmOf x) (h3 : P.length ≠ 24) : putC P x = if cntP P (nmOf x).1 < 3 then 0 else 120 := by
 have hc := hok.cnt (nmOf x).1
 unfold putC
 rw [if_neg (by simp [h1]), if_neg (fun ⟨y, hy, q⟩ => h2 y hy q)]
 by_cases q : cntP P (nmOf x).1 < 3
 . rw [if_neg (by omega), if_neg h3, if_pos q]
 . rw [if_pos (by omega), if_neg q]
theorem Bw3 (P : List Bts) (x : Bts) (w : Int) : cntP (P ++ [x]) w = if w = (nmOf x).1 then cntP P (nmOf x).1 + 1 else cntP P w := by
 unfold cntP
 rw [List.filter_append, List.length_append]
 by_cases q : w = (nmOf x).1
 . subst q; simp
 . have : ¬ (nmOf x).1 = w := fun z => q z.symm
   simp [q, this]
theorem Bd6 {k : Nat} : ¬ poS B pp fo (.map k) := by
 rintro (q | q)
 . cases q
 . cases fo <;> exact q.elim
set_option maxRecDepth 10000 in
set_option maxHeartbeats 32000000 in
theorem poolQuota_spec {v : V} {ws : List Int} (hw : WF A) (hm : m.on A) (hl : Slc (eInt .i64) m v ws) :
 ∃ w A', EvF Try.prog HH 15 [v] A w A' /\ w = .bool true := by
 refine Aa3 rfl Try.func15 (by unfold Try.f15; rfl) Try.ntmps15 (by unfold Try.f15; rfl) (by simp) ?_
 have hlen := fun B => hl.len (P := Try.prog) Try.underlying52 B
 simp only [RT, Q0, Q1, Q2, Q3, Q4, Q5, Q6, Q7, Q8]
 refine Aa0 (A92 rfl) ?_
 by_cases c1 : (ws.length : Int) > 20
 . simp only [RT, Q0, Q1, Q2, Q3, Q4, Q5, Q6, Q7, Q8, hlen, decide_eq_true c1]
 obtain ⟨_, A1, _, A2, pp, bp, tp, r, ft0, k1, k2, rfl, rfl, hP0⟩ := Bw2 (X := fun _ => False) hw (fun f q => q)
 simp only [RT, Q0, Q1, Q2, Q3, Q4, Q5, Q6, Q7, Q8, hlen, decide_eq_false c1]
 refine Aa0 k1 ?_
 simp only [RT, Q0, Q1, Q2, Q3, Q4, Q5, Q6, Q7, Q8]
 refine Aa0 k2 ?_
 obtain ⟨A3, e3⟩ : ∃ X, X = A2.pushMap ⟨[], 0⟩ := ⟨_, rfl⟩
 have g3 : Fr S0 A2 A3 := by rw [e3]; exact Fr.pushMap A2 _
 obtain ⟨rn, hrn⟩ : ∃ r, r = A2.maps.length := ⟨_, rfl⟩
 have hN3 : MapIs A3 rn evI evI [] := by rw [e3, hrn]; exact MapIs.new A2
 obtain ⟨A4, e4⟩ : ∃ X, X = A3.pushMap ⟨[], 0⟩ := ⟨_, rfl⟩
 have g4 : Fr S0 A3 A4 := by rw [e4]; exact Fr.pushMap A3 _
 obtain ⟨rk, hrk⟩ : ∃ r, r = A3.maps.length := ⟨_, rfl⟩
 have hK4 : MapIs A4 rk evI evI [] := by rw [e4, hrk]; exact MapIs.new A3
 have hN4 : MapIs A4 rn evI evI [] := hN3.fr g4 fun q => q
 have hrl := hP0.bk.raw.rl
 have hrnA : A.maps.length <= rn := by have := hP0.fr.mlen; omega
 have hm3 : A3.maps.length = A2.maps.length + 1 := by rw [e3]; simp [AS.pushMap]
 have hP4 := (hP0.fr0 g3).fr0 g4
 simp only [RT, Q0, Q1, Q2, Q3, Q4, Q5, Q6, Q7, Q8, B15, B10, BR8, <- e3, <- hrn, <- e4, <- hrk, hlen]
 refine Aa2 (fun z e B => ∃ (i : Nat) (P : List Bts) (fo fl ft fh : Option Nat) (Mn Mk : List (Int × Int)), z = ws.length - i /\ i <= ws.length /\ e.get 32 = .int .i64 i /\ e.get 31 = .int .i64 ws.length /\ e.get 30 = v /\ e.get 3 = .ptr pp 0 /\ e.get 4 = .ptr bp 0 /\ e.get 5 = .map rn /\ e.get 6 = .map rk /\ PB (fun _ => False) A B pp P fo bp tp r [] [] fl ft fh /\ MapIs B rn evI evI Mn /\ MapIs B rk evI evI Mk /\ P.length <= i /\ (∀ w, cntL Mn w = (cntP P w : Int)) /\ (∀ w, 0 <= cntL Mk w /\ cntL Mk w <= i) /\ ∀ x ∈ P, (nmOf x).2 <= cntL Mk (nmOf x).1)
  (fun z e B => (Is z .ret /\ e.get 2 = .bool true) ∨ (Is z (.exit 0) /\ ∃ (P : List Bts) (fo fl ft fh : Option Nat), e.get 3 = .ptr pp 0 /\ e.get 4 = .ptr bp 0 /\ P.length <= 20 /\ PB (fun _ => False) A B pp P fo bp tp r [] [] fl ft fh))
  ⟨_, 0, [], none, none, ft0, none, [], [], rfl, by omega, rfl, rfl, rfl, rfl, rfl, rfl, rfl, hP4, hN4, hK4, by simp, fun w => by unfold cntP; simp [cntL, lookL], fun w => by simp [cntL, lookL], fun x q => by cases q⟩ ?_ ?_
 . rintro z e B ⟨i, P, fo, fl, ft, fh, Mn, Mk, rfl, hi, h32, h31, h30, h3, h4, h5, h6, hP, hN, hK, hPl, hn, hk, hx⟩
   simp only [RT, Q0, Q1, Q2, Q3, Q4, Q5, Q6, Q7, Q8, h32, h31]
   refine Aa1 (fun q1 => ?_) (fun q1 => ?_)
   rotate_left
   . simp only [RT, Q0, Q1, Q2, Q3, Q4, Q5, Q6, Q7, Q8]
     exact .inr ⟨rfl, P, fo, fl, ft, fh, h3, h4, by omega, hP⟩
   obtain ⟨w, hw'⟩ := Ad4 (l := ws) (i := i) (by omega)
   obtain ⟨b, o, c, y3, y4, y5⟩ := hl.at (P := Try.prog) (k := .i64) (hm.fr0 hP.fr) Try.underlying52 sz3 ag3 hw'
   rw [BH9.1 y5] at y4
   by_cases d1 : w < 0
   . simp only [RT, Q0, Q1, Q2, Q3, Q4, Q5, Q6, Q7, Q8, h30, h32, y3, y4, decide_eq_true d1]
     exact .inl rfl
   by_cases d2 : w > 5
   . simp only [RT, Q0, Q1, Q2, Q3, Q4, Q5, Q6, Q7, Q8, h30, h32, y3, y4, decide_eq_false d1, decide_eq_true d2]
     exact .inl rfl
   obtain ⟨hk1, hk2⟩ := hk w
   have hwk : IntKind.i64.wrap (cntL Mk w + 1) = cntL Mk w + 1 := Ad8 (by omega) (by omega)
   have wB := hP.fr.wf hw
   obtain ⟨C, u1, u2, u3⟩ := hK.upd (P := Try.prog) BR1 BR9 w (cntL Mk w + 1)
   have u1 : evMapUpdate Try.prog 86 (.map rk) (.int .i64 w) (.int .i64 (cntL Mk w + 1)) B = some C := u1
   have lk1 := AK9 hK w
   have lk2 := AK9 u3 w
   rw [Ar6, if_pos rfl] at lk2
   have hPC := hP.mapU hw u2 (by omega) (by omega)
   have hNC := hN.fr u2 (fun q => by cases q; omega)
   obtain ⟨x, hxe⟩ : ∃ x, x = writeB (entM w (cntL Mk w + 1) []) := ⟨_, rfl⟩
   obtain ⟨en1, en2, en3⟩ := Bd5 (w := w) (k := cntL Mk w + 1) ⟨by omega, by omega⟩ ⟨by omega, by omega⟩
   obtain ⟨_, D, k3, f3, u, rfl, _, ho⟩ := AH4 (who := w) (num := cntL Mk w + 1) (x := []) (v := .snil) (hPC.fr.wf hw) (Hp.on_emp C) (.inl ⟨rfl, rfl⟩) (by simp)
   have ho := ho en3
   rw [en3] at k3
   rw [<- hxe] at en1 en2 ho
   have hPD := hPC.fr0 f3
   have hxs := ho.arrBts
   have hxl := AC0 en1
   obtain ⟨E, fo', k4, f4, _, hPE⟩ := hPD.put hw (fun f q => q.elim) (Af6 D) hxs (by omega)
   have hKE := (u3.fr f3 fun q => q).fr f4 Bd6
   have hNE := (hNC.fr f3 fun q => q).fr f4 Bd6
   have hcode := A35 hP.po.ok en1 (fun y hy q => by
    have := hx y hy
    rw [en2] at q
    rw [q] at this
    simp at this
    omega) (by omega)
   rw [en2] at hcode
   have lk3 := AK9 hNE w
   rw [hn w] at lk3
   have hwi : IntKind.i64.wrap ((i : Int) + 1) = ((i + 1 : Nat) : Int) := by rw [Ae4 (by omega)]
   have hk' : ∀ z, 0 <= cntL (setL Mk w (cntL Mk w + 1)) z /\ cntL (setL Mk w (cntL Mk w + 1)) z <= ((i + 1 : Nat) : Int) := fun z => by
    rw [Ar6]; have := hk z; split <;> omega
   have hxk : ∀ y ∈ P, (nmOf y).2 <= cntL (setL Mk w (cntL Mk w + 1)) (nmOf y).1 := fun y hy => by
    rw [Ar6]; have := hx y hy; split
    . rename_i q; rw [q] at this; omega
    . exact this
   simp only [RT, Q0, Q1, Q2, Q3, Q4, Q5, Q6, Q7, Q8, h30, h32, y3, y4, decide_eq_false d1, decide_eq_false d2, h6, lk1, hwk, u1, lk2]
   refine Aa0 k3 ?_
   simp only [RT, Q0, Q1, Q2, Q3, Q4, Q5, Q6, Q7, Q8, h3]
   refine Aa0 k4 ?_
   by_cases d3 : cntP P w < 3
   . have hc0 : putC P x = 0 := by rw [hcode, if_pos d3]
     have hpp : putP P x = P ++ [x] := if_pos hc0
     rw [hpp] at hPE
     obtain ⟨G, t1, t2, t3⟩ := hNE.upd (P := Try.prog) BR1 BR9 w ((cntP P w : Int) + 1)
     have t1 : evMapUpdate Try.prog 86 (.map rn) (.int .i64 w) (.int .i64 ((cntP P w : Int) + 1)) E = some G := t1
     have hwc : IntKind.i64.wrap ((cntP P w : Int) + 1) = (cntP P w : Int) + 1 := Ad8 (by omega) (by omega)
     have hPG := hPE.mapU hw t2 (by omega) hrnA
     have hKG := hKE.fr t2 (fun q => by cases q; omega)
     have hn' : ∀ z, cntL (setL Mn w ((cntP P w : Int) + 1)) z = (cntP (P ++ [x]) z : Int) := fun z => by
      rw [Ar6, Bw3, en2]
      split
      . simp
      . exact hn z
     have hx' : ∀ y ∈ P ++ [x], (nmOf y).2 <= cntL (setL Mk w (cntL Mk w + 1)) (nmOf y).1 := fun y hy => by
      rcases List.mem_append.1 hy with hy | hy
      . exact hxk y hy
      . rw [List.mem_singleton.1 hy, en2, Ar6, if_pos rfl]; exact Int.le_refl _
     have hPl' : (P ++ [x]).length <= i + 1 := by rw [List.length_append]; simp; omega
     simp only [RT, Q0, Q1, Q2, Q3, Q4, Q5, Q6, Q7, Q8, h5, lk3, hc0, decide_eq_true (show (cntP P w : Int) < 3 by omega), Bh4, BY0, hwc, t1, h32, hwi]
     refine ⟨ws.length - (i + 1), by omega, i + 1, P ++ [x], fo', fl, ft, fh, setL Mn w ((cntP P w : Int) + 1), setL Mk w (cntL Mk w + 1), rfl, by omega, ?_⟩
     and_intros <;> first | rfl | assumption
   . have hc0 : putC P x = 120 := by rw [hcode, if_neg d3]
     have hpp : putP P x = P := if_neg (by rw [hc0]; decide)
     rw [hpp] at hPE
     have hPl' : P.length <= i + 1 := by omega
     simp only [RT, Q0, Q1, Q2, Q3, Q4, Q5, Q6, Q7, Q8, h5, lk3, hc0, decide_eq_false (show ¬ (cntP P w : Int) < 3 by omega), Bh4, BY0, h32, hwi]
     refine ⟨ws.length - (i + 1), by omega, i + 1, P, fo', fl, ft, fh, Mn, setL Mk w (cntL Mk w + 1), rfl, by omega, ?_⟩
     and_intros <;> first | rfl | assumption
 rintro z e B hz (⟨rfl, h2⟩ | ⟨rfl, P, fo, fl, ft, fh, h3, h4, hP20, hP⟩)
 . simp only [RT, Q0, Q1, Q2, Q3, Q4, Q5, Q6, Q7, Q8, h2]
 have hok := hP.po.ok
 simp only [RT, Q0, Q1, Q2, Q3, Q4, Q5, Q6, Q7, Q8]
 refine Aa2 (fun z e C => ∃ (k : Nat) (Hs : List HdP) (fl ft fh : Option Nat), z = 3 - k /\ k <= 3 /\ Hs.length = k /\ e.get 12 = .int .i64 k /\ e.get 3 = .ptr pp 0 /\ e.get 4 = .ptr bp 0 /\ PB (fun _ => False) A C pp (P.drop (8 * k)) fo bp tp r (P.take (8 * k)) Hs fl ft fh)
  (fun z e C => Is z (.exit 2) /\ ∃ (Hs : List HdP) (fl ft fh : Option Nat), e.get 3 = .ptr pp 0 /\ PB (fun _ => False) A C pp [] fo bp tp r P Hs fl ft fh)
  ⟨_, 0, [], fl, ft, fh, rfl, by omega, rfl, rfl, h3, h4, hP⟩ ?_ ?_
 . clear h3 h4 hP
   rintro z e C ⟨k, Hs, fl, ft, fh, rfl, hk, hHs, h12, h3, h4, hP⟩
   simp only [RT, Q0, Q1, Q2, Q3, Q4, Q5, Q6, Q7, Q8, h12]
   refine Aa1 (fun q1 => ?_) (fun q1 => ?_)
   rotate_left
   . have : k = 3 := by omega
     subst this
     have e1 : P.drop (8 * 3) = [] := List.drop_eq_nil_of_le (by omega)
     have e2 : P.take (8 * 3) = P := List.take_of_length_le (by omega)
     rw [e1, e2] at hP
     simp only [RT, Q0, Q1, Q2, Q3, Q4, Q5, Q6, Q7, Q8]
     exact ⟨rfl, Hs, fl, ft, fh, h3, hP⟩
   have hO : OnceN (P.take (8 * k) ++ P.drop (8 * k)) := by rw [List.take_append_drop]; exact hok.one
   obtain ⟨w, C1, C2, C3, Hs', fl', ft', fh', k1, k2, k3, hP', hH', hfr⟩ := hP.round hw (fun f q => q.elim) hO (by rw [List.length_take, List.length_drop]; omega) (by omega)
   rw [List.drop_drop] at hP'
   rw [<- List.take_add, show 8 * k + 8 = 8 * (k + 1) by omega] at hP'
   have hwk : IntKind.i64.wrap ((k : Int) + 1) = ((k + 1 : Nat) : Int) := by rw [Ae4 (by omega)]
   simp only [RT, Q0, Q1, Q2, Q3, Q4, Q5, Q6, Q7, Q8, h4, h3]
   refine Aa0 k1 ?_
   simp only [RT, Q0, Q1, Q2, Q3, Q4, Q5, Q6, Q7, Q8]
   refine Aa0 k2 ?_
   simp only [RT, Q0, Q1, Q2, Q3, Q4, Q5, Q6, Q7, Q8, h3, h4]
   refine Aa0 k3 ?_
   simp only [RT, Q0, Q1, Q2, Q3, Q4, Q5, Q6, Q7, Q8, h12, hwk]
   refine ⟨3 - (k + 1), by omega, k + 1, Hs', fl', ft', fh', rfl, by omega, by omega, ?_⟩
   and_intros <;> first | rfl | assumption
 clear h3 h4 hP
 rintro z e C hz ⟨rfl, Hs, fl, ft, fh, h3, hP⟩
 have wC := hP.fr.wf hw
 obtain ⟨en1, en2, en3⟩ := Bd5 (w := 2) (k := 1000) ⟨by omega, by omega⟩ ⟨by omega, by omega⟩
 obtain ⟨_, D, k3, f3, u, rfl, _, ho⟩ := AH4 (who := 2) (num := 1000) (x := []) (v := .snil) wC (Hp.on_emp C) (.inl ⟨rfl, rfl⟩) (by simp)
 have ho := ho en3
 rw [en3] at k3
 obtain ⟨x, hxe⟩ : ∃ x, x = writeB (entM 2 1000 []) := ⟨_, rfl⟩
 rw [<- hxe] at en1 en2 ho
 have hPD := hP.fr0 f3
 have kl : EvF Try.prog HH 28 [.ptr pp 0] D (.int .i64 0) D := AR2 hPD.po
 have hxl := AC0 en1
 obtain ⟨E, fo', k4, f4, _, hPE⟩ := hPD.put hw (fun f q => q.elim) (Af6 D) ho.arrBts (by omega)
 have hc0 : putC [] x = 0 := by
  rw [A35 .nil en1 (fun y hy => by cases hy) (by simp)]
  rfl
 have hpp : putP [] x = [x] := if_pos hc0
 rw [hpp] at hPE
 rw [hc0] at k4
 obtain ⟨w, G, k5, f5, _, hb⟩ := Aq8 (hPE.fr.wf hw) hPE.po
 have hb := hb (AC2 hPE.po.ok.ent 8 (Nat.le_refl _))
 have hbl := fun B => hb.len (P := Try.prog) Try.underlying44 B
 have hpos : (writeB (batM ([x].take 8))).length > 0 := by unfold writeB; simp
 simp only [RT, Q0, Q1, Q2, Q3, Q4, Q5, Q6, Q7, Q8]
 refine Aa0 k3 ?_
 simp only [RT, Q0, Q1, Q2, Q3, Q4, Q5, Q6, Q7, Q8, h3]
 refine Aa0 kl ?_
 simp only [RT, Q0, Q1, Q2, Q3, Q4, Q5, Q6, Q7, Q8, h3]
 refine Aa0 k4 ?_
 simp only [RT, Q0, Q1, Q2, Q3, Q4, Q5, Q6, Q7, Q8, h3]
 refine Aa0 k5 ?_
 simp only [RT, Q0, Q1, Q2, Q3, Q4, Q5, Q6, Q7, Q8, hbl, decide_eq_true (show (((writeB (batM ([x].take 8))).length : Nat) : Int) > 0 by omega)]
end
end Go.Sv.Try
