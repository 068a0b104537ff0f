/- PoolFair, on the abstract machine. -/
import Derived.Test.YtjhnciflgaijjaaPlA
set_option linter.unusedSimpArgs false
set_option linter.unusedVariables false
open Nat renaming reduceLT → Q0, reduceBEq → Q1, reduceEqDiff → Q2, reduceAdd → Q3
open Int renaming reduceEq → Q4, reduceLT → Q5, reduceLE → Q6, reduceGT → Q7, reduceGE → Q8
namespace Go.Sv.Try
open Go Go.Proofs
section
variable {A B C : AS} {m : Hp} {X Y : Nat -> Prop} {pp bp tp r : Nat} {P L : List Bts} {fo fl ft fh : Option Nat} {S : Loc -> Prop} {Hs : List HdP}
theorem BZ2 (b : Nat) : evEq Try.prog 41 (.ptr b 0) .pnil = some false := by kernel_rfl
theorem PB.oth (h : PB X A B pp P fo bp tp r L Hs fl ft fh) (hw : WF A) (hf : Fr S B C) (h1 : ¬ S (.row pp)) (h2 : ¬ S (.row bp)) (h3 : ¬ S (.row tp)) (h4 : ¬ S (.map r)) (hT : Tch X B S) (hA : ∀ z, S z -> z.newTo A) (hY : ∀ f, Y f -> X f ∨ B.blk.length <= f) : PB Y A C pp P fo bp tp r L Hs fl ft fh := by
 have hwB := h.fr.wf hw
 have lb := Bc8 h.bk.raw
 have lo := h.po.lt.2
 refine { h with fr := h.fr.trans hf fun z q => .inr (hA z q), po := h.po.oth hwB hf h1 (hT.mono fun f q => .inl q) (fun f q z => ?_) (fun f q => ?_), bk := h.bk.oth hwB hf h2 h3 h4 (hT.mono fun f q => .inl q) (fun f q z => ?_) (fun f q => ?_), dx := fun f q => ?_ }
 . rcases z with z | z
   . exact (h.dx f z).2 q
   . exact h.d f z q
 . rcases q with q | q
   . exact (hY f q).imp .inl id
   . exact .inl (.inr q)
 . rcases z with z | z | z | z
   . exact (h.dx f z).1 q
   . exact h.d f q z
   . cases z
   . cases z
 . rcases q with q | q
   . exact (hY f q).imp .inl id
   . exact .inl (.inr q)
 . rcases hY f q with y | y
   . exact h.dx f y
   . exact ⟨fun z => by have := lb f z; omega, fun z => by have := lo f z; omega⟩
theorem PB.pp_box (h : PB X A B pp P fo bp tp r L Hs fl ft fh) : (∃ cs, B.blk[pp]? = some ⟨cs, .var⟩) /\ (∃ cs, B.blk[bp]? = some ⟨cs, .var⟩) /\ ∃ cs, B.blk[tp]? = some ⟨cs, .var⟩ := by
 obtain ⟨lv, y1, _⟩ := h.po.ex
 exact ⟨⟨_, y1⟩, h.bk.raw.box⟩
theorem PB.txt {fx : Option Nat} {T : List Bts} {w : V} (h : PB (zOf fx) A B pp P fo bp tp r L Hs fl ft fh) (hw : WF A) (hL : Lst eStr Hp.emp B w T fx) (hfx : ∀ f, fx = some f -> A.blk.length <= f) (x : Bts) (hT : T.length <= 1000) :
 ∃ w' C fx', evAppend Try.prog 43 43 w (.sl B.blk.length 0 1 1) (B.push ⟨[.str x], .arr B.blk.length 0⟩) = some (w', C) /\ Lst eStr Hp.emp C w' (T ++ [x]) fx' /\ PB (zOf fx') A C pp P fo bp tp r L Hs fl ft fh /\ ∀ f, fx' = some f -> A.blk.length <= f := by
 have hwB := h.fr.wf hw
 obtain ⟨w', C, fx', p1, p2, p3, p4⟩ := hL.push (P := Try.prog) (t := 43) (tx := 43) (n := 1) rfl BN2 Try.underlying43 hwB (y := x) (cs' := [.str x]) rfl (by omega) (by omega)
 obtain ⟨⟨_, x0⟩, ⟨_, x1⟩, _, x2⟩ := h.pp_box
 have hAB := h.fr.len
 refine ⟨w', C, fx', p1, p2, h.oth hw p3 (Aa4 x0) (Aa4 x1) (Aa4 x2) (fun q => by cases fx <;> exact q.elim) (.famO fun f q => q) (fun z q => Av8 hw h.fr hfx q) (fun f q => p4.or q), fun f q => ?_⟩
 rcases p4.or q with y | y
 . exact hfx f y
 . omega
theorem Bc9 {fx : Option Nat} (h : PB (zOf fx) A B pp P fo bp tp r L Hs fl ft fh) : Off fx B (poS B pp fo) := by
 obtain ⟨⟨_, x0⟩, _⟩ := h.pp_box
 exact .or (.box x0) (At0 fun f q z => (h.dx f z).2 q)
set_option maxRecDepth 10000 in
set_option maxHeartbeats 32000000 in
theorem poolFair_spec {v : V} {xs : List Bts} (hw : WF A) (hm : m.on A) (hl : Slc (eSl eU8) m v xs) :
 ∃ w A', EvF Try.prog HH 16 [v] A w A' /\ w = .bool true := by
 refine Aa3 rfl Try.func16 (by unfold Try.f16; rfl) Try.ntmps16 (by unfold Try.f16; rfl) (by simp) ?_
 have hlen := fun B => hl.len (P := Try.prog) Try.underlying22 B
 simp only [RT, Q0, Q1, Q2, Q3, Q4, Q5, Q6, Q7, Q8]
 refine Aa0 (A87 rfl) ?_
 by_cases c1 : (xs.length : Int) > 40
 . simp only [RT, Q0, Q1, Q2, Q3, Q4, Q5, Q6, Q7, Q8, hlen, decide_eq_true c1]
 obtain ⟨_, A1, _, A2, pp, bp, tp, r, ft0, k1, k2, rfl, rfl, hP0⟩ := Bv2 (X := zOf none) hw (fun f q => by cases q)
 simp only [RT, Q0, Q1, Q2, Q3, Q4, Q5, Q6, Q7, Q8, hlen, decide_eq_false c1]
 refine Aa0 k1 ?_
 simp only [RT, Q0, Q1, Q2, Q3, Q4, Q5, Q6, Q7, Q8]
 refine Aa0 k2 ?_
 simp only [RT, Q0, Q1, Q2, Q3, Q4, Q5, Q6, Q7, Q8, BZ2, BY7, hlen]
 refine Aa2 (fun z e B => ∃ (i : Nat) (P : List Bts) (ov : V) (fo fl ft fh fx : Option Nat), z = xs.length - i /\ i <= xs.length /\ e.get 28 = .int .i64 i /\ e.get 27 = .int .i64 xs.length /\ e.get 26 = v /\ e.get 3 = .ptr pp 0 /\ e.get 4 = .ptr bp 0 /\ e.get 5 = ov /\ PB (zOf fx) A B pp P fo bp tp r [] [] fl ft fh /\ Lst eStr Hp.emp B ov P fx /\ ∀ f, fx = some f -> A.blk.length <= f)
  (fun z e B => Is z (.exit 0) /\ ∃ (P : List Bts) (ov : V) (fo fl ft fh fx : Option Nat), e.get 3 = .ptr pp 0 /\ e.get 4 = .ptr bp 0 /\ e.get 5 = ov /\ PB (zOf fx) A B pp P fo bp tp r [] [] fl ft fh /\ Lst eStr Hp.emp B ov P fx)
  ⟨_, 0, [], .snil, none, none, ft0, none, none, rfl, by omega, rfl, rfl, rfl, rfl, rfl, rfl, hP0, .nil, fun f q => by cases q⟩ ?_ ?_
 . rintro z e B ⟨i, P, ov, fo, fl, ft, fh, fx, rfl, hi, h28, h27, h26, h3, h4, h5, hP, hL, hfx⟩
   simp only [RT, Q0, Q1, Q2, Q3, Q4, Q5, Q6, Q7, Q8, h28, h27]
   refine Aa1 (fun q1 => ?_) (fun q1 => ?_)
   rotate_left
   . simp only [RT, Q0, Q1, Q2, Q3, Q4, Q5, Q6, Q7, Q8]
     exact ⟨rfl, P, ov, fo, fl, ft, fh, fx, h3, h4, h5, hP, hL⟩
   obtain ⟨x, hx⟩ := Ad2 (l := xs) (i := i) (by omega)
   have hmB := hm.fr0 hP.fr
   obtain ⟨b, o, c, y3, y4, y5⟩ := hl.at (P := Try.prog) (k := .i64) hmB Try.underlying22 A16 AV5 hx
   rw [AM6] at y5
   have hcl := fun B => y5.len (P := Try.prog) Try.underlying44 B
   have hwi : IntKind.i64.wrap ((i : Int) + 1) = ((i + 1 : Nat) : Int) := by rw [Ae2 (by omega)]
   by_cases d1 : (x.length : Int) <= 3000
   rotate_left
   . simp only [RT, Q0, Q1, Q2, Q3, Q4, Q5, Q6, Q7, Q8, h26, h28, y3, y4, hcl, decide_eq_false d1, hwi]
     refine ⟨xs.length - (i + 1), by omega, i + 1, P, ov, fo, fl, ft, fh, fx, rfl, by omega, ?_⟩
     and_intros <;> first | rfl | assumption
   obtain ⟨C, fo', k3, f3, _, hP'⟩ := hP.put hw (fun f q => hL.famLt f q) hmB y5 (by omega)
   have hLC := hL.fr f3 (Bc9 hP)
   simp only [RT, Q0, Q1, Q2, Q3, Q4, Q5, Q6, Q7, Q8, h26, h28, y3, y4, hcl, decide_eq_true d1, h3]
   refine Aa0 k3 ?_
   have hP24 := hP.po.ok.len
   by_cases d2 : putC P x = 0
   . have e : putP P x = P ++ [x] := if_pos d2
     rw [e] at hP'
     have hcv := AM7 (P := Try.prog) (A := C) (s := 44) (d := 9) (by decide) y5 (hm.fr0 hP'.fr) Try.underlying44 Try.underlying5 Try.underlying9
     obtain ⟨ov', D, fx', p1, p2, p3, p4⟩ := hP'.txt hw hLC hfx x (by omega)
     simp only [RT, Q0, Q1, Q2, Q3, Q4, Q5, Q6, Q7, Q8, decide_eq_true d2, hcv, h5, Bu0, p1, h28, hwi]
     refine ⟨xs.length - (i + 1), by omega, i + 1, P ++ [x], ov', fo', fl, ft, fh, fx', rfl, by omega, ?_⟩
     and_intros <;> first | rfl | assumption
   . have e : putP P x = P := if_neg d2
     rw [e] at hP'
     simp only [RT, Q0, Q1, Q2, Q3, Q4, Q5, Q6, Q7, Q8, decide_eq_false d2, h28, hwi]
     refine ⟨xs.length - (i + 1), by omega, i + 1, P, ov, fo', fl, ft, fh, fx, rfl, by omega, ?_⟩
     and_intros <;> first | rfl | assumption
 rintro z e B hz ⟨rfl, P, ov, fo, fl, ft, fh, fx, h3, h4, h5, hP, hL⟩
 have hok := hP.po.ok
 have hP24 := hok.len
 simp only [RT, Q0, Q1, Q2, Q3, Q4, Q5, Q6, Q7, Q8]
 refine Aa2 (fun z e C => ∃ (k : Nat) (Hs : List HdP) (fl ft fh : Option Nat), z = 4 - k /\ k <= 3 /\ Hs.length = k /\ (k = 0 ∨ 8 * (k - 1) < P.length) /\ e.get 8 = .int .i64 k /\ e.get 3 = .ptr pp 0 /\ e.get 4 = .ptr bp 0 /\ e.get 5 = ov /\ PB (zOf fx) A C pp (P.drop (8 * k)) fo bp tp r (P.take (8 * k)) Hs fl ft fh /\ Lst eStr Hp.emp C ov P fx)
  (fun z e C => Is z (.exit 2) /\ ∃ (Hs : List HdP) (fl ft fh : Option Nat), e.get 4 = .ptr bp 0 /\ e.get 5 = ov /\ PB (zOf fx) A C pp [] fo bp tp r P Hs fl ft fh /\ Lst eStr Hp.emp C ov P fx)
  ⟨_, 0, [], fl, ft, fh, rfl, by omega, rfl, .inl rfl, rfl, h3, h4, h5, hP, hL⟩ ?_ ?_
 . clear h3 h4 h5 hP hL
   rintro z e C ⟨k, Hs, fl, ft, fh, rfl, hk, hHs, hkP, h8, h3, h4, h5, hP, hL⟩
   have kl := AQ8 hP.po
   rw [List.length_drop] at kl
   simp only [RT, Q0, Q1, Q2, Q3, Q4, Q5, Q6, Q7, Q8, h3]
   refine Aa0 kl ?_
   simp only [RT, Q0, Q1, Q2, Q3, Q4, Q5, Q6, Q7, Q8]
   refine Aa1 (fun q1 => ?_) (fun q1 => ?_)
   rotate_left
   . have e1 : P.drop (8 * k) = [] := List.drop_eq_nil_of_le (by omega)
     have e2 : P.take (8 * k) = P := List.take_of_length_le (by omega)
     rw [e1, e2] at hP
     simp only [RT, Q0, Q1, Q2, Q3, Q4, Q5, Q6, Q7, Q8]
     exact ⟨rfl, Hs, fl, ft, fh, h4, h5, hP, hL⟩
   have hO : OnceN (P.take (8 * k) ++ P.drop (8 * k)) := by rw [List.take_append_drop]; exact hok.one
   obtain ⟨w, C1, C2, C3, Hs', fl', ft', fh', k1, k2, k3, hP', hH', hfr⟩ := hP.round hw (fun f q => hL.famLt f q) hO (by rw [List.length_take, List.length_drop]; omega) (by omega)
   rw [List.drop_drop] at hP'
   rw [<- List.take_add, show 8 * k + 8 = 8 * (k + 1) by omega] at hP'
   have hoff : Off fx C (fun z => poS C pp fo z ∨ bkS C bp tp r fl ft fh z) := .or (Bc9 hP) (Bc5 hP.bk.raw fun f q z => (hP.dx f z).1 q)
   have hLC := hL.fr hfr hoff
   have hwk : IntKind.i64.wrap ((k : Int) + 1) = ((k + 1 : Nat) : Int) := by rw [Ae2 (by omega)]
   simp only [RT, Q0, Q1, Q2, Q3, Q4, Q5, Q6, Q7, Q8, h8, decide_eq_false (show ¬ (k : Int) > 3 by omega), h4, h3]
   refine Aa0 k1 ?_
   simp only [RT, Q0, Q1, Q2, Q3, Q4, Q5, Q6, Q7, Q8]
   refine Aa0 k2 ?_
   simp only [RT, Q0, Q1, Q2, Q3, Q4, Q5, Q6, Q7, Q8, h3, h4]
   refine Aa0 k3 ?_
   simp only [RT, Q0, Q1, Q2, Q3, Q4, Q5, Q6, Q7, Q8, h8, hwk]
   refine ⟨4 - (k + 1), by omega, k + 1, Hs', fl', ft', fh', rfl, by omega, by omega, .inr (by show 8 * k < _; omega), ?_⟩
   and_intros <;> first | rfl | assumption
 clear h3 h4 h5 hP hL
 rintro z e C hz ⟨rfl, Hs, fl, ft, fh, h4, h5, hP, hL⟩
 have ks := As8 hP.bk.raw
 have hlo := fun X => hL.len (P := Try.prog) Try.underlying43 X
 have wC := hP.fr.wf hw
 simp only [RT, Q0, Q1, Q2, Q3, Q4, Q5, Q6, Q7, Q8, h4]
 refine Aa0 ks ?_
 simp only [RT, Q0, Q1, Q2, Q3, Q4, Q5, Q6, Q7, Q8, h5, hlo]
 refine Aa2 (fun z e D => ∃ (i : Nat), z = P.length - i /\ i <= P.length /\ e.get 68 = .int .i64 i /\ e.get 67 = .int .i64 P.length /\ e.get 66 = ov /\ e.get 4 = .ptr bp 0 /\ Fr S0 C D)
  (fun z e D => Is z (.exit 4))
  ⟨_, 0, rfl, by omega, rfl, rfl, rfl, h4, .refl _ _⟩ ?_ ?_
 . clear h4 h5
   rintro z e D ⟨i, rfl, hi, h68, h67, h66, h4, hf⟩
   simp only [RT, Q0, Q1, Q2, Q3, Q4, Q5, Q6, Q7, Q8, h68, h67]
   refine Aa1 (fun q1 => ?_) (fun q1 => ?_)
   rotate_left
   . simp only [RT, Q0, Q1, Q2, Q3, Q4, Q5, Q6, Q7, Q8]
     rfl
   obtain ⟨s, hs⟩ := Ad2 (l := P) (i := i) (by omega)
   obtain ⟨b, o, c, y3, y4, y5⟩ := (hL.fr0 hf).at (P := Try.prog) (k := .i64) (Hp.on_emp D) Try.underlying43 sz9 ag9 hs
   rw [A42.1 y5] at y4
   have wD := hf.wf wC
   obtain ⟨_, D1, p1, j1, hat⟩ := AX7 wD (hP.bk.raw.fr0 hf) (fun x q => by have := AR1 (hok.ent x q); omega) (i : Int)
   rcases hat with ⟨q, _⟩ | ⟨n, y, c, hn, hy, rfl, hc⟩
   . omega
   have hn : i = n := by omega
   subst hn
   rw [hs] at hy
   cases hy
   have hcv := AM7 (P := Try.prog) (A := D1) (s := 44) (d := 9) (by decide) hc (AN1 _ _) Try.underlying44 Try.underlying5 Try.underlying9
   have hwi : IntKind.i64.wrap ((i : Int) + 1) = ((i + 1 : Nat) : Int) := by rw [Ae2 (by omega)]
   simp only [RT, Q0, Q1, Q2, Q3, Q4, Q5, Q6, Q7, Q8, h66, h68, y3, y4, h4]
   refine Aa0 p1 ?_
   simp only [RT, Q0, Q1, Q2, Q3, Q4, Q5, Q6, Q7, Q8, hcv, h68, hwi]
   refine ⟨P.length - (i + 1), by omega, i + 1, rfl, by omega, ?_⟩
   have := hf.then0 j1
   and_intros <;> first | rfl | assumption
 . rintro z e D hz rfl
   simp only [RT, Q0, Q1, Q2, Q3, Q4, Q5, Q6, Q7, Q8]
end
end Go.Sv.Try
