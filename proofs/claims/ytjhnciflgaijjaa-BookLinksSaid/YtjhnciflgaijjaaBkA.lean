/- Books: entries and batches. -/
import Derived.Test.YtjhnciflgaijjaaAuC
import Derived.Test.YtjhnciflgaijjaaAuD
set_option linter.unusedSimpArgs false
set_option linter.unusedVariables false
open Nat renaming reduceLT → Q0, reduceBEq → Q1, reduceEqDiff → Q2, reduceAdd → Q3
open Int renaming reduceEq → Q4, reduceLT → Q5, reduceLE → Q6, reduceGT → Q7, reduceGE → Q8
namespace Go.Sv.Try
open Go Go.Proofs
def entM (who num : Int) (text : Bts) : Go.Sv.M := { msg0 1 with who := who, num := num, data := text }
def batM (l : List Bts) : Go.Sv.M := { msg0 2 with list := l }
open Classical in
noncomputable def entryE (who num : Int) (text : Bts) : Int := if checkM (entM who num text) ≠ 0 then checkM (entM who num text) else entC (writeB (entM who num text))
def joinE (l : List Bts) : Int := if l.length > 8 then 2 else checkM (batM l)
open Classical in
noncomputable def splitB (b : Bts) : List Bts := if readErr b ≠ 0 ∨ (readMsg b).kind ≠ 2 ∨ (readMsg b).list.length > 8 then [] else (readMsg b).list
section
variable {A B : AS} {m : Hp}
theorem BQ7 (w n : Int) : evBuild Try.prog 70 [(0, .int .i64 1), (1, .int .i64 w), (5, .int .i64 n), (7, .snil)] = some (.agg (mc (entM w n []) .snil .snil .snil)) := by kernel_rfl
theorem BQ8 (w n : Int) (b o k z : Nat) : evBuild Try.prog 70 [(0, .int .i64 1), (1, .int .i64 w), (5, .int .i64 n), (7, .sl b o k z)] = some (.agg (mc (entM w n []) (.sl b o k z) .snil .snil)) := by kernel_rfl
theorem B00 {v : V} {x : Bts} (h : Slc eU8 m v x) (w n : Int) : evBuild Try.prog 70 [(0, .int .i64 1), (1, .int .i64 w), (5, .int .i64 n), (7, v)] = some (.agg (mc (entM w n x) v .snil .snil)) := by
 rcases AA8 h with rfl | ⟨b, o, k, z, rfl⟩
 . exact BQ7 w n
 . exact BQ8 w n b o k z
theorem BQ9 : evBuild Try.prog 70 [(0, .int .i64 2), (9, .snil)] = some (.agg (mc (batM []) .snil .snil .snil)) := by kernel_rfl
theorem BR0 (b o k z : Nat) : evBuild Try.prog 70 [(0, .int .i64 2), (9, .sl b o k z)] = some (.agg (mc (batM []) .snil .snil (.sl b o k z))) := by kernel_rfl
theorem B01 {v : V} {x : List Bts} (h : Slc (eSl eU8) m v x) : evBuild Try.prog 70 [(0, .int .i64 2), (9, v)] = some (.agg (mc (batM x) .snil .snil v)) := by
 rcases AA8 h with rfl | ⟨b, o, k, z, rfl⟩
 . exact BQ9
 . exact BR0 b o k z
theorem Bc9 {v : V} {x : Bts} (h : Slc eU8 m v x) (w n : Int) : MsgIn m (entM w n x) v .snil .snil := ⟨rfl, h, .inl ⟨rfl, rfl⟩, .inl ⟨rfl, rfl⟩⟩
theorem Bd0 {v : V} {x : List Bts} (h : Slc (eSl eU8) m v x) : MsgIn m (batM x) .snil .snil v := ⟨rfl, .inl ⟨rfl, rfl⟩, .inl ⟨rfl, rfl⟩, h⟩
theorem A78 {x : Bts} (h : x.length <= 1000000000000) (w n : Int) : Sized (entM w n x) := ⟨by simp [entM, msg0], by show x.length <= _; omega, by simp [entM, msg0], fun c hc => by simp [entM, msg0] at hc⟩
theorem A79 {x : List Bts} (h : x.length <= 1000000000000) (hx : ∀ b ∈ x, b.length <= 1000000000000) : Sized (batM x) := ⟨by simp [batM, msg0], by simp [batM, msg0], by show x.length <= _; omega, fun c hc => by have := hx c (by simpa [batM] using hc); omega⟩
theorem AC8 {w n : Int} {x : Bts} (h : checkM (entM w n x) = 0) : (writeB (entM w n x)).length <= 1800091 :=
 AH9 (m := Hp.emp.put 0 (bc x)) (dv := .sl 0 0 x.length 1) (Bc9 (BF4 (Hp.put_get _ _ _) rfl) w n) (AG7 h)
set_option maxRecDepth 10000 in
set_option maxHeartbeats 8000000 in
theorem A80 {v : V} {x : Bts} {who num : Int} (hw : WF A) (hm : m.on A) (h : Slc eU8 m v x) (hx : x.length <= 1000000000000) :
 ∃ w A', EvF Try.prog HH 34 [.int .i64 who, .int .i64 num, v] A w A' /\ Fr S0 A A' /\ ∃ u, w = .tup [u, .int .i64 (entryE who num x)] /\ (entryE who num x ≠ 0 -> u = .snil) /\ (entryE who num x = 0 -> Own A.blk.length A' u (writeB (entM who num x)).length 1 (bc (writeB (entM who num x)))) := by
 refine Aa6 rfl Try.func34 (by unfold Try.f34; rfl) Try.ntmps34 (by unfold Try.f34; rfl) (by simp) ?_
 obtain ⟨_, A1, k1, f1, u, rfl, k2, k3⟩ := AH5 hw hm (Bc9 h who num) (A78 hx who num)
 simp only [RT, Q0, Q1, Q2, Q3, Q4, Q5, Q6, Q7, Q8, B00 h]
 refine Aa0 k1 ?_
 by_cases c1 : checkM (entM who num x) = 0
 rotate_left
 . simp only [RT, Q0, Q1, Q2, Q3, Q4, Q5, Q6, Q7, Q8, c1]
   have e : entryE who num x = checkM (entM who num x) := if_pos c1
   rw [e]
   exact ⟨f1, _, rfl, fun _ => rfl, fun q => absurd q c1⟩
 have e : entryE who num x = entC (writeB (entM who num x)) := if_neg (by simpa using c1)
 have k3 := k3 c1
 have hl := AC8 c1
 obtain ⟨_, A2, k4, f2, X, dv, iv, lv, rfl, k5, k6⟩ := Ar3 (f1.wf hw) (Af0 A1) k3.arrBts (by omega)
 obtain ⟨A3, s1, s2, s3⟩ := As3 (A := A2) k5
 have f3 := (f1.then0 f2).then0 s2
 simp only [RT, Q0, Q1, Q2, Q3, Q4, Q5, Q6, Q7, Q8, c1]
 refine Aa0 k4 ?_
 simp only [RT, Q0, Q1, Q2, Q3, Q4, Q5, Q6, Q7, Q8, zcM, s1]
 by_cases c2 : entC (writeB (entM who num x)) = 0
 . simp only [RT, Q0, Q1, Q2, Q3, Q4, Q5, Q6, Q7, Q8, c2]
   rw [e]
   exact ⟨f3, _, by rw [c2], fun q => absurd c2 q, fun _ => (k3.fr0 f2).fr0 s2⟩
 . simp only [RT, Q0, Q1, Q2, Q3, Q4, Q5, Q6, Q7, Q8, c2]
   rw [e]
   exact ⟨f3, _, rfl, fun _ => rfl, fun q => absurd q c2⟩
theorem Bd1 {v : V} {l : List Bts} (hw : WF A) (hm : m.on A) (h : Slc (eSl eU8) m v l) (hl : l.length <= 1000000000000) (hx : ∀ b ∈ l, b.length <= 1000000000000) :
 ∃ w A', EvF Try.prog HH 39 [v] A w A' /\ Fr S0 A A' /\ ∃ u, w = .tup [u, .int .i64 (joinE l)] /\ (joinE l ≠ 0 -> u = .snil) /\ (joinE l = 0 -> Own A.blk.length A' u (writeB (batM l)).length 1 (bc (writeB (batM l)))) := by
 refine Aa6 rfl Try.func39 (by unfold Try.f39; rfl) Try.ntmps39 (by unfold Try.f39; rfl) (by simp) ?_
 have hlen := fun B => h.len (P := Try.prog) Try.underlying22 B
 simp only [RT, Q0, Q1, Q2, Q3, Q4, Q5, Q6, Q7, Q8, hlen]
 by_cases c1 : l.length > 8
 . have e : joinE l = 2 := if_pos c1
   simp only [RT, Q0, Q1, Q2, Q3, Q4, Q5, Q6, Q7, Q8, decide_eq_true (show (l.length : Int) > 8 by omega)]
   rw [e]
   exact ⟨.refl _ _, _, rfl, fun _ => rfl, fun q => absurd q (by decide)⟩
 have e : joinE l = checkM (batM l) := if_neg c1
 obtain ⟨_, A1, k1, f1, u, rfl, k2, k3⟩ := AH5 hw hm (Bd0 h) (A79 hl hx)
 simp only [RT, Q0, Q1, Q2, Q3, Q4, Q5, Q6, Q7, Q8, decide_eq_false (show ¬ (l.length : Int) > 8 by omega), B01 h]
 refine Aa0 k1 ?_
 simp only [RT, Q0, Q1, Q2, Q3, Q4, Q5, Q6, Q7, Q8]
 rw [e]
 exact ⟨f1, _, rfl, k2, k3⟩
set_option maxRecDepth 10000 in
set_option maxHeartbeats 8000000 in
theorem A81 {v : V} {b : Bts} (hw : WF A) (hm : m.on A) (h : Slc eU8 m v b) (hb : b.length <= 1000000000000) :
 ∃ w A', EvF Try.prog HH 42 [v] A w A' /\ Fr S0 A A' /\ ∃ be bm dv iv lv, w = .fn 75 [] [.ptr be 0, .ptr bm 0] /\ A'.blk[be]? = some ⟨[.int .i64 (readErr b)], .var⟩ /\ A'.blk[bm]? = some ⟨mc (readMsg b) dv iv lv, .var⟩ /\ MsgIn (arrHq A.blk.length A') (readMsg b) dv iv lv /\ A.blk.length <= be /\ A.blk.length <= bm := by
 refine Aa6 rfl Try.func42 (by unfold Try.f42; rfl) Try.ntmps42 (by unfold Try.f42; rfl) (by simp) ?_
 obtain ⟨_, A2, k1, f2, dv, iv, lv, rfl, k3⟩ := AH7 hw hm h hb
 simp only [RT, Q0, Q1, Q2, Q3, Q4, Q5, Q6, Q7, Q8]
 refine Aa0 k1 ?_
 have zid : (msg0 0).id.length = 32 := rfl
 obtain ⟨A3, e3, f3, r3, n3⟩ := Aa9 A2 mcZ
 obtain ⟨A4, e4, f4, r4, n4⟩ := Aa9 A3 [.int .i64 0]
 obtain ⟨b3, hb3⟩ : ∃ b, b = A2.blk.length := ⟨_, rfl⟩
 obtain ⟨b4, hb4⟩ : ∃ b, b = A3.blk.length := ⟨_, rfl⟩
 rw [<- hb3] at r3 n3
 rw [<- hb4] at r4 n4
 obtain ⟨A5, s1, s2, s3⟩ := AA1 (o := 0) (t := 70) (w := .agg (mc (readMsg b) dv iv lv)) (cs := mc (readMsg b) dv iv lv) (f4.row0 r3) zid rfl (by rw [Ab5 k3.id]; exact AP2) (by rw [Ab5 k3.id]; decide) (Al7 k3)
 rw [Ab2 (by rw [Ab5 zid, Ab5 k3.id])] at s3
 obtain ⟨A6, u1, u2, u3, u4⟩ := AV3 (P := Try.prog) (t := 45) (x := .int .i64 (readErr b)) (s2.row _ _ r4 (fun q => by cases q; omega)) rfl BY3 rfl
 have hl := f2.len
 simp only [RT, Q0, Q1, Q2, Q3, Q4, Q5, Q6, Q7, Q8, zcM, B17, <- e3, <- hb3, <- e4, <- hb4, s1, u1]
 have g1 : Fr S0 A A6 := (((f2.then0 f3).then0 f4).row_ s2 (by omega)).row_ u2 (by omega)
 have g2 : Fr (fun z => z = .row b3 ∨ z = .row b4) A4 A6 := (s2.mono fun _ q => .inl q).trans u2 fun _ q => .inl (.inr q)
 refine ⟨g1, b4, b3, dv, iv, lv, rfl, u3, u2.row _ _ s3 (fun q => by cases q; omega), ?_, by omega, by omega⟩
 exact k3.mono (Hp.le_trans (Ac4 (f3.then0 f4) fun c q => q.elim) (Ac4 g2 fun c q => by
  rcases q with q | q
  . cases q; exact Ad1 (f4.row0 r3)
  . cases q; exact Ad1 r4))
def argSp (m : Hp) (_ : AS) (args : List V) (x : Bts × Nat) : Prop := ∃ w, args = [.int .i64 (x.2 : Int), w] /\ Slc eU8 m w x.1
set_option maxRecDepth 10000 in
set_option maxHeartbeats 8000000 in
theorem AY5 {be bm : Nat} {b : Bts} {dv iv lv : V} {S : Loc -> Prop} (hm : m.on A) (hS : ∀ c, S (.row c) -> m c = none) (h1 : A.blk[be]? = some ⟨[.int .i64 (readErr b)], .var⟩) (h2 : A.blk[bm]? = some ⟨mc (readMsg b) dv iv lv, .var⟩) (hM : MsgIn m (readMsg b) dv iv lv) :
 Goes Try.prog HH 75 [] [.ptr be 0, .ptr bm 0] A S (argSp m) (splitB b).zipIdx := by
 intro lo J D hJ hD hstep hJ0
 refine Aa6 rfl Try.func75 (by unfold Try.f75; rfl) Try.ntmps75 (by unfold Try.f75; rfl) (by simp) ?_
 have fa := faM bm
 have ld := ldM h2 hM.id
 have l1 := Al3 (P := Try.prog) (t := 45) BY4 h1
 have hlen := fun B => hM.list.len (P := Try.prog) Try.underlying22 B
 obtain ⟨xs, hxs⟩ : ∃ x, x = splitB b := ⟨_, rfl⟩
 rw [<- hxs] at hstep ⊢
 have none : readErr b ≠ 0 ∨ (readMsg b).kind ≠ 2 ∨ (readMsg b).list.length > 8 -> xs = [] := fun q => by rw [hxs]; exact if_pos q
 by_cases c1 : readErr b = 0
 rotate_left
 . have e := none (.inl c1)
   subst e
   simp only [RT, Q0, Q1, Q2, Q3, Q4, Q5, Q6, Q7, Q8, l1, c1]
   exact ⟨.refl _ _, .inl hJ0⟩
 by_cases c2 : (readMsg b).kind = 2
 rotate_left
 . have e := none (.inr (.inl c2))
   subst e
   simp only [RT, Q0, Q1, Q2, Q3, Q4, Q5, Q6, Q7, Q8, l1, c1, fa, ld, c2]
   exact ⟨.refl _ _, .inl hJ0⟩
 by_cases c3 : (readMsg b).list.length > 8
 . have e := none (.inr (.inr c3))
   subst e
   simp only [RT, Q0, Q1, Q2, Q3, Q4, Q5, Q6, Q7, Q8, l1, c1, fa, ld, c2, hlen, decide_eq_true (show ((readMsg b).list.length : Int) > 8 by omega)]
   exact ⟨.refl _ _, .inl hJ0⟩
 have e : xs = (readMsg b).list := by rw [hxs]; exact if_neg (by rintro (q | q | q) <;> contradiction)
 have hml := hM.list
 rw [<- e] at hml hlen
 simp only [RT, Q0, Q1, Q2, Q3, Q4, Q5, Q6, Q7, Q8, l1, c1, fa, ld, c2, hlen, decide_eq_false (show ¬ (xs.length : Int) > 8 by rw [e]; omega)]
 have hx8 : xs.length <= 8 := by rw [e]; omega
 refine Aa2 (fun z e B => ∃ i : Nat, z = xs.length - i /\ i <= xs.length /\ e.get 22 = .int .i64 i /\ e.get 0 = .yield lo /\ e.get 20 = lv /\ e.get 21 = .int .i64 xs.length /\ Fr S A B /\ J i B)
  (fun z e B => Fr S A B /\ ((Is z (.exit 0) /\ J xs.zipIdx.length B) ∨ (Is z .ret /\ ∃ i, i < xs.zipIdx.length /\ D i B)))
  ⟨_, 0, rfl, by omega, rfl, rfl, rfl, rfl, .refl _ _, hJ0⟩ ?_ ?_
 rotate_left
 . rintro z e B hz ⟨q1, ⟨rfl, q2⟩ | ⟨rfl, q2⟩⟩
   . simp only [RT, Q0, Q1, Q2, Q3, Q4, Q5, Q6, Q7, Q8]
     exact ⟨q1, .inl q2⟩
   . simp only [RT, Q0, Q1, Q2, Q3, Q4, Q5, Q6, Q7, Q8]
     exact ⟨q1, .inr q2⟩
 rintro z e B ⟨i, rfl, hi, h22, h0, h20, h21, hf, hj⟩
 simp only [RT, Q0, Q1, Q2, Q3, Q4, Q5, Q6, Q7, Q8, h21, h22]
 refine Aa1 (fun q1 => ?_) (fun q1 => ?_)
 rotate_left
 . have : i = xs.length := by omega
   subst this
   simp only [RT, Q0, Q1, Q2, Q3, Q4, Q5, Q6, Q7, Q8]
   exact ⟨hf, .inl ⟨rfl, by rw [List.length_zipIdx]; exact hj⟩⟩
 obtain ⟨x, hx'⟩ := Ad0 (l := xs) (i := i) (by omega)
 obtain ⟨bb, o, c, g3, g4, g5⟩ := hml.at (P := Try.prog) (k := .i64) (hm.fr hf hS) Try.underlying22 A28 A66 hx'
 rw [AV4] at g5
 have hat : xs.zipIdx[i]? = some (x, i) := by rw [List.getElem?_zipIdx, hx']; simp
 obtain ⟨y, E, y1, y2, y3, y4⟩ := hstep _ _ B [.int .i64 (i : Int), c] hat hj hf ⟨c, rfl, g5⟩
 have hwi : IntKind.i64.wrap ((i : Int) + 1) = ((i + 1 : Nat) : Int) := by rw [Af3 (by omega)]
 simp only [RT, Q0, Q1, Q2, Q3, Q4, Q5, Q6, Q7, Q8, h20, h22, g3, g4, h0]
 refine ⟨_, E, y1, ?_⟩
 have hfE := hf.thn y2
 cases y with
 | true =>
  simp only [RT, Q0, Q1, Q2, Q3, Q4, Q5, Q6, Q7, Q8, h22, hwi]
  refine ⟨xs.length - (i + 1), by omega, i + 1, rfl, by omega, rfl, h0, h20, h21, hfE, y3 rfl⟩
 | false =>
  simp only [RT, Q0, Q1, Q2, Q3, Q4, Q5, Q6, Q7, Q8]
  exact ⟨hfE, .inr ⟨rfl, _, (List.getElem?_eq_some_iff.1 hat).1, y4 rfl⟩⟩
end
end Go.Sv.Try
namespace Go.Sv.Try
open Go Go.Proofs
section
variable {A B : AS} {m : Hp}
theorem BF9 (s : Bts) : bsl Try.prog 43 1 (some [(0, .str s)]) = some (.newSl [.str s] 1 1) := by kernel_rfl
set_option maxRecDepth 10000 in
set_option maxHeartbeats 8000000 in
theorem AL5 {b : Bts} (hw : WF A) (hb : b.length <= 1000000000000) :
 ∃ w A', EvF Try.prog HH 41 [.str b] A w A' /\ Fr S0 A A' /\ ∃ fo, Lst eStr Hp.emp A' w (splitB b) fo /\ ∀ f, fo = some f -> A.blk.length <= f := by
 refine Aa6 rfl Try.func41 (by unfold Try.f41; rfl) Try.ntmps41 (by unfold Try.f41; rfl) (by simp) ?_
 obtain ⟨_, A2, k1, f2, dv, iv, lv, rfl, k3⟩ := Ay6 (A := A) (b := b) hw hb
 simp only [RT, Q0, Q1, Q2, Q3, Q4, Q5, Q6, Q7, Q8]
 refine Aa0 k1 ?_
 obtain ⟨A3, s1, s2, s3⟩ := As3 (A := A2) k3
 obtain ⟨b3, hb3⟩ : ∃ b, b = A2.blk.length := ⟨_, rfl⟩
 rw [<- hb3] at s1 s3
 have f3 := f2.then0 s2
 have hM := k3.mono (Ac0 s2 fun c q => q.elim)
 have fa := faM b3
 have ld := fun {C : AS} (q : Fr S0 A3 C) => ldM (q.row0 s3) hM.id
 have ld0 := ld (.refl S0 A3)
 have hlen := fun B => hM.list.len (P := Try.prog) Try.underlying22 B
 obtain ⟨xs, hxs⟩ : ∃ x, x = splitB b := ⟨_, rfl⟩
 rw [<- hxs]
 have none : readErr b ≠ 0 ∨ (readMsg b).kind ≠ 2 ∨ (readMsg b).list.length > 8 -> Lst eStr Hp.emp A3 .snil xs none := fun q => by
  have : xs = [] := by rw [hxs]; exact if_pos q
  rw [this]; exact Lst.nil
 by_cases c1 : readErr b = 0
 rotate_left
 . simp only [RT, Q0, Q1, Q2, Q3, Q4, Q5, Q6, Q7, Q8, zcM, <- hb3, s1, c1]
   exact ⟨f3, _, none (.inl c1), fun f q => by cases q⟩
 by_cases c2 : (readMsg b).kind = 2
 rotate_left
 . simp only [RT, Q0, Q1, Q2, Q3, Q4, Q5, Q6, Q7, Q8, zcM, <- hb3, s1, c1, fa, ld0, c2]
   exact ⟨f3, _, none (.inr (.inl c2)), fun f q => by cases q⟩
 by_cases c3 : (readMsg b).list.length > 8
 . simp only [RT, Q0, Q1, Q2, Q3, Q4, Q5, Q6, Q7, Q8, zcM, <- hb3, s1, c1, fa, ld0, c2, hlen, decide_eq_true (show ((readMsg b).list.length : Int) > 8 by omega)]
   exact ⟨f3, _, none (.inr (.inr c3)), fun f q => by cases q⟩
 have e : xs = (readMsg b).list := by rw [hxs]; exact if_neg (by rintro (q | q | q) <;> contradiction)
 have hml := hM.list
 rw [<- e] at hml hlen
 simp only [RT, Q0, Q1, Q2, Q3, Q4, Q5, Q6, Q7, Q8, zcM, <- hb3, s1, c1, fa, ld0, c2, hlen, decide_eq_false (show ¬ (xs.length : Int) > 8 by rw [e]; omega)]
 have hx8 : xs.length <= 8 := by rw [e]; omega
 refine Aa2 (fun z e B => ∃ (i : Nat) (w : V) (fo : Option Nat), z = xs.length - i /\ i <= xs.length /\ e.get 6 = .int .i64 i /\ e.get 3 = .ptr b3 0 /\ e.get 5 = w /\ Fr S0 A3 B /\ Lst eStr Hp.emp B w (xs.take i) fo /\ ∀ f, fo = some f -> A3.blk.length <= f)
  (fun z e B => Is z (.exit 0) /\ ∃ (w : V) (fo : Option Nat), e.get 5 = w /\ Fr S0 A3 B /\ Lst eStr Hp.emp B w xs fo /\ ∀ f, fo = some f -> A3.blk.length <= f)
  ⟨_, 0, .snil, .none, rfl, by omega, rfl, rfl, rfl, .refl _ _, .nil, fun f q => by cases q⟩ ?_ ?_
 . rintro z e B ⟨i, w, fo, rfl, hi, h6, h3, h5, hf, hL, hfo⟩
   have ldB := ld hf
   simp only [RT, Q0, Q1, Q2, Q3, Q4, Q5, Q6, Q7, Q8, h6, h3, fa, ldB, hlen]
   refine Aa1 (fun q1 => ?_) (fun q1 => ?_)
   rotate_left
   . have : i = xs.length := by omega
     subst this
     rw [List.take_length] at hL
     simp only [RT, Q0, Q1, Q2, Q3, Q4, Q5, Q6, Q7, Q8]
     exact ⟨rfl, w, fo, h5, hf, hL, hfo⟩
   obtain ⟨x, hx⟩ := Ad0 (l := xs) (i := i) (by omega)
   have honB : (arrHp A3).on B := (Af0 A3).fr0 hf
   obtain ⟨bb, o, c, g3, g4, g5⟩ := hml.at (P := Try.prog) (k := .i64) honB Try.underlying22 A28 A66 hx
   rw [AV4] at g5
   have g6 := Bp3 (P := Try.prog) (s := 44) (d := 9) (by decide) g5 honB Try.underlying44 Try.underlying5 Try.underlying9
   have wB := (f3.then0 hf).wf hw
   obtain ⟨v4, D, fo', p1, p2, p3, p4⟩ := hL.push (P := Try.prog) (t := 43) (tx := 43) (n := 1) rfl BW7 Try.underlying43 wB (y := x) (cs' := [.str x]) rfl (by rw [List.length_take]; omega) (by rw [List.length_take]; omega)
   have hwi : IntKind.i64.wrap ((i : Int) + 1) = ((i + 1 : Nat) : Int) := by rw [Af3 (by omega)]
   simp only [RT, Q0, Q1, Q2, Q3, Q4, Q5, Q6, Q7, Q8, h6, h3, fa, ldB, h5, g3, g4, g6, BF9, p1, hwi]
   have hfD : Fr S0 A3 D := hf.newFam (f3.wf hw) p3 hfo
   have hfo' : ∀ f, fo' = some f -> A3.blk.length <= f := fun f q => by
    rcases p4.or q with y | y
    . exact hfo f y
    . have := hf.len; omega
   rw [<- Ag5 hx] at p2
   exact ⟨xs.length - (i + 1), by omega, i + 1, v4, fo', rfl, by omega, rfl, rfl, hfD, p2, hfo'⟩
 rintro z e B hz ⟨rfl, w, fo, h5, hf, hL, hfo⟩
 simp only [RT, Q0, Q1, Q2, Q3, Q4, Q5, Q6, Q7, Q8, h5]
 exact ⟨f3.then0 hf, fo, hL, fun f q => by have := hfo f q; have := f3.len; omega⟩
end
end Go.Sv.Try
namespace Go.Sv.Try
open Go Go.Proofs
noncomputable def nmOf (b : Bts) : Int × Int := ((readMsg b).who, (readMsg b).num)
noncomputable def mapOf (L : List Bts) : List ((Int × Int) × Nat) := L.zipIdx.map fun p => (nmOf p.1, p.2)
open Classical in
noncomputable def addE (L : List Bts) (x : Bts) : List Bts := if entC x = 0 /\ lookL (mapOf L) (nmOf x) = none /\ L.length < 1000 then L ++ [x] else L
noncomputable def applyB (L : List Bts) (b : Bts) : List Bts := (splitB b).foldl addE L
theorem A82 (L : List Bts) (x : Bts) : mapOf (L ++ [x]) = mapOf L ++ [(nmOf x, L.length)] := by
 unfold mapOf; rw [List.zipIdx_append]; simp
theorem At7 {L : List Bts} {x : Bts} (h1 : entC x = 0) (h2 : lookL (mapOf L) (nmOf x) = none) (h3 : L.length < 1000) : addE L x = L ++ [x] := if_pos ⟨h1, h2, h3⟩
theorem Ao2 {L : List Bts} {x : Bts} (h : ¬ (entC x = 0 /\ lookL (mapOf L) (nmOf x) = none /\ L.length < 1000)) : addE L x = L := if_neg h
theorem AR3 {L : List Bts} (h : ¬ L.length < 1000) : ∀ l : List Bts, l.foldl addE L = L
 | [] => rfl
 | x :: l => by rw [List.foldl_cons, Ao2 fun q => h q.2.2]; exact AR3 h l
theorem Bl6 {x : Bts} (h : entC x = 0) : readErr x = 0 /\ ¬ entBad (readMsg x) /\ (readMsg x).data.length <= 256 := by
 by_cases h1 : readErr x = 0
 rotate_left
 . rw [At6 h1] at h; exact absurd h h1
 by_cases h2 : entBad (readMsg x)
 . rw [AL4 h1 h2] at h; cases h
 refine ⟨h1, h2, ?_⟩
 by_cases h3 : (readMsg x).data.length > 256
 . rw [AC4 h1 h2 h3] at h; cases h
 . omega
theorem BG0 {x : Bts} (h : entC x = 0) : readMsg x = entM (readMsg x).who (readMsg x).num (readMsg x).data /\ checkM (readMsg x) = 0 /\ writeB (readMsg x) = x := by
 obtain ⟨h1, h2, h3⟩ := Bl6 h
 obtain ⟨z, hz⟩ := AH2.1 h1
 obtain ⟨e1, _⟩ := Bl1 hz
 obtain ⟨e2, e3, _⟩ := AH0 hz
 rw [<- e1] at e2 e3
 refine ⟨?_, e3, e2⟩
 unfold entBad at h2
 generalize readMsg x = X at *
 have q1 : X.kind = 1 := Classical.byContradiction fun q => h2 (.inl q)
 have q2 : X.height = 0 := Classical.byContradiction fun q => h2 (.inr (.inr (.inr (.inl q))))
 have q3 : X.round = 0 := Classical.byContradiction fun q => h2 (.inr (.inr (.inr (.inr (.inl q)))))
 have q4 : X.valid = 0 := Classical.byContradiction fun q => h2 (.inr (.inr (.inr (.inr (.inr (.inl q))))))
 have q5 : X.id = zero32 := Classical.byContradiction fun q => h2 (.inr (.inr (.inr (.inr (.inr (.inr (.inl q)))))))
 have q6 : X.ids = [] := Classical.byContradiction fun q => h2 (.inr (.inr (.inr (.inr (.inr (.inr (.inr (.inl (List.length_pos_iff.2 q)))))))))
 have q7 : X.list = [] := Classical.byContradiction fun q => h2 (.inr (.inr (.inr (.inr (.inr (.inr (.inr (.inr (List.length_pos_iff.2 q)))))))))
 cases X
 simp only at q1 q2 q3 q4 q5 q6 q7
 subst q1 q2 q3 q4 q5 q6 q7
 rfl
theorem AY6 {x : Bts} (h : entC x = 0) : x.length <= 1800091 := by
 obtain ⟨h1, h2, h3⟩ := BG0 h
 rw [<- h3]
 rw [h1] at h2 ⊢
 exact AC8 h2
abbrev encN : Int × Int -> V := fun p => V.agg [.int .i64 p.1, .int .i64 p.2]
abbrev evN : Nat -> V := fun n => V.int .i64 (n : Int)
def bkX (Z : Nat -> Prop) (fl ft fh : Option Nat) : Nat -> Prop := fun f => Z f ∨ fl = some f ∨ ft = some f ∨ fh = some f
structure BkR (Z : Nat -> Prop) (A : AS) (bp tp r : Nat) (M : List ((Int × Int) × Nat)) (N L : List Bts) (Hs : List HdP) (fl ft fh : Option Nat) : Prop where
 ex : ∃ lv hv, A.blk[bp]? = some ⟨[lv, .map r, .ptr tp 0, hv], .var⟩ /\ Lst (eSl eU8) (qHp (bkX Z fl ft fh) A) A lv L fl /\ Lst eHd Hp.emp A hv Hs fh
 mp : MapIs A r encN evN M
 rg : ∃ P, IsRg A tp P ft /\ Pk.cat P = N
 ne : bp ≠ tp
 d1 : ∀ f, fl = some f -> ft ≠ some f
 d2 : ∀ f, fl = some f -> fh ≠ some f
 d3 : ∀ f, ft = some f -> fh ≠ some f
 rl : r < A.maps.length
structure IsBk (Z : Nat -> Prop) (A : AS) (bp tp r : Nat) (L : List Bts) (Hs : List HdP) (fl ft fh : Option Nat) : Prop where
 raw : BkR Z A bp tp r (mapOf L) (L.map leafH) L Hs fl ft fh
 ent : ∀ x ∈ L, entC x = 0
 len : L.length <= 1000
def bkS (A : AS) (bp tp r : Nat) (fl ft fh : Option Nat) : Loc -> Prop := fun z => z = .row bp ∨ z = .row tp ∨ z = .map r ∨ inFamO A fl z ∨ inFamO A ft z ∨ inFamO A fh z
section
variable {A B C : AS} {m : Hp} {Z Z' : Nat -> Prop} {bp tp r : Nat} {M : List ((Int × Int) × Nat)} {N L : List Bts} {Hs : List HdP} {fl ft fh : Option Nat} {S : Loc -> Prop}
theorem RgN.frS {n : Nat} {P : Peaks} (h : RgN A tp n P ft) (hf : Fr S A B) (h2 : ¬ S (.row tp)) (o : Off ft A S) : RgN B tp n P ft := by
 obtain ⟨tv, h1, h3⟩ := h.ex
 exact { h with ex := ⟨tv, hf.row _ _ h1 h2, h3.fr hf o⟩ }
theorem BkR.frO (h : BkR Z A bp tp r M N L Hs fl ft fh) (hf : Fr S A B) (h1 : ¬ S (.row bp)) (h2 : ¬ S (.row tp)) (h3 : ¬ S (.map r)) (o1 : Off fl A S) (o2 : Off ft A S) (o3 : Off fh A S)
 (hq : (qHp (bkX Z fl ft fh) A).le (qHp (bkX Z' fl ft fh) B)) : BkR Z' B bp tp r M N L Hs fl ft fh := by
 obtain ⟨lv, hv, b1, b2, b3⟩ := h.ex
 obtain ⟨P, p1, p2⟩ := h.rg
 exact ⟨⟨lv, hv, hf.row _ _ b1 h1, (b2.fr hf o1).mono hq, b3.fr hf o3⟩, h.mp.fr hf h3, ⟨P, p1.frS hf h2 o2, p2⟩, h.ne, h.d1, h.d2, h.d3, Nat.lt_of_lt_of_le h.rl hf.mlen⟩
theorem BkR.fr0 (h : BkR Z A bp tp r M N L Hs fl ft fh) (hf : Fr S0 A B) : BkR Z B bp tp r M N L Hs fl ft fh :=
 h.frO hf (fun q => q) (fun q => q) (fun q => q) .s0 .s0 .s0 (At2 hf)
theorem BkR.row {b : Nat} {cs : List V} (h : BkR Z A bp tp r M N L Hs fl ft fh) (hw : WF A) (hf : Fr (· = .row b) A B) (hb : A.blk[b]? = some ⟨cs, .var⟩) (h1 : b ≠ bp) (h2 : b ≠ tp) : BkR Z B bp tp r M N L Hs fl ft fh :=
 h.frO hf (fun q => by cases q; exact h1 rfl) (fun q => by cases q; exact h2 rfl) (fun q => by cases q) (.box hb) (.box hb) (.box hb) (An3 hf (.box hb) hw fun f q => .inl q)
theorem BkR.lt (h : BkR Z A bp tp r M N L Hs fl ft fh) : bp < A.blk.length /\ tp < A.blk.length /\ (∀ f, fl = some f -> f < A.blk.length) /\ (∀ f, ft = some f -> f < A.blk.length) /\ ∀ f, fh = some f -> f < A.blk.length := by
 obtain ⟨lv, hv, b1, b2, b3⟩ := h.ex
 obtain ⟨P, p0, _⟩ := h.rg
 obtain ⟨tv, p1, p2⟩ := p0.ex
 exact ⟨Ac9 b1, Ac9 p1, b2.famLt, p2.famLt, b3.famLt⟩
theorem IsBk.fr0 (h : IsBk Z A bp tp r L Hs fl ft fh) (hf : Fr S0 A B) : IsBk Z B bp tp r L Hs fl ft fh := ⟨h.raw.fr0 hf, h.ent, h.len⟩
theorem IsBk.oth (h : IsBk Z A bp tp r L Hs fl ft fh) (hw : WF A) (hf : Fr S A B) (h1 : ¬ S (.row bp)) (h2 : ¬ S (.row tp)) (h3 : ¬ S (.map r)) (hX : Tch Z A S) (hd : ∀ f, fl = some f ∨ ft = some f ∨ fh = some f -> ¬ Z f)
 (hz : ∀ f, Z' f -> Z f ∨ A.blk.length <= f) : IsBk Z' B bp tp r L Hs fl ft fh :=
 ⟨h.raw.frO hf h1 h2 h3 (.tch hX fun f q => hd f (.inl q)) (.tch hX fun f q => hd f (.inr (.inl q))) (.tch hX fun f q => hd f (.inr (.inr q)))
  (An3 hf (hX.mono fun f q => .inl q) hw fun f q => by
   rcases q with q | q
   . exact (hz f q).imp .inl id
   . exact .inl (.inr q)), h.ent, h.len⟩
theorem Bl7 (b : Nat) : evFieldAddr Try.prog 148 (.ptr b 0) 0 = some (.ptr b 0) /\ evFieldAddr Try.prog 148 (.ptr b 0) 1 = some (.ptr b 1) /\ evFieldAddr Try.prog 148 (.ptr b 0) 2 = some (.ptr b 2) /\ evFieldAddr Try.prog 148 (.ptr b 0) 3 = some (.ptr b 3) := ⟨by kernel_rfl, by kernel_rfl, by kernel_rfl, by kernel_rfl⟩
theorem Ak2 {lv mv tv hv : V} {k : BK} (h : A.blk[bp]? = some ⟨[lv, mv, tv, hv], k⟩) : evLoad Try.prog 22 (.ptr bp 0) A = some lv /\ evLoad Try.prog 146 (.ptr bp 1) A = some mv /\ evLoad Try.prog 125 (.ptr bp 2) A = some tv /\ evLoad Try.prog 23 (.ptr bp 3) A = some hv :=
 ⟨by rw [Ab9 BV0 h]; rfl, by rw [Ab9 BV3 h]; rfl, by rw [Ab9 BV2 h]; rfl, by rw [Ab9 B11 h]; rfl⟩
theorem BR1 {lv mv tv hv w : V} (h : A.blk[bp]? = some ⟨[lv, mv, tv, hv], .var⟩) (hw : w.one = true) : ∃ A', evStore Try.prog 22 (.ptr bp 0) w A = some A' /\ Fr (· = .row bp) A A' /\ A'.blk[bp]? = some ⟨[w, mv, tv, hv], .var⟩ := by
 obtain ⟨A', s1, s2, s3, s4⟩ := Ab7 (P := Try.prog) (t := 22) (o := 0) (x := w) (cs := [w]) h (one_cells hw) BO8 (by simp) (by simp [hw])
 exact ⟨A', s1, s2, s3⟩
theorem BR2 {lv mv tv hv w : V} (h : A.blk[bp]? = some ⟨[lv, mv, tv, hv], .var⟩) (hw : w.one = true) : ∃ A', evStore Try.prog 23 (.ptr bp 3) w A = some A' /\ Fr (· = .row bp) A A' /\ A'.blk[bp]? = some ⟨[lv, mv, tv, w], .var⟩ := by
 obtain ⟨A', s1, s2, s3, s4⟩ := Ab7 (P := Try.prog) (t := 23) (o := 3) (x := w) (cs := [w]) h (one_cells hw) B10 (by simp) (by simp [hw])
 exact ⟨A', s1, s2, s3⟩
theorem B02 : mkm Try.prog 146 (some none) = some .newMap := by kernel_rfl
theorem mtB : mapT Try.prog 146 = some (150, 3) := by kernel_rfl
theorem zIB : zeroT Try.prog 3 = some (.int .i64 0) := by kernel_rfl
theorem kNm : KeyT Try.prog 150 encN := BC7 (by kernel_rfl) BO1
theorem Bw0 (a b : Int) : evBuild Try.prog 150 [(0, .int .i64 a), (1, .int .i64 b)] = some (.agg [.int .i64 a, .int .i64 b]) := by kernel_rfl
theorem BG1 (a b : Nat) : evBuild Try.prog 148 [(1, .map a), (2, .ptr b 0)] = some (.agg [.snil, .map a, .ptr b 0, .snil]) := by kernel_rfl
theorem AR4 {v : V} {ls : List Bts} (hw : WF A) (hm : m.on A) (hs : Slc eI m v ls) (hn : ls.length <= 1000000000) :
 ∃ w A', EvF Try.prog HH 65 [v] A w A' /\ Fr S0 A A' /\ w = .ptr A.blk.length 0 /\ ∃ L fo, IsRg A' A.blk.length L fo /\ Pk.cat L = ls /\ ∀ f, fo = some f -> A.blk.length <= f := by
 refine Aa6 rfl Try.func65 (by unfold Try.f65; rfl) Try.ntmps65 (by unfold Try.f65; rfl) (by simp) ?_
 obtain ⟨A1, e1, f1, r1, n1⟩ := Aa9 A [.int .i64 0, .snil]
 have hap : Apart m A.blk.length A1 none := fun b q => by
  rcases q with q | q
  . cases q; exact hm.fresh (Nat.le_refl _)
  . exact q.elim
 obtain ⟨_, A2, k2, rfl, f2, L, fo, h1, h2, h3⟩ := An9 (f1.wf hw) (rg0 r1) (hm.fr0 f1) hap hs (by show 0 + _ <= _; omega)
 simp only [RT, Q0, Q1, Q2, Q3, Q4, Q5, Q6, Q7, Q8, Bu0, <- e1]
 refine Aa0 k2 ?_
 simp only [RT, Q0, Q1, Q2, Q3, Q4, Q5, Q6, Q7, Q8]
 refine ⟨f1.trans f2 fun z q => .inr ?_, L, fo, h1, h2, fun f q => ?_⟩
 . rcases q with q | q
   . subst q; exact Nat.le_refl _
   . cases z <;> exact q.elim
 . rcases h3.or q with y | y
   . cases y
   . have := f1.len; omega
set_option maxRecDepth 10000 in
theorem Ay8 (hw : WF A) : ∃ w A', EvF Try.prog HH 43 [] A w A' /\ Fr S0 A A' /\ ∃ bp tp r ft, w = .ptr bp 0 /\ IsBk Z A' bp tp r [] [] none ft none /\ (∀ f, ft = some f -> A.blk.length <= f) /\ A.blk.length <= bp /\ A.blk.length <= tp /\ A.maps.length <= r := by
 refine Aa6 rfl Try.func43 (by unfold Try.f43; rfl) Try.ntmps43 (by unfold Try.f43; rfl) (by simp) ?_
 simp only [RT, Q0, Q1, Q2, Q3, Q4, Q5, Q6, Q7, Q8, B02]
 have q1 := Fr.pushMap A ⟨[], 0⟩
 have q2 := MapIs.new (enc := encN) (ev := evN) A
 have q3 : (A.pushMap ⟨[], 0⟩).maps.length = A.maps.length + 1 := by simp [AS.pushMap]
 obtain ⟨r, hr⟩ : ∃ r, r = A.maps.length := ⟨_, rfl⟩
 rw [<- hr] at q2 q3 ⊢
 generalize A.pushMap ⟨[], 0⟩ = A1 at *
 obtain ⟨_, A2, k2, f2, rfl, P, fo, h1, h2, h4⟩ := AR4 (A := A1) (v := .snil) (m := Hp.emp) (ls := []) (q1.wf hw) (Hp.on_emp _) (.inl ⟨rfl, rfl⟩) (by simp)
 refine Aa0 k2 ?_
 have hP : P = [] := List.eq_nil_of_length_eq_zero (by have := AR2 h1.ok; rw [h2] at this; simpa using this)
 subst hP
 obtain ⟨A3, e3, f3, r3, n3⟩ := Aa9 A2 [.snil, .map r, .ptr A1.blk.length 0, .snil]
 obtain ⟨bp, hbp⟩ : ∃ b, b = A2.blk.length := ⟨_, rfl⟩
 obtain ⟨tp, htp⟩ : ∃ b, b = A1.blk.length := ⟨_, rfl⟩
 rw [<- htp] at h1 e3 r3 ⊢
 rw [<- hbp] at r3
 simp only [RT, Q0, Q1, Q2, Q3, Q4, Q5, Q6, Q7, Q8, BG1, <- e3, <- hbp]
 obtain ⟨tv, t1, t2⟩ := (h1.fr0 f3).ex
 have l1 := q1.len
 have l2 := f2.len
 have l3 := Ac9 t1
 have l4 : tp < A2.blk.length := by obtain ⟨_, q, _⟩ := h1.ex; exact Ac9 q
 have hm3 : r < A3.maps.length := by have := f2.mlen; have := f3.mlen; omega
 refine ⟨(q1.then0 f2).then0 f3, bp, tp, r, fo, rfl, ⟨⟨⟨_, _, r3, .nil, .nil⟩, (q2.fr f2 fun q => q).fr f3 fun q => q, ⟨[], h1.fr0 f3, rfl⟩, by omega, ?_, ?_, ?_, hm3⟩, ?_, by simp⟩, ?_, by omega, by omega, by omega⟩
 . intro f q; cases q
 . intro f q; cases q
 . intro f _ q; cases q
 . intro x q; cases q
 . intro f q; have := h4 f q; omega
theorem Ag3 (h : BkR Z A bp tp r M N L Hs fl ft fh) : EvF Try.prog HH 45 [.ptr bp 0] A (.int .i64 L.length) A := by
 obtain ⟨lv, hv, b1, b2, b3⟩ := h.ex
 have hlen := fun B => b2.len (P := Try.prog) Try.underlying22 B
 have key : ∃ w A', EvF Try.prog HH 45 [.ptr bp 0] A w A' /\ w = .int .i64 L.length /\ A' = A := by
  refine Aa6 rfl Try.func45 (by unfold Try.f45; rfl) Try.ntmps45 (by unfold Try.f45; rfl) (by simp) ?_
  simp only [RT, Q0, Q1, Q2, Q3, Q4, Q5, Q6, Q7, Q8, Bl7, Ak2 b1, hlen]
 obtain ⟨_, _, k, rfl, rfl⟩ := key
 exact k
theorem Ap2 (h : BkR Z A bp tp r M N L Hs fl ft fh) : EvF Try.prog HH 47 [.ptr bp 0] A (.int .i64 Hs.length) A := by
 obtain ⟨lv, hv, b1, b2, b3⟩ := h.ex
 have hlen := fun B => b3.len (P := Try.prog) Try.underlying23 B
 have key : ∃ w A', EvF Try.prog HH 47 [.ptr bp 0] A w A' /\ w = .int .i64 Hs.length /\ A' = A := by
  refine Aa6 rfl Try.func47 (by unfold Try.f47; rfl) Try.ntmps47 (by unfold Try.f47; rfl) (by simp) ?_
  simp only [RT, Q0, Q1, Q2, Q3, Q4, Q5, Q6, Q7, Q8, Bl7, Ak2 b1, hlen]
 obtain ⟨_, _, k, rfl, rfl⟩ := key
 exact k
end
end Go.Sv.Try
namespace Go.Sv
open Go
theorem Bw1 {X : Nat -> Prop} {A : AS} {b : Nat} {cs : List V} (h : A.blk[b]? = some ⟨cs, .var⟩) : qHp X A b = none := by unfold qHp; rw [h]
theorem AR5 {X : Nat -> Prop} {A : AS} {b f : Nat} (hX : X f) (h : inFam A f (.row b)) : qHp X A b = none := by
 obtain ⟨k, base, h1, h2⟩ := h
 obtain ⟨cs, kk⟩ := k
 simp only at h2
 subst h2
 unfold qHp
 rw [h1]
 simp only [if_pos hX]
theorem Gr.ne {A : AS} {f1 f1' f2 : Option Nat} (h : Gr A f1 f1') (hd : ∀ f, f1 = some f -> f2 ≠ some f) (hl : ∀ f, f2 = some f -> f < A.blk.length) : ∀ f, f1' = some f -> f2 ≠ some f := fun f q z => by
 rcases h.or q with y | y
 . exact hd f y z
 . have := hl f z; omega
end Go.Sv
namespace Go.Sv.Try
open Go Go.Proofs
section
variable {A B C : AS} {m : Hp} {Z Z' : Nat -> Prop} {bp tp r : Nat} {M : List ((Int × Int) × Nat)} {N L : List Bts} {Hs : List HdP} {fl ft fh : Option Nat} {S : Loc -> Prop}
theorem Bd2 {f1 f2 f3 f1' f2' f3' : Option Nat} (g1 : Gr A f1 f1') (g2 : Gr A f2 f2') (g3 : Gr A f3 f3') : ∀ f, bkX Z f1' f2' f3' f -> bkX Z f1 f2 f3 f ∨ A.blk.length <= f := fun f q => by
 rcases q with q | q | q | q
 . exact .inl (.inl q)
 . exact (g1.or q).imp (fun z => .inr (.inl z)) id
 . exact (g2.or q).imp (fun z => .inr (.inr (.inl z))) id
 . exact (g3.or q).imp (fun z => .inr (.inr (.inr z))) id
theorem BkR.box (h : BkR Z A bp tp r M N L Hs fl ft fh) : (∃ cs, A.blk[bp]? = some ⟨cs, .var⟩) /\ ∃ cs, A.blk[tp]? = some ⟨cs, .var⟩ := by
 obtain ⟨lv, hv, b1, b2, b3⟩ := h.ex
 obtain ⟨P, p0, _⟩ := h.rg
 obtain ⟨tv, p1, p2⟩ := p0.ex
 exact ⟨⟨_, b1⟩, ⟨_, p1⟩⟩
theorem BkR.addL (h : BkR Z A bp tp r M N L Hs fl ft fh) (hw : WF A) (hZ : ∀ f, Z f -> f < A.blk.length) (hm : m.on A) {x : Bts} {v : V} (hx : Slc eU8 m v x) (hxl : x.length <= 1000000000000) (hL : L.length <= 1000000) :
 ∃ lv hv c B lv' C D fl', A.blk[bp]? = some ⟨[lv, .map r, .ptr tp 0, hv], .var⟩ /\
  evAppend Try.prog 44 44 (.sl A.blk.length 0 0 1) v (A.push ⟨[], .arr A.blk.length 0⟩) = some (.sl c 0 x.length 1, B) /\ Fr S0 A B /\
  evAppend Try.prog 22 22 lv (.sl B.blk.length 0 1 1) (B.push ⟨[.sl c 0 x.length 1], .arr B.blk.length 0⟩) = some (lv', C) /\ Fr (inFamO B fl) B C /\
  evStore Try.prog 22 (.ptr bp 0) lv' C = some D /\ Fr (· = .row bp) C D /\ BkR Z D bp tp r M N (L ++ [x]) Hs fl' ft fh /\ Gr A fl fl' := by
 obtain ⟨lv, hv, b1, b2, b3⟩ := h.ex
 obtain ⟨l1, l2, l3, l4, l5⟩ := h.lt
 obtain ⟨P, p0, pc⟩ := h.rg
 obtain ⟨c, B, y1, y2, y3, y4, y5⟩ := Ba1 (P := Try.prog) (t := 44) (tx := 44) hw Bt2 Try.underlying44 hx hm (by omega) (by omega)
 have wB := y5.wf hw
 have hnew : ¬ bkX Z fl ft fh A.blk.length := by
  rintro (q | q | q | q)
  . have := hZ _ q; omega
  . have := l3 _ q; omega
  . have := l4 _ q; omega
  . have := l5 _ q; omega
 have hc : Slc eU8 (qHp (bkX Z fl ft fh) B) (.sl c 0 x.length 1) x := AP0 y2 hnew
 have b2B := (b2.fr0 y5).mono (At2 y5)
 obtain ⟨lv', C, fl', p1, p2, p3, p4⟩ := b2B.push (P := Try.prog) (t := 22) (tx := 22) (n := 1) rfl BO2 Try.underlying22 wB (y := x) (cs' := [.sl c 0 x.length 1]) ⟨_, rfl, hc⟩ (by omega) (by omega)
 have b1C := p3.row _ _ (y5.row0 b1) (Ac3 (y5.row0 b1))
 obtain ⟨D, s1, s2, s3⟩ := BR1 (w := lv') b1C p2.one
 have wC := p3.wf wB
 have g := p4.from y5.len
 have tB : Tch (bkX Z fl ft fh) B (inFamO B fl) := .famO fun f q => .inr (.inl q)
 have q1 := An3 (Y := bkX Z fl' ft fh) p3 tB wB fun f q => (Bd2 p4 .rfl' .rfl' f q)
 have q2 := An3 (X := bkX Z fl' ft fh) s2 (.box b1C) wC fun f q => .inl q
 have offT : Off ft B (inFamO B fl) := by
  cases hfl : fl with
  | none => exact fun _ q => q.elim
  | some g => exact Off.fam fun q => h.d1 g hfl q
 have offH : Off fh B (inFamO B fl) := by
  cases hfl : fl with
  | none => exact fun _ q => q.elim
  | some g => exact Off.fam fun q => h.d2 g hfl q
 obtain ⟨tv, t1, t2⟩ := p0.ex
 have nb : ¬ inFamO B fl (.row tp) := Ac3 (y5.row0 t1)
 refine ⟨lv, hv, c, B, lv', C, D, fl', b1, y1, y5, p1, p3, s1, s2, ?_, g⟩
 refine ⟨⟨lv', hv, s3, (p2.fr s2 (.box b1C)).mono (Hp.le_trans q1 q2), ((b3.fr0 y5).fr p3 offH).fr s2 (.box b1C)⟩, ((h.mp.fr y5 fun q => q).fr p3 fun q => by cases fl <;> exact q.elim).fr s2 (fun q => by cases q), ⟨P, ((p0.fr0 y5).frS p3 nb offT).frS s2 (fun q => by cases q; exact h.ne rfl) (.box b1C), pc⟩, h.ne, ?_, ?_, h.d3, ?_⟩
 . exact g.ne h.d1 l4
 . exact g.ne h.d2 l5
 . have := h.rl; have := y5.mlen; have := p3.mlen; have := s2.mlen; omega
theorem BkR.addN (h : BkR Z A bp tp r M N L Hs fl ft fh) (hw : WF A) {x : Bts} {v : V} {fo : Option Nat} (hv : Lst eI Hp.emp A v [x] fo) (hfo : ∀ f, fo = some f -> ft ≠ some f) (hN : N.length <= 1000000) :
 ∃ A', EvF Try.prog HH 76 [.ptr tp 0, v] A (.int .i64 0) A' /\ Fr (rgS tp A ft) A A' /\ ∃ ft', BkR Z A' bp tp r M (N ++ [x]) L Hs fl ft' fh /\ Gr A ft ft' := by
 obtain ⟨lv, hv', b1, b2, b3⟩ := h.ex
 obtain ⟨l1, l2, l3, l4, l5⟩ := h.lt
 obtain ⟨P, p0, pc⟩ := h.rg
 obtain ⟨tv, t1, t2⟩ := p0.ex
 obtain ⟨X, hX⟩ : ∃ X : Nat -> Prop, X = fun f => ft = some f := ⟨_, rfl⟩
 have hS := hv.slcQ (X := X) (fun _ _ q => by cases q) (fun f q => by rw [hX]; exact hfo f q)
 have hap : Apart (qHp X A) tp A ft := fun c q => by
  rcases q with q | q
  . cases q; exact Bw1 t1
  . cases hft : ft with
    | none => rw [hft] at q; exact q.elim
    | some g => rw [hft] at q; exact AR5 (by rw [hX]; exact hft) q
 obtain ⟨_, A', k1, rfl, f1, P', ft', r1, r2, r3⟩ := An9 hw p0 (Bv1 X A) hap hS (by rw [pc]; simp; omega)
 have nb : ¬ rgS tp A ft (.row bp) := by
  rintro (q | q)
  . cases q; exact h.ne rfl
  . exact Ac3 b1 q
 have offL : Off fl A (rgS tp A ft) := .or (.box t1) (by
  cases hft : ft with
  | none => exact fun _ q => q.elim
  | some g => exact Off.fam fun q => h.d1 g q hft)
 have offH : Off fh A (rgS tp A ft) := .or (.box t1) (by
  cases hft : ft with
  | none => exact fun _ q => q.elim
  | some g => exact Off.fam fun q => h.d3 g hft q)
 have tc : Tch (bkX Z fl ft fh) A (rgS tp A ft) := .or (.box t1) (.famO fun f q => .inr (.inr (.inl q)))
 have q1 := An3 (Y := bkX Z fl ft' fh) f1 tc hw (Bd2 .rfl' r3 .rfl')
 refine ⟨A', k1, f1, ft', ⟨⟨lv, hv', f1.row _ _ b1 nb, (b2.fr f1 offL).mono q1, b3.fr f1 offH⟩, h.mp.fr f1 (fun q => ?_), ⟨P', r1, by rw [r2, pc]⟩, h.ne, fun f q z => ?_, h.d2, r3.ne h.d3 l5, Nat.lt_of_lt_of_le h.rl f1.mlen⟩, r3⟩
 . rcases q with q | q
   . cases q
   . cases ft <;> exact q.elim
 . rcases r3.or z with y | y
   . exact h.d1 f q y
   . have := l3 f q; omega
theorem BG2 {x : HdP} (h : x.2.2.length = 32) : bsl Try.prog 23 1 (some [(0, .agg (hdC x))]) = some (.newSl (hdC x) 1 34) := A25 Try.underlying23 BD7 Bv9 rfl (by rw [Ao1 h]) (by decide)
theorem BkR.addH (h : BkR Z A bp tp r M N L Hs fl ft fh) (hw : WF A) {x : HdP} (hx : x.2.2.length = 32) (hL : Hs.length <= 1000000) :
 ∃ lv hv hv' C D fh', A.blk[bp]? = some ⟨[lv, .map r, .ptr tp 0, hv], .var⟩ /\
  evAppend Try.prog 23 23 hv (.sl A.blk.length 0 1 34) (A.push ⟨hdC x, .arr A.blk.length 0⟩) = some (hv', C) /\ Fr (inFamO A fh) A C /\
  evStore Try.prog 23 (.ptr bp 3) hv' C = some D /\ Fr (· = .row bp) C D /\ BkR Z D bp tp r M N L (Hs ++ [x]) fl ft fh' /\ Gr A fh fh' := by
 obtain ⟨lv, hv, b1, b2, b3⟩ := h.ex
 obtain ⟨l1, l2, l3, l4, l5⟩ := h.lt
 obtain ⟨P, p0, pc⟩ := h.rg
 obtain ⟨tv, t1, t2⟩ := p0.ex
 obtain ⟨hv', C, fh', p1, p2, p3, p4⟩ := b3.push (P := Try.prog) (t := 23) (tx := 23) (n := 34) rfl B23 Try.underlying23 hw (y := x) (cs' := hdC x) ⟨[.int .i64 x.1], .int .i64 x.2.1 :: bc x.2.2, rfl, rfl, [.int .i64 x.2.1], bc x.2.2, rfl, rfl, rfl, hx⟩ (by omega) (by omega)
 have b1C := p3.row _ _ b1 (Ac3 b1)
 obtain ⟨D, s1, s2, s3⟩ := BR2 (w := hv') b1C p2.one
 have wC := p3.wf hw
 have tB : Tch (bkX Z fl ft fh) A (inFamO A fh) := .famO fun f q => .inr (.inr (.inr q))
 have q1 := An3 (Y := bkX Z fl ft fh') p3 tB hw (Bd2 .rfl' .rfl' p4)
 have q2 := An3 (X := bkX Z fl ft fh') s2 (.box b1C) wC fun f q => .inl q
 have offL : Off fl A (inFamO A fh) := by
  cases hfh : fh with
  | none => exact fun _ q => q.elim
  | some g => exact Off.fam fun q => h.d2 g q hfh
 have offT : Off ft A (inFamO A fh) := by
  cases hfh : fh with
  | none => exact fun _ q => q.elim
  | some g => exact Off.fam fun q => h.d3 g q hfh
 refine ⟨lv, hv, hv', C, D, fh', b1, p1, p3, s1, s2, ⟨⟨lv, hv', s3, ((b2.fr p3 offL).fr s2 (.box b1C)).mono (Hp.le_trans q1 q2), p2.fr s2 (.box b1C)⟩, (h.mp.fr p3 fun q => by cases fh <;> exact q.elim).fr s2 (fun q => by cases q), ⟨P, (p0.frS p3 (Ac3 t1) offT).frS s2 (fun q => by cases q; exact h.ne rfl) (.box b1C), pc⟩, h.ne, h.d1, fun f q z => ?_, fun f q z => ?_, ?_⟩, p4⟩
 . rcases p4.or z with y | y
   . exact h.d2 f q y
   . have := l3 f q; omega
 . rcases p4.or z with y | y
   . exact h.d3 f q y
   . have := l4 f q; omega
 . have := h.rl; have := p3.mlen; have := s2.mlen; omega
end
end Go.Sv.Try
namespace Go.Sv
open Go
def newRF (A : AS) : Loc -> Prop
 | .row c => A.blk.length <= c
 | .fam f => A.blk.length <= f
 | _ => False
theorem A38 {A B : AS} {fo : Option Nat} {z : Loc} (h : inFamO B fo z) (hn : z.newTo A) : newRF A z := by
 cases fo with
 | none => exact h.elim
 | some f => cases z <;> first | exact hn | exact h.elim
theorem AC9 {A B : AS} {fo : Option Nat} {c : Nat} (hf : Fr S0 A B) (hl : ∀ f, fo = some f -> f < A.blk.length) (h : inFamO B fo (.row c)) : c < A.blk.length := by
 cases fo with
 | none => exact h.elim
 | some f =>
  obtain ⟨k, base, h1, h2⟩ := h
  rcases Nat.lt_or_ge c A.blk.length with q | q
  . exact q
  . have := (hf.new c k f base h1 q h2).2
    rcases this with y | y
    . have := hl f rfl; omega
    . exact y.elim
theorem AI1 {A B : AS} {fo : Option Nat} {z : Loc} (hf : Fr S0 A B) (hl : ∀ f, fo = some f -> f < A.blk.length) (h : inFamO B fo z) : inFamO A fo z := by
 rcases Ad9 hf h with q | q
 . exact q
 . cases z with
   | row c => have := AC9 hf hl h; have : A.blk.length <= c := q; omega
   | fam g => cases fo with
    | none => exact h.elim
    | some f => exact h
   | map r => cases fo <;> exact h.elim
   | loop r => cases fo <;> exact h.elim
   | it r => cases fo <;> exact h.elim
end Go.Sv
namespace Go.Sv.Try
open Go Go.Proofs
def apS (A : AS) (bp tp r : Nat) (fl ft : Option Nat) : Loc -> Prop := fun z => z = .row bp ∨ z = .row tp ∨ z = .map r ∨ inFamO A fl z ∨ inFamO A ft z ∨ newRF A z
structure ApI (Z : Nat -> Prop) (A : AS) (bp tp r : Nat) (L : List Bts) (Hs : List HdP) (fl ft fh : Option Nat) (b2 : Nat) (B : AS) : Prop where
 wf : WF B
 bx : B.blk[b2]? = some ⟨[.ptr bp 0], .var⟩
 bk : ∃ fl' ft', IsBk Z B bp tp r L Hs fl' ft' fh /\ Gr A fl fl' /\ Gr A ft ft'
section
variable {A B C : AS} {m : Hp} {Z Z' : Nat -> Prop} {bp tp r b2 : Nat} {M : List ((Int × Int) × Nat)} {N L : List Bts} {Hs : List HdP} {fl ft fh : Option Nat} {S : Loc -> Prop}
theorem BkR.loop {l : Nat} (h : BkR Z A bp tp r M N L Hs fl ft fh) (hw : WF A) (hf : Fr (· = .loop l) A B) : BkR Z B bp tp r M N L Hs fl ft fh :=
 h.frO hf (fun q => by cases q) (fun q => by cases q) (fun q => by cases q) (fun b q => by cases q) (fun b q => by cases q) (fun b q => by cases q) (An3 hf (fun b k q => by cases q) hw fun f q => .inl q)
theorem ApI.loop {l : Nat} (h : ApI Z A bp tp r L Hs fl ft fh b2 B) (hf : Fr (· = .loop l) B C) : ApI Z A bp tp r L Hs fl ft fh b2 C := by
 obtain ⟨h1, h2, fl', ft', h3, h4, h5⟩ := h
 exact ⟨hf.wf h1, hf.row _ _ h2 (fun q => by cases q), fl', ft', ⟨h3.raw.loop h1 hf, h3.ent, h3.len⟩, h4, h5⟩
theorem BkR.maps (h : BkR Z A bp tp r M N L Hs fl ft fh) (hw : WF A) {M' : List ((Int × Int) × Nat)} (hf : Fr (· = .map r) A B) (hm : MapIs B r encN evN M') : BkR Z B bp tp r M' N L Hs fl ft fh := by
 obtain ⟨lv, hv, b1, b2, b3⟩ := h.ex
 obtain ⟨P, p1, p2⟩ := h.rg
 have o : ∀ fo, Off fo A (· = .map r) := fun fo b q => by cases q
 exact ⟨⟨lv, hv, hf.row _ _ b1 (fun q => by cases q), (b2.fr hf (o _)).mono (An3 hf (fun b k q => by cases q) hw fun f q => .inl q), b3.fr hf (o _)⟩, hm, ⟨P, p1.frS hf (fun q => by cases q) (o _), p2⟩, h.ne, h.d1, h.d2, h.d3, Nat.lt_of_lt_of_le h.rl hf.mlen⟩
theorem AI2 {b y : Bts} (h : y ∈ splitB b) : y.length <= b.length := by
 unfold splitB at h
 split at h
 . cases h
 . have := Aj3 h
   have := AH8 b
   simp only [szM] at this
   omega
theorem B03 {b : Nat} {a c : Int} (h : A.blk[b]? = some ⟨[.int .i64 a, .int .i64 c], .var⟩) : evLoad Try.prog 150 (.ptr b 0) A = some (encN (a, c)) := A35 (P := Try.prog) BO1 BO0 h rfl
end
end Go.Sv.Try
namespace Go.Sv.Try
open Go Go.Proofs
section
variable {A B C : AS} {m : Hp} {Z Z' : Nat -> Prop} {bp tp r : Nat} {M : List ((Int × Int) × Nat)} {N L : List Bts} {Hs : List HdP} {fl ft fh : Option Nat} {S : Loc -> Prop}
theorem BR3 : bsl Try.prog 44 0 (some []) = some (.newSl [] 0 1) := by kernel_rfl
theorem BG3 {v : V} (h : v = .snil ∨ ∃ b o n z, v = .sl b o n z) : bsl Try.prog 22 1 (some [(0, v)]) = some (.newSl [v] 1 1) := by
 rcases h with rfl | ⟨_, _, _, _, rfl⟩ <;> kernel_rfl
theorem B04 : (zeroT Try.prog 150).bind V.cells = some [.int .i64 0, .int .i64 0] := by kernel_rfl
theorem BG4 (a s : Int) (g : Nat -> V) : evBuild Try.prog 34 [(0, .int .i64 a), (1, .int .i64 s), (2, .agg ((List.range 32).map g))] = some (.agg (.int .i64 a :: .int .i64 s :: (List.range 32).map g)) := by kernel_rfl
theorem Bw2 {a s : Int} {x : Bts} (h : x.length = 32) : evBuild Try.prog 34 [(0, .int .i64 a), (1, .int .i64 s), (2, .agg (bc x))] = some (.agg (hdC (a, s, x))) := by
 obtain ⟨g, hg⟩ := Bj2 (l := bc x) (n := 32) (by rw [Aa5, h])
 unfold hdC; simp only []; rw [hg]; exact BG4 a s g
set_option maxRecDepth 10000 in
set_option maxHeartbeats 32000000 in
theorem Am0 {v : V} {b : Bts} (hw : WF A) (hZ : ∀ f, Z f -> f < A.blk.length) (h : IsBk Z A bp tp r L Hs fl ft fh) (hm : m.on A) (hv : Slc eU8 m v b) (hb : b.length <= 1000000000000) (hH : Hs.length <= 100000) :
 ∃ w A', EvF Try.prog HH 44 [.ptr bp 0, v] A w A' /\ w = .int .i64 (((applyB L b).length : Int) - L.length) /\ Fr (bkS A bp tp r fl ft fh) A A' /\
  ∃ fl' ft' fh', IsBk Z A' bp tp r (applyB L b) (Hs ++ [(((Hs.length + 1 : Nat) : Int), ((applyB L b).length : Int), rootR ((applyB L b).map leafH))]) fl' ft' fh' /\ Gr A fl fl' /\ Gr A ft ft' /\ Gr A fh fh' := by
 refine Aa6 rfl Try.func44 (by unfold Try.f44; rfl) Try.ntmps44 (by unfold Try.f44; rfl) (by simp) ?_
 obtain ⟨A1, e1, f1, r1, n1⟩ := Aa9 A [.ptr bp 0]
 obtain ⟨b2, hb2⟩ : ∃ b, b = A.blk.length := ⟨_, rfl⟩
 rw [<- hb2] at r1 n1
 have w1 := f1.wf hw
 have h1 := h.fr0 f1
 obtain ⟨l1, l2, l3, l4, l5⟩ := h.raw.lt
 obtain ⟨lv, hv1, k1, k2, k3⟩ := h1.raw.ex
 have ldb := fun {C : AS} (q : C.blk[b2]? = some ⟨[.ptr bp 0], .var⟩) => Al3 (P := Try.prog) (t := 84) B20 q
 have fa := Bl7 bp
 have hlenL := fun {w : V} {B X : AS} {fo : Option Nat} {L : List Bts} {m : Hp} (q : Lst (eSl eU8) m X w L fo) => q.len (P := Try.prog) Try.underlying22 B
 have hlenH := fun {w : V} {B X : AS} {fo : Option Nat} {L : List HdP} (q : Lst eHd Hp.emp X w L fo) => q.len (P := Try.prog) Try.underlying23 B
 simp only [RT, Q0, Q1, Q2, Q3, Q4, Q5, Q6, Q7, Q8, <- e1, <- hb2, ldb r1, fa, Ak2 k1, hlenL k2]
 obtain ⟨_, A2, s1, f2, be, bm, dv, iv, lv2, rfl, s2, s3, s4, s5, s6⟩ := A81 w1 (hm.fr0 f1) hv hb
 refine Aa0 s1 ?_
 obtain ⟨mm, hmm⟩ : ∃ x, x = arrHq A1.blk.length A2 := ⟨_, rfl⟩
 have hmmon : mm.on A2 := by rw [hmm]; exact A63 _ _
 rw [<- hmm] at s4
 have w2 := f2.wf w1
 have f12 := f1.then0 f2
 have h2 := h.fr0 f12
 obtain ⟨m1, m2, m3, m4, m5⟩ := h2.raw.lt
 obtain ⟨⟨_, bx1⟩, _, bx2⟩ := h2.raw.box
 have len12 := f12.len
 have len1 := f1.len
 have len2 := f2.len
 obtain ⟨xs, hxs⟩ : ∃ x, x = splitB b := ⟨_, rfl⟩
 have hxl : ∀ y ∈ xs, y.length <= b.length := fun y q => AI2 (by rw [<- hxs]; exact q)
 have mnone : ∀ c, A1.blk.length <= c ∨ mm c = none := fun c => by
  rw [hmm]; unfold arrHq
  by_cases q : A1.blk.length <= c
  . exact .inl q
  . right; rw [if_neg q]
 have mbig : ∀ c, A2.blk.length <= c -> mm c = none := fun c q => hmmon.fresh q
 have hSm : ∀ c, apS A2 bp tp r fl ft (.row c) -> mm c = none := by
  rintro c (q | q | q | q | q | q)
  . cases q; rw [hmm]; exact Ad1 bx1
  . cases q; rw [hmm]; exact Ad1 bx2
  . cases q
  . have := AC9 f12 l3 q; rcases mnone c with y | y
    . omega
    . exact y
  . have := AC9 f12 l4 q; rcases mnone c with y | y
    . omega
    . exact y
  . exact mbig c q
 simp only [RT, Q0, Q1, Q2, Q3, Q4, Q5, Q6, Q7, Q8]
 refine AK7 (S := apS A2 bp tp r fl ft) (AR := argSp mm) (xs := xs.zipIdx) (fun i B => ApI Z A2 bp tp r ((xs.take i).foldl addE L) Hs fl ft fh b2 B) (fun B => ApI Z A2 bp tp r (xs.foldl addE L) Hs fl ft fh b2 B)
  rfl (fun q => by
   rcases q with q | q | q | q | q | q
   . cases q
   . cases q
   . cases q
   . cases fl <;> exact q.elim
   . cases ft <;> exact q.elim
   . exact q.elim) ?_ ⟨w2, f2.row0 r1, fl, ft, h2, .rfl', .rfl'⟩ (fun _ _ _ q z => q.loop z) (fun _ _ q z => q.loop z) Try.func44 Try.ntmps44 (by simp) ?_ ?_ ?_
 . intro A0 hf0
   rw [hxs]
   refine AY5 (hmmon.fr0 hf0) ?_ (hf0.row0 s2) (hf0.row0 s3) s4
   rintro c (q | q)
   . exact hSm c q
   . cases q
 . rintro i ⟨y, j⟩ B args hi hI hfB ⟨w, rfl, hy⟩
   have hi' : xs[i]? = some y := by
    rw [List.getElem?_zipIdx] at hi
    cases q : xs[i]? with
    | none => rw [q] at hi; simp at hi
    | some y' => rw [q] at hi; simp at hi; rw [hi.1]
   have hy : Slc eU8 mm w y := hy
   have hyl := hxl y (List.mem_of_getElem? hi')
   have hnext : (xs.take (i + 1)).foldl addE L = addE ((xs.take i).foldl addE L) y := by rw [Ag5 hi', List.foldl_append]; rfl
   rw [hnext]
   have hall : xs.foldl addE L = (xs.drop i).foldl addE ((xs.take i).foldl addE L) := by rw [<- List.foldl_append, List.take_append_drop]
   refine ⟨_, rfl, ?_⟩
   simp only [RT, Q0, Q1, Q2, Q3, Q4, Q5, Q6, Q7, Q8]
   refine ⟨rfl, .refl _ _, fun B1 hB1 => ?_⟩
   have hI := hI.loop hB1
   have hfB1 : Fr (orLoop (apS A2 bp tp r fl ft) A2.loops.length) A2 B1 := hfB.trans hB1 fun z q => .inl (.inr q)
   obtain ⟨L1, hL1⟩ : ∃ l, l = (xs.take i).foldl addE L := ⟨_, rfl⟩
   rw [<- hL1] at hI hall ⊢
   obtain ⟨wB, bxB, fl1, ft1, hk, g1, g2⟩ := hI
   have hmmB : mm.on B1 := hmmon.fr hfB1 fun c q => by
    rcases q with q | q
    . exact hSm c q
    . cases q
   obtain ⟨_, C1, c1, c2, X, dv1, iv1, lv1, rfl, c3, c4⟩ := Ar3 wB hmmB hy (by show y.length <= _; omega)
   obtain ⟨C2, t1, t2, t3⟩ := As3 (A := C1) c3
   have ldm := ldM t3 c3.id
   have fam := faM C1.blk.length
   obtain ⟨C3, u1, u2, u3, u4⟩ := Ag4 (P := Try.prog) C2 (z := [.int .i64 0, .int .i64 0]) (t := 150) (x := .agg [.int .i64 X.who, .int .i64 X.num]) (cs := [.int .i64 X.who, .int .i64 X.num]) rfl BO0 rfl rfl
   obtain ⟨b8, hb8⟩ : ∃ b, b = C1.blk.length := ⟨_, rfl⟩
   obtain ⟨b10, hb10⟩ : ∃ b, b = C2.blk.length := ⟨_, rfl⟩
   rw [<- hb8] at t1 t3 fam ldm
   rw [<- hb10] at u1 u3
   have fC3 : Fr S0 B1 C3 := (c2.then0 t2).then0 u2
   have wC3 := fC3.wf wB
   have hkC := hk.fr0 fC3
   have bxC := fC3.row0 bxB
   have ldn := B03 u3
   obtain ⟨lvC, hvC, q1, q2, q3⟩ := hkC.raw.ex
   have hlk := hkC.raw.mp.look (P := Try.prog) kNm mtB zIB (X.who, X.num) true
   have fS : Fr (apS A2 bp tp r fl ft) B1 C3 := fC3.mono fun _ q => q.elim
   refine Aa0 c1 ?_
   simp only [RT, Q0, Q1, Q2, Q3, Q4, Q5, Q6, Q7, Q8, zcM, <- hb8, t1, fam, ldm, Bw0, B04, <- hb10, u1]
   rw [BC9, Aa8 (by rfl)]
   by_cases d1 : entC y = 0
   rotate_left
   . have hno : addE L1 y = L1 := Ao2 fun q => d1 q.1
     cases hq : lookL (mapOf L1) (X.who, X.num) with
     | some j =>
      rw [hq] at hlk; simp only [if_true] at hlk
      simp only [RT, Q0, Q1, Q2, Q3, Q4, Q5, Q6, Q7, Q8, ldb bxC, fa, Ak2 q1, ldn, hlk, d1]
      exact ⟨fS, .inl ⟨rfl, by rw [hno]; exact ⟨wC3, bxC, fl1, ft1, hkC, g1, g2⟩⟩⟩
     | none =>
      rw [hq] at hlk; simp only [if_true] at hlk
      simp only [RT, Q0, Q1, Q2, Q3, Q4, Q5, Q6, Q7, Q8, ldb bxC, fa, Ak2 q1, ldn, hlk, d1]
      exact ⟨fS, .inl ⟨rfl, by rw [hno]; exact ⟨wC3, bxC, fl1, ft1, hkC, g1, g2⟩⟩⟩
   have hX := c4 d1
   have hnm : (X.who, X.num) = nmOf y := by rw [hX]; rfl
   cases hq : lookL (mapOf L1) (X.who, X.num) with
   | some j =>
    have hno : addE L1 y = L1 := Ao2 fun q => by rw [<- hnm, hq] at q; cases q.2.1
    rw [hq] at hlk; simp only [if_true] at hlk
    simp only [RT, Q0, Q1, Q2, Q3, Q4, Q5, Q6, Q7, Q8, ldb bxC, fa, Ak2 q1, ldn, hlk, d1]
    exact ⟨fS, .inl ⟨rfl, by rw [hno]; exact ⟨wC3, bxC, fl1, ft1, hkC, g1, g2⟩⟩⟩
   | none =>
   rw [hq] at hlk; simp only [if_true] at hlk
   by_cases d2 : L1.length < 1000
   rotate_left
   . have hfull : xs.foldl addE L = L1 := by rw [hall, AR3 d2]
     have := hk.len
     simp only [RT, Q0, Q1, Q2, Q3, Q4, Q5, Q6, Q7, Q8, ldb bxC, fa, Ak2 q1, ldn, hlk, d1, hlenL q2, decide_eq_true (show ((L1.length : Int) = 1000) by omega)]
     exact ⟨fS, .inr ⟨rfl, by rw [hfull]; exact ⟨wC3, bxC, fl1, ft1, hkC, g1, g2⟩⟩⟩
   have hyes : addE L1 y = L1 ++ [y] := At7 d1 (by rw [<- hnm]; exact hq) d2
   rw [hyes]
   obtain ⟨D1, y1, y2, y3⟩ := hkC.raw.mp.put (P := Try.prog) kNm mtB L1.length hq
   have hkD := hkC.raw.maps wC3 y2 y3
   rw [hnm, <- A82] at hkD
   have wD1 := y2.wf wC3
   have bxD := y2.row _ _ bxC (fun q => by cases q)
   have fD1 : Fr (apS A2 bp tp r fl ft) B1 D1 := fS.trans y2 fun z q => .inl (.inr (.inr (.inl q)))
   have hb2S : ∀ {X Y : AS} {c : Nat}, b2 ≠ c -> Fr (· = .row c) X Y -> X.blk[b2]? = some ⟨[.ptr bp 0], .var⟩ -> Y.blk[b2]? = some ⟨[.ptr bp 0], .var⟩ := by
    intro X Y c ne q z
    exact q.row _ _ z fun q => by cases q; exact ne rfl
   have base : ∀ {Y : AS}, Fr (apS A2 bp tp r fl ft) B1 Y -> Fr (orLoop (apS A2 bp tp r fl ft) A2.loops.length) A2 Y := fun q => hfB1.trans q fun z y => .inl (.inl y)
   have hmmD : mm.on D1 := hmmB.fr fD1 hSm
   have hlB := (base fD1).len
   obtain ⟨lvD, hvD, c, D2, lv', D3, D4, fl2, p1, p2, p3, p4, p5, p6, p7, p8, p9⟩ := hkD.addL wD1 (fun f q => by have := hZ f q; omega) hmmD hy (by omega) (by omega)
   have p1' : D2.blk[bp]? = some ⟨[lvD, .map r, .ptr tp 0, hvD], .var⟩ := p3.row0 p1
   have wD2 := p3.wf wD1
   have wD3 := p5.wf wD2
   have wD4 := p7.wf wD3
   have bx2 := p3.row0 bxD
   have bx3 := p5.row _ _ bx2 (Ac3 bx2)
   have bx4 := hb2S (by omega) p7 bx3
   have fD2 := fD1.then0 p3
   have fD3 : Fr (apS A2 bp tp r fl ft) B1 D3 := fD2.trans p5 fun z q => by
    rcases A27 w2 (base fD2) g1 q with y | y
    . exact .inl (.inr (.inr (.inr (.inl y))))
    . exact .inl (.inr (.inr (.inr (.inr (.inr (A38 q y))))))
   have fD4 : Fr (apS A2 bp tp r fl ft) B1 D4 := fD3.trans p7 fun z q => .inl (.inl q)
   have hmm4 : mm.on D4 := hmmB.fr fD4 hSm
   obtain ⟨D5, e5⟩ : ∃ X, X = D4.push ⟨[w], .arr D4.blk.length 0⟩ := ⟨_, rfl⟩
   obtain ⟨b5, hb5⟩ : ∃ b, b = D4.blk.length := ⟨_, rfl⟩
   rw [<- hb5] at e5
   have f5 : Fr S0 D4 D5 := by rw [e5, hb5]; exact Fr.pushArr D4 _
   have r5 : D5.blk[b5]? = some ⟨[w], .arr b5 0⟩ := by rw [e5, hb5]; exact Ab3 D4 _
   have on5 : (mm.put b5 [w]).on D5 := (hmm4.fr0 f5).put r5
   have sl5 : Slc (eSl eU8) (mm.put b5 [w]) (.sl b5 0 1 1) [y] := BO5 (Hp.put_get _ _ _) rfl rfl fun i x hx => by
    match i, hx with
    | 0, hx => cases hx; exact ⟨_, rfl, hy.mono (Hp.le_put (hmm4.fresh (by omega)))⟩
    | i + 1, hx => simp at hx
   obtain ⟨w6, D6, v1, f6, fo6, v2, v3⟩ := Ay7 (f5.wf wD4) on5 sl5 (by simp) (fun x q => by rw [List.mem_singleton.1 q]; have := AY6 d1; omega)
   have f46 := f5.then0 f6
   have hk6 := p8.fr0 f46
   obtain ⟨n1', n2', n3', n4', n5'⟩ := p8.lt
   have hlD5 := f5.len
   obtain ⟨D7, z1, z2, ft2, z3, z4⟩ := hk6.addN (f46.wf wD4) v2 (fun f q z => by have := v3 f q; have := n4' f z; omega) (by rw [List.length_map]; omega)
   have bx6 := f46.row0 bx4
   have fD6 := fD4.then0 f46
   have fD7 : Fr (apS A2 bp tp r fl ft) B1 D7 := fD6.trans z2 fun z q => by
    rcases q with q | q
    . exact .inl (.inr (.inl q))
    . rcases A27 w2 (base fD6) g2 q with y | y
      . exact .inl (.inr (.inr (.inr (.inr (.inl y)))))
      . exact .inl (.inr (.inr (.inr (.inr (.inr (A38 q y))))))
   have bx7 : D7.blk[b2]? = some ⟨[.ptr bp 0], .var⟩ := z2.row _ _ bx6 fun q => by
    rcases q with q | q
    . cases q; omega
    . exact Ac3 bx6 q
   have w7 := z2.wf (f46.wf wD4)
   have wfr : w = .snil ∨ ∃ b o n z, w = .sl b o n z := AA8 hy
   obtain ⟨lv4, hv4, q41, q42, q43⟩ := p8.ex
   simp only [RT, Q0, Q1, Q2, Q3, Q4, Q5, Q6, Q7, Q8, ldb bxC, fa, Ak2 q1, ldn, hlk, d1, hlenL q2, decide_eq_false (show ¬ ((L1.length : Int) = 1000) by omega)]
   rw [Br1, Aa8 (by rfl)]
   simp only [RT, Q0, Q1, Q2, Q3, Q4, Q5, Q6, Q7, Q8, ldb bxC, fa, Ak2 q1, ldn, hlenL q2, y1]
   simp only [RT, Q0, Q1, Q2, Q3, Q4, Q5, Q6, Q7, Q8, Br2, ldb bxD, fa, Ak2 p1, BR3, p2, Aa4]
   refine ⟨Aa3 (ha := rfl) rfl (ldb bx2) rfl (Aa3 (ha := rfl) rfl (ldb bx2) rfl (Aa3 (ha := rfl) rfl (Ak2 p1').1 rfl Aa4)), ?_⟩
   simp only [RT, Q0, Q1, Q2, Q3, Q4, Q5, Q6, Q7, Q8, BG3 (.inr ⟨c, 0, y.length, 1, rfl⟩), p4, Aa4]
   refine ⟨Aa3 (ha := rfl) rfl (ldb bx3) rfl Aa4, ?_⟩
   simp only [RT, Q0, Q1, Q2, Q3, Q4, Q5, Q6, Q7, Q8, fa, p6, Aa4]
   simp only [RT, Q0, Q1, Q2, Q3, Q4, Q5, Q6, Q7, Q8, Br3, ldb bx4, fa, Ak2 q41, BG3 wfr, <- hb5, <- e5, Aa4]
   refine Aa0 v1 ?_
   obtain ⟨lv6, hv6, q61, q62, q63⟩ := hk6.ex
   simp only [RT, Q0, Q1, Q2, Q3, Q4, Q5, Q6, Q7, Q8, Aa4]
   refine ⟨Aa3 (ha := rfl) rfl (ldb bx6) rfl (Aa3 (ha := rfl) rfl (Ak2 q61).2.2.1 rfl Aa4), ?_⟩
   refine Aa0 z1 ?_
   simp only [RT, Q0, Q1, Q2, Q3, Q4, Q5, Q6, Q7, Q8, Aa4]
   refine ⟨fD7, .inl ⟨rfl, w7, bx7, fl2, ft2, ⟨by rw [List.map_append]; exact z3, fun x hx => ?_, by rw [List.length_append]; show L1.length + 1 <= 1000; omega⟩, ?_, ?_⟩⟩
   . rcases List.mem_append.1 hx with hx | hx
     . exact hk.ent x hx
     . rw [List.mem_singleton.1 hx]; exact d1
   . exact g1.trans p9 (base fD1).len
   . exact g2.trans z4 (base fD6).len
 . intro B hB
   rw [List.length_zipIdx, List.take_length] at hB
   exact hB
 rintro B ⟨wB, bxB, fl1, ft1, hk, g1, g2⟩ hfB
 have eAp : xs.foldl addE L = applyB L b := by rw [hxs]; rfl
 rw [eAp] at hk
 obtain ⟨L', hL'⟩ : ∃ l, l = applyB L b := ⟨_, rfl⟩
 rw [<- hL'] at hk ⊢
 obtain ⟨P, p0, pc⟩ := hk.raw.rg
 obtain ⟨lvB, hvB, k1, k2, k3⟩ := hk.raw.ex
 have hlL := hk.len
 have hlL0 := h.len
 have hcl : (Pk.cat P).length = L'.length := by rw [pc, List.length_map]
 obtain ⟨_, C, c1, f3, rfl⟩ := AC7 wB p0 rfl (by omega)
 have h32 : (rootR (Pk.cat P)).length = 32 := Ad6 p0.l32
 have wC := f3.wf wB
 have hkC := hk.fr0 f3
 obtain ⟨lvC, hvC, hv', D, E, fh', q1, q2, q3, q4, q5, q6, q7⟩ := hkC.raw.addH wC (x := (((Hs.length + 1 : Nat) : Int), (L'.length : Int), rootR (Pk.cat P))) h32 (by omega)
 obtain ⟨lvC', hvC', q1', q2', q3'⟩ := hkC.raw.ex
 have bxC := f3.row0 bxB
 have bxD := q3.row _ _ bxC (Ac3 bxC)
 have bxE := q5.row _ _ bxD (fun q => by cases q; omega)
 have hw1 : IntKind.i64.wrap ((Hs.length : Int) + 1) = ((Hs.length + 1 : Nat) : Int) := by rw [Af3 (by omega)]
 have hw2 : IntKind.i64.wrap ((L'.length : Int) - (L.length : Int)) = (L'.length : Int) - (L.length : Int) := Ac6 (by omega) (by omega)
 have b0 := Ak2 k1
 have b1 := Ak2 (f3.row0 k1)
 have e9 : hvB = hvC := by have := f3.row0 k1; rw [q1] at this; cases this; rfl
 subst e9
 obtain ⟨lvE, hvE, q61, q62, q63⟩ := q6.ex
 simp only [RT, Q0, Q1, Q2, Q3, Q4, Q5, Q6, Q7, Q8, Br4, ldb bxB, fa, b0, hlenH k3, hw1, hlenL k2, Aa4]
 refine Aa0 c1 ?_
 simp only [RT, Q0, Q1, Q2, Q3, Q4, Q5, Q6, Q7, Q8, Aa4]
 have la := ldb bxC
 refine ⟨Aa3 (ha := rfl) rfl la rfl (Aa3 (ha := rfl) rfl la rfl (Aa3 (ha := rfl) rfl b1.2.2.2 rfl (Aa3 (ha := rfl) rfl la rfl (Aa3 (ha := rfl) rfl b1.2.2.2 rfl (Aa3 (ha := rfl) rfl la rfl (Aa3 (ha := rfl) rfl b1.1 rfl Aa4)))))), ?_⟩
 simp only [RT, Q0, Q1, Q2, Q3, Q4, Q5, Q6, Q7, Q8, Bw2 h32, BG2 (x := (((Hs.length + 1 : Nat) : Int), (L'.length : Int), rootR (Pk.cat P))) h32, q2, Aa4]
 refine ⟨Aa3 (ha := rfl) rfl (ldb bxD) rfl Aa4, ?_⟩
 simp only [RT, Q0, Q1, Q2, Q3, Q4, Q5, Q6, Q7, Q8, fa, q4, Aa4]
 simp only [RT, Q0, Q1, Q2, Q3, Q4, Q5, Q6, Q7, Q8, ldb bxE, fa, Ak2 q61, hlenL q62, hw2]
 have fAB : Fr (bkS A bp tp r fl ft fh) A B := (f12.mono fun _ q => q.elim).trans hfB fun z q => by
  rcases q with q | q | q | q | q | q
  . exact .inl (.inl q)
  . exact .inl (.inr (.inl q))
  . exact .inl (.inr (.inr (.inl q)))
  . exact .inl (.inr (.inr (.inr (.inl (AI1 f12 l3 q)))))
  . exact .inl (.inr (.inr (.inr (.inr (.inl (AI1 f12 l4 q))))))
  . right
    cases z with
    | row c => exact Nat.le_trans len12 q
    | fam c => exact Nat.le_trans len12 q
    | map c => exact q.elim
    | loop c => exact q.elim
    | it c => exact q.elim
 have fAC := fAB.then0 f3
 have fAD : Fr (bkS A bp tp r fl ft fh) A D := fAC.trans q3 fun z q => (Ad9 fAC q).imp (fun y => .inr (.inr (.inr (.inr (.inr y))))) id
 have fAE : Fr (bkS A bp tp r fl ft fh) A E := fAD.trans q5 fun z q => .inl (.inl q)
 refine ⟨fAE, fl1, ft1, fh', ⟨?_, hk.ent, hk.len⟩, g1.from len12, g2.from len12, q7.from fAC.len⟩
 rw [pc] at q6
 exact q6
end
end Go.Sv.Try
