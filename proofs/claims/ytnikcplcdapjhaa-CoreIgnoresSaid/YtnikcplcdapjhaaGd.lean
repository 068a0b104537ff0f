/- Cores of agreement: a message from somebody. -/
import Derived.Test.YtnikcplcdapjhaaGc
import Derived.Test.YtnikcplcdapjhaaRows
import Derived.Test.YtnikcplcdapjhaaSvBase
set_option linter.unusedSimpArgs false
set_option linter.unusedVariables false
open Nat renaming reduceLT → Q0, reduceBEq → Q1, reduceEqDiff → Q2, reduceAdd → Q3
open Int renaming reduceEq → Q4, reduceLT → Q5, reduceLE → Q6, reduceGT → Q7, reduceGE → Q8
namespace Go.Sv
open Go
def Co.hear1 (w : Int) (ids : List Bts) (s : Co × List Act) (i : Nat) : Co × List Act :=
 if (ids[i]?).getD z32 = z32 ∨ getV s.1.rd.n s.1.rd.v ((i / 2 : Nat) : Int) ((i % 2 : Nat) : Int) w ≠ z32 then s
 else ({ s.1 with rd := (s.1.rd.Voted ((i / 2 : Nat) : Int) ((i % 2 : Nat) : Int) w ((ids[i]?).getD z32)).1 }, s.2 ++ (s.1.rd.Voted ((i / 2 : Nat) : Int) ((i % 2 : Nat) : Int) w ((ids[i]?).getD z32)).2)
theorem BW7 {P : Program} {kt : TypeId} (hs : shapeT P 50 kt = some [.int .i64]) (ha : aggT P kt = some false) : KeyT P kt encW where
 ok := fun k es h => by
  unfold keyOk
  simp only [hs, ha, encW]
  rw [Bool.and_eq_true, Bool.and_eq_true]
  refine ⟨⟨rfl, Av5 fun e he => ?_⟩, List.all_eq_true.2 fun e he => ?_⟩
  . obtain ⟨a, q⟩ := h e he; rw [q]; rfl
  . obtain ⟨a, q⟩ := h e he; rw [q]; rfl
 eq := fun a b => by
  show (IntKind.i64 == IntKind.i64 && a == b) = _
  by_cases h : a = b <;> simp [h]
def Co.hearI (c : Co) (w : Int) (ids : List Bts) (i : Nat) : Co × List Act := (List.range i).foldl (Co.hear1 w ids) (c, [])
def Co.hearS (c : Co) (w : Int) (ids : List Bts) : Co × List Act := c.hearI w ids (min ids.length 24)
def Co.hearP (c : Co) (x : M) : Co × List Act :=
 ({ (c.learn x.data).1 with rd := ((c.learn x.data).1.rd.Offered x.round x.valid (batchI x.data)).1 }, (c.learn x.data).2 ++ ((c.learn x.data).1.rd.Offered x.round x.valid (batchI x.data)).2)
def Co.hearV (c : Co) (w : Int) (x : M) : Co × List Act := Co.learn { c with gave := c.gave ++ [w] } x.data
def Co.deaf (c : Co) (w : Int) (x : M) : Prop := x.height ≠ c.rd.height ∨ w < 0 ∨ w >= c.rd.n ∨ w = c.rd.me ∨ x.data.length > 4096
instance (c : Co) (w : Int) (x : M) : Decidable (c.deaf w x) := by unfold Co.deaf; infer_instance
def Co.dull (c : Co) (w : Int) (x : M) : Prop := x.round < 0 ∨ x.round >= 12 ∨ proposer c.rd.n c.rd.height x.round ≠ w ∨ (offI c.rd x.round).there = true
instance (c : Co) (w : Int) (x : M) : Decidable (c.dull w x) := by unfold Co.dull; infer_instance
def Co.Hear (c : Co) (w : Int) (x : M) : Co × List M :=
 if c.deaf w x then (c, [])
 else if x.kind = 3 then (if c.dull w x then (c, []) else (c.hearP x).1.act (c.hearP x).2)
 else if x.kind = 4 then (c.hearS w x.ids).1.act (c.hearS w x.ids).2
 else if x.kind = 5 then (if w ∈ c.gave then (c, []) else (c.hearV w x).1.act (c.hearV w x).2)
 else c.act []
end Go.Sv
namespace Go.Sv.Try
open Go Go.Proofs
section
variable {r : Rd}
theorem Rng.Offered (h : Rng r) (R v : Int) (id : Bts) : Rng (r.Offered R v id).1 /\ (r.Offered R v id).2.length <= r.acts.length + 2000 /\ (r.Offered R v id).1.acts = [] := by
 unfold Rd.Offered
 split
 . rename_i q
   have k : Rng { r with offers := set1 r.offers R.toNat ⟨true, v, id⟩ } := { h with offers := Ak0 h.offers ⟨q.2.2.1, by show v <= 1000; have := q.2.1; have := q.2.2.2.1; omega⟩ }
   exact ⟨k.settle, k.setLen, rfl⟩
 . exact ⟨h.settle, h.setLen, rfl⟩
theorem Rng.Voted (h : Rng r) (R K W : Int) (id : Bts) : Rng (r.Voted R K W id).1 /\ (r.Voted R K W id).2.length <= r.acts.length + 2000 /\ (r.Voted R K W id).1.acts = [] := by
 unfold Rd.Voted
 split
 . have k : Rng { r with v := putV r.n r.v R K W id } := { h with }
   exact ⟨k.settle, k.setLen, rfl⟩
 . exact ⟨h.settle, h.setLen, rfl⟩
end
section
variable {X Y : Nat -> Prop} {A B C : AS} {K : CoK} {c c1 c2 : Co} {fk ft fk1 ft1 fk2 ft2 fo fo2 : Option Nat}
theorem BT8 (i : Nat) (hi : i <= 1000000) : evBin Try.prog .quo 3 (.int .i64 (i : Int)) (.int .i64 2) = some (.int .i64 ((i / 2 : Nat) : Int)) := by
 rw [AP3, if_neg (by omega)]
 have : (i : Int).tdiv 2 = ((i / 2 : Nat) : Int) := rfl
 rw [this, Ag2 (by omega) (by omega)]
theorem BT9 (i : Nat) : evBin Try.prog .rem 3 (.int .i64 (i : Int)) (.int .i64 2) = some (.int .i64 ((i % 2 : Nat) : Int)) := by
 rw [AP4, if_neg (by omega)]; rfl
theorem BC0 : KeyT Try.prog 3 encW := BW7 (by kernel_rfl) ag3
theorem Bl3 : mapT Try.prog 72 = some (3, 4) := by kernel_rfl
theorem BN8 : zeroT Try.prog 4 = some (.bool false) := by kernel_rfl
theorem BC1 (g : Nat -> V) (b : Bool) (v : Int) : evField Try.prog 85 (.agg (.bool b :: .int .i64 v :: (List.range 32).map g)) 0 = some (.bool b) := by kernel_rfl
theorem BC2 {o : Ofr} (h : o.id.length = 32) : evField Try.prog 85 (.agg (offC o)) 0 = some (.bool o.there) := by
 obtain ⟨g, hg⟩ := Ac8 (l := bc o.id) (n := 32) (by rw [Aa3, h])
 unfold offC; rw [hg]; exact BC1 g _ _
theorem AA0 (w : Int) : ∀ l : List Int, lookL (l.map fun w => (w, true)) w = if w ∈ l then some true else none
 | [] => rfl
 | a :: l => by
  show (if w = a then some true else lookL (l.map fun w => (w, true)) w) = _
  by_cases q : w = a
  . rw [if_pos q, if_pos (by simp [q])]
  . rw [if_neg q, AA0 w l]; simp [q]
theorem IsCo.gave (hw : WF A) (h : IsCo X A K fk ft c) {w : Int} (hn : ¬ w ∈ c.gave) : ∃ A', evMapUpdate Try.prog 72 (.map K.mg) (.int .i64 w) (.bool true) A = some A' /\ CStep X A K fk ft A' fk ft none { c with gave := c.gave ++ [w] } := by
 obtain ⟨tv, dv, bl, x1, x2, x3, x4, x5, x6⟩ := h.cm.ex
 obtain ⟨A', k1, k2, k3⟩ := h.cm.gv.put (P := Try.prog) BC0 Bl3 (k := w) true (by rw [AA0, if_neg hn])
 refine ⟨A', k1, h.cstep (c1 := { c with gave := c.gave ++ [w] }) hw k2 (fun x q => by subst q; exact .inr rfl) .rfl' rfl (fun Y hle => ⟨⟨tv, dv, bl, k2.row _ _ x1 (fun q => by cases q), x2.fr k2 (fun b q => by cases q), x3.fr k2 (fun q => h.cm.mm (by injection q)), x4, fun p q => ⟨(x5 p q).1.mono hle, (x5 p q).2⟩, x6.mono hle⟩, ?_, h.cm.mm⟩) { h.lim with } (fun f q => Nat.lt_of_lt_of_le (x2.famLt f q) k2.len)⟩
 show MapIs A' K.mg encW V.bool ((c.gave ++ [w]).map fun w => (w, true))
 rw [List.map_append]; exact k3
theorem A07 (c : Co) (w : Int) (ids : List Bts) (i : Nat) : c.hearI w ids (i + 1) = Co.hear1 w ids (c.hearI w ids i) i := by
 unfold Co.hearI; rw [List.range_succ, List.foldl_append]; rfl
set_option maxRecDepth 10000 in
set_option maxHeartbeats 32000000 in
theorem A60 {x : M} {dv iv lv : V} {w : Int} (hw : WF A) (h : IsCo X A K fk ft c) (hx : MsgIn (qHp X A) x dv iv lv) (hil : x.ids.length <= 1000000) (hdl : x.data.length <= 1000000000) :
 ∃ u A', EvF Try.prog HH 10 [.ptr K.cb 0, .int .i64 w, .agg (mc x dv iv lv)] A u A' /\ MRes X A K fk ft A' (c.Hear w x) u := by
 refine Aa4 rfl Try.func10 (by unfold Try.f10; rfl) Try.ntmps10 (by unfold Try.f10; rfl) (by simp) ?_
 obtain ⟨A1, e1, f1, r1, n1⟩ := Aa6 A (mc x dv iv lv)
 obtain ⟨b5, hb5⟩ : ∃ b, b = A.blk.length := ⟨_, rfl⟩
 rw [<- hb5] at r1 n1
 have h1 := h.fr0 f1
 have w1 := f1.wf hw
 obtain ⟨tv, dv0, bl, y1, _⟩ := h1.cm.ex
 have ld := Az5 y1
 have lm := ldM r1 hx.id
 have fm := faM b5
 have hln := fun B => hx.data.len (P := Try.prog) Try.underlying24 B
 have hx1 := hx.mono (Aj9 f1)
 unfold Co.Hear
 simp only [RT, Q0, Q1, Q2, Q3, Q4, Q5, Q6, Q7, Q8, <- hb5, <- e1]
 rw [Bu5, Aa2 (by rfl)]
 by_cases q1 : x.height = c.rd.height
 rotate_left
 . simp only [RT, Q0, Q1, Q2, Q3, Q4, Q5, Q6, Q7, Q8, fm, lm, Ar5 K.cb, ld, decide_eq_true (show ¬ x.height = c.rd.height from q1)]
   rw [if_pos (.inl q1)]
   exact .nil h f1
 by_cases q2 : w < 0
 . simp only [RT, Q0, Q1, Q2, Q3, Q4, Q5, Q6, Q7, Q8, fm, lm, Ar5 K.cb, ld, decide_eq_false (show ¬ ¬ x.height = c.rd.height from fun z => z q1), decide_eq_true q2]
   rw [if_pos (.inr (.inl q2))]
   exact .nil h f1
 by_cases q3 : w >= c.rd.n
 . simp only [RT, Q0, Q1, Q2, Q3, Q4, Q5, Q6, Q7, Q8, fm, lm, Ar5 K.cb, ld, decide_eq_false (show ¬ ¬ x.height = c.rd.height from fun z => z q1), decide_eq_false q2, decide_eq_true q3]
   rw [if_pos (.inr (.inr (.inl q3)))]
   exact .nil h f1
 by_cases q4 : w = c.rd.me
 . simp only [RT, Q0, Q1, Q2, Q3, Q4, Q5, Q6, Q7, Q8, fm, lm, Ar5 K.cb, ld, decide_eq_false (show ¬ ¬ x.height = c.rd.height from fun z => z q1), decide_eq_false q2, decide_eq_false q3, decide_eq_true q4]
   rw [if_pos (.inr (.inr (.inr (.inl q4))))]
   exact .nil h f1
 by_cases q5 : x.data.length > 4096
 . simp only [RT, Q0, Q1, Q2, Q3, Q4, Q5, Q6, Q7, Q8, fm, lm, Ar5 K.cb, ld, decide_eq_false (show ¬ ¬ x.height = c.rd.height from fun z => z q1), decide_eq_false q2, decide_eq_false q3, decide_eq_false q4, hln, decide_eq_true (show (x.data.length : Int) > 4096 by omega)]
   rw [if_pos (.inr (.inr (.inr (.inr q5))))]
   exact .nil h f1
 simp only [RT, Q0, Q1, Q2, Q3, Q4, Q5, Q6, Q7, Q8, fm, lm, Ar5 K.cb, ld, decide_eq_false (show ¬ ¬ x.height = c.rd.height from fun z => z q1), decide_eq_false q2, decide_eq_false q3, decide_eq_false q4, hln, decide_eq_false (show ¬ (x.data.length : Int) > 4096 by omega)]
 rw [if_neg (show ¬ c.deaf w x from fun z => by
  rcases z with z | z | z | z | z
  . exact z q1
  . exact q2 z
  . exact q3 z
  . exact q4 z
  . exact q5 z)]
 by_cases k3 : x.kind = 3
 . rw [if_pos k3]
   have hn : (c.rd.n : Int) <= 7 /\ (0 : Int) <= c.rd.n := by have := h.rd.cnt.ok; unfold okN at this; omega
   simp only [RT, Q0, Q1, Q2, Q3, Q4, Q5, Q6, Q7, Q8, decide_eq_true k3]
   by_cases p1 : x.round < 0
   . simp only [RT, Q0, Q1, Q2, Q3, Q4, Q5, Q6, Q7, Q8, AU8, Aa1, fm, lm, decide_eq_true p1]
     rw [if_pos (.inl p1)]
     exact .nil h f1
   by_cases p2 : x.round >= 12
   . simp only [RT, Q0, Q1, Q2, Q3, Q4, Q5, Q6, Q7, Q8, AU8, Aa1, fm, lm, decide_eq_false p1, decide_eq_true p2]
     rw [if_pos (.inr (.inl p2))]
     exact .nil h f1
   obtain ⟨_, A1', z1, z2, rfl⟩ := Al6 (A := A1) (n := c.rd.n) (h := c.rd.height) (k := x.round) hn.1 hn.2 (by have := h.rng.height; omega) h.rng.height.2 (by omega) (by omega)
   rw [z2] at z1
   simp only [RT, Q0, Q1, Q2, Q3, Q4, Q5, Q6, Q7, Q8, AU8, fm, lm, decide_eq_false p1, decide_eq_false p2, Ar5 K.cb, ld, Aa1]
   refine Aa0 z1 ?_
   by_cases p3 : proposer c.rd.n c.rd.height x.round = w
   rotate_left
   . simp only [RT, Q0, Q1, Q2, Q3, Q4, Q5, Q6, Q7, Q8, decide_eq_true (show ¬ proposer c.rd.n c.rd.height x.round = w from p3), Aa1]
     rw [if_pos (.inr (.inr (.inl p3)))]
     exact .nil h f1
   obtain ⟨_, A2, m1, m2, rfl⟩ := Az6 w1 h1.rd x.round
   have h2 := h1.fr0 m2
   have w2 := m2.wf w1
   have fA2 := f1.then0 m2
   have lm2 := ldM (m2.row0 r1) hx.id
   have ld2 := Az5 (m2.row0 y1)
   simp only [RT, Q0, Q1, Q2, Q3, Q4, Q5, Q6, Q7, Q8, decide_eq_false (show ¬ ¬ proposer c.rd.n c.rd.height x.round = w from fun z => z p3), Aa1, Ar5 K.cb, ld, fm, lm]
   refine Aa0 m1 ?_
   cases p4 : (offI c.rd x.round).there with
   | true =>
    simp only [RT, Q0, Q1, Q2, Q3, Q4, Q5, Q6, Q7, Q8, BC2 (Ax6 h.rd.ok x.round), p4, Aa1]
    rw [if_pos (.inr (.inr (.inr p4)))]
    exact .nil h fA2
   | false =>
    rw [if_neg (show ¬ c.dull w x from fun z => by
     rcases z with z | z | z | z
     . exact p1 z
     . exact p2 z
     . exact z p3
     . rw [p4] at z; cases z)]
    have hx2 := hx1.mono (Aj9 m2)
    obtain ⟨u3, A3, s1, fk3, fo3, s2, s3⟩ := Au2 w2 h2 (An7 X A2) hx2.data (by omega)
    have w3 := s2.wf w2
    have r3 := s2.fr.row _ _ (m2.row0 r1) (TM.box (m2.row0 r1) (by have := h.lt; omega))
    have lm3 := ldM r3 hx.id
    obtain ⟨tv3, dv3, bl3, y3, _⟩ := s2.co.cm.ex
    have ld3 := Az5 y3
    obtain ⟨_, A4, t1, t2, rfl⟩ := AR2 w3 (An7 _ A3) (hx2.data.mono s2.le) (by omega)
    have s4 := s2.then0 t2
    have w4 := s4.wf w2
    have lm4 := ldM (t2.row0 r3) hx.id
    have ld4 := Az5 (t2.row0 y3)
    have hr := s4.co.rng
    obtain ⟨u5, A5, v1, v2⟩ := AL0 w4 s4.co.rd hr (by rw [s4.co.acts]; simp) (R := x.round) (val := x.valid) (Ah3 x.data)
    have hO := hr.Offered x.round x.valid (batchI x.data)
    rw [s4.co.acts] at hO
    obtain ⟨fk5, fo5, o1, o2⟩ := s4.co.give w4 v2 (A03 _ _ _ _) hO.1 hO.2.2
    have hll : (c.learn x.data).2.length <= 2000 := by
     have := (h.rng.Know (batchI x.data)).2.1
     rw [h.acts] at this; exact this
    have hl2 : ((c.learn x.data).1.rd.Offered x.round x.valid (batchI x.data)).2.length <= 2000 := hO.2.1
    obtain ⟨u6, A6, fo6, j1, j2, j3⟩ := s4.more w2 (s3.fr0 t2) o1 o2 (by omega)
    obtain ⟨u7, A7, j4, j5⟩ := j2.act w2 j3 (by rw [List.length_append]; omega)
    simp only [RT, Q0, Q1, Q2, Q3, Q4, Q5, Q6, Q7, Q8, BC2 (Ax6 h.rd.ok x.round), p4, Aa1, Bu6, fm, lm2, Ar5 K.cb, ld2]
    refine Aa0 s1 ?_
    simp only [RT, Q0, Q1, Q2, Q3, Q4, Q5, Q6, Q7, Q8, Aa1]
    refine ⟨Aa5 (ha := rfl) rfl ld3.1 rfl (Aa5 (ha := rfl) rfl lm3.2.2.2.1 rfl (Aa5 (ha := rfl) rfl lm3.2.2.2.2.1 rfl (Aa5 (ha := rfl) rfl lm3.2.2.2.2.2.2.2.1 rfl Aa1))), ?_⟩
    refine Aa0 t1 ?_
    simp only [RT, Q0, Q1, Q2, Q3, Q4, Q5, Q6, Q7, Q8, Aa1]
    refine ⟨Aa5 (ha := rfl) rfl ld4.1 rfl (Aa5 (ha := rfl) rfl lm4.2.2.2.1 rfl (Aa5 (ha := rfl) rfl lm4.2.2.2.2.1 rfl Aa1)), ?_⟩
    refine Aa0 v1 ?_
    simp only [RT, Q0, Q1, Q2, Q3, Q4, Q5, Q6, Q7, Q8, Aa1, j1]
    refine Aa0 j4 ?_
    simp only [RT, Q0, Q1, Q2, Q3, Q4, Q5, Q6, Q7, Q8]
    exact j5.next0 hw fA2
 rw [if_neg k3]
 by_cases k4 : x.kind = 4
 . rw [if_pos k4]
   have hiln := fun B => hx.ids.len (P := Try.prog) Try.underlying25 B
   simp only [RT, Q0, Q1, Q2, Q3, Q4, Q5, Q6, Q7, Q8, decide_eq_false k3, decide_eq_true k4, fm, lm, hiln]
   have hS1 : CStep X A K fk ft A1 fk ft none c := .of0 h f1
   refine Aa8 (fun z e B => ∃ (i : Nat) (u : V) (fk' fo : Option Nat), z = x.ids.length - i /\ i <= x.ids.length /\ i <= 24 /\ e.get 102 = .int .i64 i /\ CStep X A K fk ft B fk' ft fo (c.hearI w x.ids i).1 /\ Lst eAct Hp.emp B u (c.hearI w x.ids i).2 fo /\ (c.hearI w x.ids i).2.length <= 2000 * i /\ e.get 0 = .ptr K.cb 0 /\ e.get 1 = .int .i64 w /\ e.get 7 = u /\ e.get 100 = iv /\ e.get 101 = .int .i64 x.ids.length)
    (fun z e B => Is z (.exit 1) /\ ∃ (u : V) (fk' fo : Option Nat), CStep X A K fk ft B fk' ft fo (c.hearS w x.ids).1 /\ Lst eAct Hp.emp B u (c.hearS w x.ids).2 fo /\ (c.hearS w x.ids).2.length <= 48000 /\ e.get 0 = .ptr K.cb 0 /\ e.get 7 = u)
    ⟨_, 0, .snil, fk, none, rfl, by omega, by omega, rfl, hS1, .nil, by simp [Co.hearI], rfl, rfl, rfl, rfl, rfl⟩ ?_ ?_
   rotate_left
   . rintro z e B hz ⟨rfl, u, fk', fo, hS, hL, hl, h0, h7⟩
     obtain ⟨u7, A7, j4, j5⟩ := hS.act hw hL (by omega)
     simp only [RT, Q0, Q1, Q2, Q3, Q4, Q5, Q6, Q7, Q8, h0, h7]
     refine Aa0 j4 ?_
     simp only [RT, Q0, Q1, Q2, Q3, Q4, Q5, Q6, Q7, Q8]
     exact j5
   rintro z e B ⟨i, u, fk', fo, rfl, hi, hi24, h102, hS, hL, hl, h0, h1', h7, h100, h101⟩
   simp only [RT, Q0, Q1, Q2, Q3, Q4, Q5, Q6, Q7, Q8, h101, h102]
   refine Ab4 (fun g1 => ?_) (fun g1 => ?_)
   rotate_left
   . have : i = x.ids.length := by omega
     subst this
     have e : c.hearS w x.ids = c.hearI w x.ids x.ids.length := by unfold Co.hearS; rw [Nat.min_eq_left (by omega)]
     rw [<- e] at hS hL hl
     have hl2 : (c.hearS w x.ids).2.length <= 48000 := by omega
     simp only [RT, Q0, Q1, Q2, Q3, Q4, Q5, Q6, Q7, Q8]
     refine ⟨rfl, u, fk', fo, ?_⟩
     and_intros <;> first | rfl | assumption
   obtain ⟨id, hid⟩ := Aj4 (l := x.ids) (i := i) (by omega)
   have hgd : (x.ids[i]?).getD z32 = id := by rw [hid]; rfl
   have wB := hS.wf hw
   have hxB := hx.ids.mono hS.le
   obtain ⟨b2, o2, c2, g3, g4, g5⟩ := hxB.at (P := Try.prog) (k := .i64) (An7 _ B) Try.underlying25 AC7 AK5 hid
   obtain ⟨rfl, hidl⟩ := By4.1 g5
   obtain ⟨E, e1, e2, e3⟩ := BL8 (A := B) id hidl
   have hSE := hS.then0 e2
   have wE := e2.wf wB
   have hLE := hL.fr0 e2
   have hwr : IntKind.i64.wrap ((i : Int) + 1) = ((i + 1 : Nat) : Int) := by rw [Af0 (by omega)]
   have em := A07 c w x.ids i
   obtain ⟨s, hs⟩ : ∃ s, s = c.hearI w x.ids i := ⟨_, rfl⟩
   have e24 : i = 24 -> c.hearS w x.ids = s := fun q => by rw [hs]; unfold Co.hearS; rw [Nat.min_eq_right (by omega), q]
   rw [<- hs] at hSE hLE hl em
   clear hS hL
   simp only [RT, Q0, Q1, Q2, Q3, Q4, Q5, Q6, Q7, Q8, h100, h102, g3, g4, Bc1, e1]
   by_cases c24 : i >= 24
   . simp only [RT, Q0, Q1, Q2, Q3, Q4, Q5, Q6, Q7, Q8, decide_eq_true (show (i : Int) >= 24 by omega)]
     have hl2 : s.2.length <= 48000 := by omega
     rw [e24 (by omega)]
     refine ⟨rfl, u, fk', fo, ?_⟩
     and_intros <;> first | rfl | assumption
   have l3 := ldI e3 hidl
   by_cases cz : id = z32
   . simp only [RT, Q0, Q1, Q2, Q3, Q4, Q5, Q6, Q7, Q8, decide_eq_false (show ¬ (i : Int) >= 24 by omega), l3, Am8, eqZ hidl Ab1, decide_eq_true cz, h102, hwr]
     refine ⟨x.ids.length - (i + 1), by omega, i + 1, u, fk', fo, rfl, by omega, by omega, ?_⟩
     have e1 : Co.hear1 w x.ids s i = s := by unfold Co.hear1; rw [if_pos (.inl (by rw [hgd, cz]))]
     rw [em, e1]
     have hl2 : s.2.length <= 2000 * (i + 1) := by omega
     and_intros <;> first | rfl | assumption
   obtain ⟨tvE, dvE, blE, yE, _⟩ := hSE.co.cm.ex
   have ldE := Az5 yE
   obtain ⟨_, F, m1, m2, rfl⟩ := A01 wE hSE.co.rd ((i / 2 : Nat) : Int) ((i % 2 : Nat) : Int) w
   have hSF := hSE.then0 m2
   have hLF := hLE.fr0 m2
   have wF := m2.wf wE
   have hgl : (getV s.1.rd.n s.1.rd.v ((i / 2 : Nat) : Int) ((i % 2 : Nat) : Int) w).length = 32 := Al5 hSE.co.rd.cnt.len _ _ _
   simp only [RT, Q0, Q1, Q2, Q3, Q4, Q5, Q6, Q7, Q8, decide_eq_false (show ¬ (i : Int) >= 24 by omega), l3, Am8, eqZ hidl Ab1, decide_eq_false cz, h0, h1', Ar5 K.cb, ldE, BT8 i (by omega), BT9 i]
   refine Aa0 m1 ?_
   by_cases cv : getV s.1.rd.n s.1.rd.v ((i / 2 : Nat) : Int) ((i % 2 : Nat) : Int) w = z32
   rotate_left
   . simp only [RT, Q0, Q1, Q2, Q3, Q4, Q5, Q6, Q7, Q8, Am8, eqZ hgl Ab1, decide_eq_false cv, h102, hwr]
     refine ⟨x.ids.length - (i + 1), by omega, i + 1, u, fk', fo, rfl, by omega, by omega, ?_⟩
     have e1 : Co.hear1 w x.ids s i = s := by unfold Co.hear1; rw [if_pos (.inr cv)]
     rw [em, e1]
     have hl2 : s.2.length <= 2000 * (i + 1) := by omega
     and_intros <;> first | rfl | assumption
   have e1 : Co.hear1 w x.ids s i = ({ s.1 with rd := (s.1.rd.Voted ((i / 2 : Nat) : Int) ((i % 2 : Nat) : Int) w id).1 }, s.2 ++ (s.1.rd.Voted ((i / 2 : Nat) : Int) ((i % 2 : Nat) : Int) w id).2) := by
    unfold Co.hear1; rw [hgd, if_neg (fun z => z.elim cz (fun z => z cv))]
   have hr := hSF.co.rng
   obtain ⟨u5, G, v1, v2⟩ := AZ0 wF hSF.co.rd hr (by rw [hSF.co.acts]; simp) (R := ((i / 2 : Nat) : Int)) (K := ((i % 2 : Nat) : Int)) (W := w) hidl
   have hO := hr.Voted ((i / 2 : Nat) : Int) ((i % 2 : Nat) : Int) w id
   rw [hSF.co.acts] at hO
   obtain ⟨fk5, fo5, o1, o2⟩ := hSF.co.give wF v2 (Bd9 _ _ _ _ _) hO.1 hO.2.2
   have hO2 : (s.1.rd.Voted ((i / 2 : Nat) : Int) ((i % 2 : Nat) : Int) w id).2.length <= 2000 := hO.2.1
   obtain ⟨u6, J, fo6, j1, j2, j3⟩ := hSF.more hw hLF o1 o2 (by omega)
   have ldF := Az5 (m2.row0 yE)
   have l3F := ldI (m2.row0 e3) hidl
   simp only [RT, Q0, Q1, Q2, Q3, Q4, Q5, Q6, Q7, Q8, Am8, eqZ hgl Ab1, decide_eq_true cv]
   rw [Bi3, Aa2 (by rfl)]
   simp only [RT, Q0, Q1, Q2, Q3, Q4, Q5, Q6, Q7, Q8, h7, h0, h1', Ar5 K.cb, ldF, BT8 i (by omega), BT9 i, l3F]
   refine Aa0 v1 ?_
   simp only [RT, Q0, Q1, Q2, Q3, Q4, Q5, Q6, Q7, Q8, j1, h102, hwr]
   refine ⟨x.ids.length - (i + 1), by omega, i + 1, u6, fk5, fo6, rfl, by omega, by omega, ?_⟩
   rw [em, e1]
   have hl2 : (s.2 ++ (s.1.rd.Voted ((i / 2 : Nat) : Int) ((i % 2 : Nat) : Int) w id).2).length <= 2000 * (i + 1) := by rw [List.length_append]; omega
   and_intros <;> first | rfl | assumption
 rw [if_neg k4]
 by_cases k5 : x.kind = 5
 rotate_left
 . rw [if_neg k5]
   obtain ⟨u7, A7, j4, j5⟩ := (CStep.of0 h f1).act hw (.nil : Lst eAct Hp.emp A1 .snil [] none) (by simp)
   simp only [RT, Q0, Q1, Q2, Q3, Q4, Q5, Q6, Q7, Q8, decide_eq_false k3, decide_eq_false k4, decide_eq_false k5]
   refine Aa0 j4 ?_
   simp only [RT, Q0, Q1, Q2, Q3, Q4, Q5, Q6, Q7, Q8]
   exact j5
 rw [if_pos k5]
 have lk := h1.cm.gv.look (P := Try.prog) BC0 Bl3 BN8 w false
 rw [AA0] at lk
 have lk : evLookup Try.prog 72 (.map K.mg) (.int .i64 w) false A1 = some (.bool (decide (w ∈ c.gave))) := by
  refine Eq.trans lk ?_
  by_cases q : w ∈ c.gave
  . rw [if_pos q, decide_eq_true q]; rfl
  . rw [if_neg q, decide_eq_false q]; rfl
 by_cases k6 : w ∈ c.gave
 . rw [decide_eq_true k6] at lk
   simp only [RT, Q0, Q1, Q2, Q3, Q4, Q5, Q6, Q7, Q8, decide_eq_false k3, decide_eq_false k4, decide_eq_true k5, Ar5 K.cb, ld, lk]
   rw [if_pos k6]
   exact .nil h f1
 rw [decide_eq_false k6] at lk
 obtain ⟨A2, m1, m2⟩ := h1.gave w1 k6
 have w2 := m2.wf w1
 have r2 := m2.fr.row _ _ r1 (TM.box r1 (by have := h.lt; omega))
 have lm2 := ldM r2 hx.id
 have hx2 := hx1.mono m2.le
 obtain ⟨u3, A3, s1, fk3, fo3, s2, s3⟩ := Au2 w2 m2.co (An7 _ A2) hx2.data (by omega)
 have s4 := m2.next w1 s2 (fo := fo3) (fun f q => .inr q)
 have hll : (c.hearV w x).2.length <= 2000 := by
  have := (h.rng.Know (batchI x.data)).2.1
  rw [h.acts] at this; exact this
 obtain ⟨u7, A7, j4, j5⟩ := s4.act w1 s3 (Nat.le_trans hll (by omega))
 simp only [RT, Q0, Q1, Q2, Q3, Q4, Q5, Q6, Q7, Q8, decide_eq_false k3, decide_eq_false k4, decide_eq_true k5, Ar5 K.cb, ld, lk, m1, fm, lm2]
 refine Aa0 s1 ?_
 simp only [RT, Q0, Q1, Q2, Q3, Q4, Q5, Q6, Q7, Q8]
 refine Aa0 j4 ?_
 simp only [RT, Q0, Q1, Q2, Q3, Q4, Q5, Q6, Q7, Q8]
 rw [if_neg k6]
 exact j5.next0 hw f1
end
end Go.Sv.Try
namespace Go.Sv.Try
open Go
end Go.Sv.Try
namespace Go.Sv
open Go
theorem BC3 {P : Program} {t e : TypeId} {b o n f base : Nat} {cs : List V} {A : AS} (hu : P.underlying t = some (.slice e)) (he : P.underlying e = some (.int .u8)) (hb : A.blk[b]? = some ⟨cs, .arr f base⟩) : cnv P t t (some (.sl b o (n + 1) 1)) A = some (.val (.sl b o (n + 1) 1)) := by
 unfold cnv
 rw [if_pos rfl]
 simp only [Option.bind_some, evSame, if_true, hu, he, hb, Option.map_some]
def Co.learnI (c : Co) (b I : Bts) : Co × List Act := ({ c with bat := (match lookL c.bat I with | some _ => c.bat | none => c.bat ++ [(I, b)]), rd := (c.rd.Know I).1 }, (c.rd.Know I).2)
def Co.beginI (c : Co) (b I : Bts) : Co × List M := Co.act { (c.learnI b I).1 with rd := ((c.learnI b I).1.rd.Begin I).1 } ((c.learnI b I).2 ++ ((c.learnI b I).1.rd.Begin I).2)
theorem Bo1 {c : Co} {b I : Bts} (h : batchI b = I) (hb : b.length <= 4096) : c.Begin b = c.beginI b I := by
 subst h; unfold Co.Begin; rw [if_neg (by omega)]; rfl
def xId : Bts := [162, 88, 130, 22, 164, 213, 93, 210, 110, 109, 36, 145, 240, 168, 251, 4, 205, 91, 117, 82, 55, 122, 173, 133, 170, 210, 217, 77, 16, 43, 208, 0]
theorem BW8 : batchI [120] = xId := by decide +kernel
def agX : Co × List M := Co.beginI (co0 1 0 4) [120] xId
theorem BC4 : (co0 1 0 4).Begin [120] = agX := Bo1 BW8 (by decide)
theorem BJ8 : agX.1.over = true /\ agX.1.done = [120] := by decide +kernel
theorem BN9 : agX.2.map (fun m => (m.kind, m.ids.length)) = [(3, 0), (4, 2)] := by decide +kernel
theorem BO0 : ((co0 4 1 2).Join).1.over = false := by decide +kernel
end Go.Sv
namespace Go.Sv.Try
open Go Go.Proofs
section
variable {X Y : Nat -> Prop} {A B C : AS} {K : CoK} {c c1 c2 : Co} {fk ft fk1 ft1 fk2 ft2 fo fo2 : Option Nat}
theorem BC5 (b : Nat) : evEq Try.prog 30 (.ptr b 0) .pnil = some false := by kernel_rfl
theorem BC6 {m : Hp} {v : V} {l : List M} (h : Lst eMsg m A v l fo) (hm : m.on A) {i : Nat} {x : M} (hx : l[i]? = some x) :
 ∃ b o dv iv lv, evIndexAddr Try.prog 34 v (.int .i64 (i : Int)) = some (.ptr b o) /\ evLoad Try.prog 28 (.ptr b o) A = some (.agg (mc x dv iv lv)) /\ MsgIn m x dv iv lv := by
 obtain ⟨b, o, w, g1, g2, g3⟩ := h.at (P := Try.prog) (k := .i64) hm Try.underlying34 Bx4 BQ9 hx
 unfold Enc.W at g3
 rw [if_pos (by rfl)] at g3
 obtain ⟨cs, rfl, dv, iv, lv, rfl, g4⟩ := g3
 exact ⟨b, o, dv, iv, lv, g1, g2, g4⟩
theorem Bl4 {b o : Nat} {x : M} {dv iv lv : V} (hx : x.id.length = 32) (h : evLoad Try.prog 28 (.ptr b o) A = some (.agg (mc x dv iv lv))) :
 evFieldAddr Try.prog 28 (.ptr b o) 0 = some (.ptr b o) /\ evFieldAddr Try.prog 28 (.ptr b o) 8 = some (.ptr b (o + 39)) /\ evLoad Try.prog 3 (.ptr b o) A = some (.int .i64 x.kind) /\ evLoad Try.prog 25 (.ptr b (o + 39)) A = some iv := by
 rw [Ao9 BQ9 Bx4] at h
 simp only [Option.map_eq_some_iff, V.agg.injEq] at h
 obtain ⟨cs, h, rfl⟩ := h
 unfold AS.range at h
 cases hk : A.blk[b]? with
 | none => rw [hk] at h; cases h
 | some k =>
  rw [hk] at h
  simp only [] at h
  split at h
  rotate_left
  . cases h
  injection h with h
  have e : ∀ j, j < 41 -> k.cells[o + j]? = (mc x dv iv lv)[j]? := fun j hj => by
   rw [<- h, List.getElem?_take_of_lt hj, List.getElem?_drop]
  refine ⟨by unfold evFieldAddr; kernel_rfl, by kernel_rfl, ?_, ?_⟩
  . rw [Al2 ag3, AC1 hk, <- Nat.add_zero o, e 0 (by omega)]; rfl
  . rw [Al2 BQ8, AC1 hk, e 39 (by omega)]; exact (BA5 hx).2.1
theorem NewC.new (hw : WF A) (hN : NewC A K) (hf : Fr S0 A B) (h1 : ∀ f, fk = some f -> A.blk.length <= f) (h2 : ∀ f, ft = some f -> A.blk.length <= f) {x : Loc} (q : LCo K fk ft B x) : x.newTo A := TM.new hw hf (fun b q => by
 rcases q with rfl | rfl
 . exact hN.cb
 . exact hN.nr.1) (fun f q => by
 rcases q with (⟨j, hj, rfl⟩ | q) | q
 . exact hN.nr.2 j hj
 . exact h1 f q
 . exact h2 f q) (fun r q => by
 rcases q with rfl | rfl
 . exact hN.mb
 . exact hN.mg) q
set_option maxRecDepth 10000 in
set_option maxHeartbeats 16000000 in
theorem AM1 (hw : WF A) : ∃ w A', EvF Try.prog HH 6 [] A w A' /\ Fr S0 A A' /\ w = .bool true := by
 refine Aa4 rfl Try.func6 (by unfold Try.f6; rfl) Try.ntmps6 (by unfold Try.f6; rfl) (by simp) ?_
 obtain ⟨w, A1, k1, f1, K, rfl, hN, hC⟩ := AW3 hw (n := 1) (me := 0) (h := 4) (.inl rfl) (by omega) (by omega) (by omega)
 have w1 := f1.wf hw
 have hC := hC (fun _ => False) (fun _ q => q.elim)
 obtain ⟨A2, e2⟩ : ∃ B, B = A1.push ⟨bc [120], .arr A1.blk.length 0⟩ := ⟨_, rfl⟩
 have f2 : Fr S0 A1 A2 := by rw [e2]; exact Fr.pushArr A1 _
 have r2 : A2.blk[A1.blk.length]? = some ⟨bc [120], .arr A1.blk.length 0⟩ := by rw [e2]; exact Ab8 A1 _
 have w2 := f2.wf w1
 have hv : Slc eU8 (qHp (fun f => (fun _ => False) f ∨ XCo K none none f) A2) (.sl A1.blk.length 0 1 1) [120] := Bm8 (An6 r2 fun q => by have := hC.xlt _ q; omega) rfl
 have bs : bsl Try.prog 24 1 (some [(0, .int .u8 120)]) = some (.newSl (bc [120]) 1 1) := by kernel_rfl
 have cv := BC3 (P := Try.prog) (n := 0) (o := 0) Try.underlying24 Try.underlying5 r2
 obtain ⟨u3, A3, k3, fk3, ft3, fo3, s3, l3⟩ := AM0 w2 (hC.fr0 f2) hv (by decide)
 rw [BC4] at s3 l3
 have w3 := s3.wf w2
 have f12 : Fr S0 A A3 := (f1.then0 f2).trans s3.fr fun x q => .inr (hN.new hw (f1.then0 f2) (fun f q => by cases q) (fun f q => by cases q) q)
 obtain ⟨_, A4, k4, f4, v, rfl, v2⟩ := Az9 w3 s3.co
 rw [BJ8.1, BJ8.2] at v2
 have l4 := CStep.lst0 l3 f4
 have hlen : agX.2.length = 2 := by have := congrArg List.length BN9; rw [List.length_map] at this; exact this
 obtain ⟨m0, g0⟩ := Aj4 (l := agX.2) (i := 0) (by omega)
 obtain ⟨m1, g1⟩ := Aj4 (l := agX.2) (i := 1) (by omega)
 have q0 : m0.kind = 3 := by
  have := congrArg (fun l => l[0]?) BN9
  rw [List.getElem?_map, g0] at this
  simpa using (congrArg (fun o => o.map Prod.fst) this)
 have q1 : m1.kind = 4 /\ m1.ids.length = 2 := by
  have := congrArg (fun l => l[1]?) BN9
  rw [List.getElem?_map, g1] at this
  have := Option.some.inj this
  exact ⟨congrArg Prod.fst this, congrArg Prod.snd this⟩
 obtain ⟨b5, o5, dv5, iv5, lv5, z1, z2, z3⟩ := BC6 l4 (An7 _ A4) g0
 obtain ⟨b6, o6, dv6, iv6, lv6, y1, y2, y3⟩ := BC6 l4 (An7 _ A4) g1
 have z4 := Bl4 z3.id z2
 have y4 := Bl4 y3.id y2
 rw [q0] at z4
 rw [q1.1] at y4
 have hlm := fun B => l3.len (P := Try.prog) Try.underlying34 B
 rw [hlen] at hlm
 have hlm : ∀ B, evLen Try.prog 34 u3 B = some (.int .i64 2) := hlm
 have z1 : evIndexAddr Try.prog 34 u3 (.int .i64 0) = some (.ptr b5 o5) := z1
 have y1 : evIndexAddr Try.prog 34 u3 (.int .i64 1) = some (.ptr b6 o6) := y1
 have hli := fun B => y3.ids.len (P := Try.prog) Try.underlying25 B
 rw [q1.2] at hli
 have hli : ∀ B, evLen Try.prog 25 iv6 B = some (.int .i64 2) := hli
 have tx := At2 (P := Try.prog) (s := 24) (d := 9) (by decide) v2 (An7 _ A4) Try.underlying24 Try.underlying5 Try.underlying9
 simp only [RT, Q0, Q1, Q2, Q3, Q4, Q5, Q6, Q7, Q8]
 refine Aa0 k1 ?_
 simp only [RT, Q0, Q1, Q2, Q3, Q4, Q5, Q6, Q7, Q8, BC5, bs, <- e2, cv]
 refine Aa0 k3 ?_
 simp only [RT, Q0, Q1, Q2, Q3, Q4, Q5, Q6, Q7, Q8, BJ8.1]
 refine Aa0 k4 ?_
 simp only [RT, Q0, Q1, Q2, Q3, Q4, Q5, Q6, Q7, Q8, BJ8.1, tx, decide_eq_true (show (if (true = true) then [120] else ([] : Bts)) = [120] from rfl), hlm, z1, z4, y1, y4, hli]
 exact f12.then0 f4
end
end Go.Sv.Try
namespace Go.Sv
open Go
def apt (w : Int) (x : M) : Prop := 0 <= w /\ w < 4 /\ w ≠ 1 /\ x.height = 2 /\ 3 <= x.kind /\ x.kind <= 5
theorem Bo2 (c : Co) : c.act [] = (c, []) := by
 unfold Co.act Co.acts; simp
theorem Bo3 {c : Co} (hn : c.rd.n = 4) (hm : c.rd.me = 1) (hh : c.rd.height = 2) {w : Int} {x : M} (h : ¬ apt w x) : c.Hear w x = (c, []) := by
 unfold Co.Hear
 split
 . rfl
 rename_i q
 unfold Co.deaf at q
 rw [hn, hm, hh] at q
 unfold apt at h
 rw [if_neg (by omega), if_neg (by omega), if_neg (by omega)]
 exact Bo2 c
theorem BC7 (c : Co) (l : List Act) : (c.act l).1.rd = c.rd := (Bo0 l (c, [], false)).1
theorem BC8 : ((co0 4 1 2).Join).1.rd.n = 4 /\ ((co0 4 1 2).Join).1.rd.me = 1 /\ ((co0 4 1 2).Join).1.rd.height = 2 := by
 have e : ((co0 4 1 2).Join).1.rd = ((rd0 4 1 2).Begin z32).1 := BC7 _ _
 rw [e]
 have k := AH5 (rd0 4 1 2) z32
 exact ⟨k.n, k.me, k.height⟩
end Go.Sv
namespace Go.Sv.Try
open Go Go.Proofs
section
variable {X Y : Nat -> Prop} {A B C : AS} {K : CoK} {c c1 c2 : Co} {fk ft fk1 ft1 fk2 ft2 fo fo2 : Option Nat}
set_option maxRecDepth 10000 in
set_option maxHeartbeats 16000000 in
theorem coreIgnores_spec {x : M} {dv iv lv : V} {w : Int} (hw : WF A) (hx : MsgIn (roHp A) x dv iv lv) : ∃ u A', EvF Try.prog HH 3 [.agg (mc x dv iv lv), .int .i64 w] A u A' /\ u = .bool true := by
 refine Aa4 rfl Try.func3 (by unfold Try.f3; rfl) Try.ntmps3 (by unfold Try.f3; rfl) (by simp) ?_
 obtain ⟨A1, e1, f1, r1, n1⟩ := Aa6 A (mc x dv iv lv)
 obtain ⟨b2, hb2⟩ : ∃ b, b = A.blk.length := ⟨_, rfl⟩
 rw [<- hb2] at r1 n1
 have w1 := f1.wf hw
 obtain ⟨_, A2, k2, f2, rfl⟩ := AM1 w1
 have w2 := f2.wf w1
 have r2 := f2.row0 r1
 have lm := ldM r2 hx.id
 have fm := faM b2
 have hln := fun B => hx.data.len (P := Try.prog) Try.underlying24 B
 have hil := fun B => hx.ids.len (P := Try.prog) Try.underlying25 B
 simp only [RT, Q0, Q1, Q2, Q3, Q4, Q5, Q6, Q7, Q8, <- hb2, <- e1]
 refine Aa0 k2 ?_
 by_cases c1 : x.data.length > 1000
 . simp only [RT, Q0, Q1, Q2, Q3, Q4, Q5, Q6, Q7, Q8, An4, fm, lm, hln, decide_eq_true (show (x.data.length : Int) > 1000 by omega)]
 by_cases c2 : x.ids.length > 64
 . simp only [RT, Q0, Q1, Q2, Q3, Q4, Q5, Q6, Q7, Q8, An4, fm, lm, hln, decide_eq_false (show ¬ (x.data.length : Int) > 1000 by omega), hil, decide_eq_true (show (x.ids.length : Int) > 64 by omega)]
 simp only [RT, Q0, Q1, Q2, Q3, Q4, Q5, Q6, Q7, Q8, An4, fm, lm, hln, decide_eq_false (show ¬ (x.data.length : Int) > 1000 by omega), hil, decide_eq_false (show ¬ (x.ids.length : Int) > 64 by omega)]
 obtain ⟨_, A3, k3, f3, K, rfl, hN, hC⟩ := AW3 w2 (n := 4) (me := 1) (h := 2) (.inr (.inl rfl)) (by omega) (by omega) (by omega)
 have w3 := f3.wf w2
 have hC := hC (fun _ => False) (fun _ q => q.elim)
 refine Aa0 k3 ?_
 obtain ⟨u4, A4, k4, fk4, ft4, fo4, s4, l4⟩ := A58 w3 hC
 have w4 := s4.wf w3
 have g24 : Fr S0 A2 A4 := f3.trans s4.fr fun x q => .inr (hN.new w2 f3 (fun f q => by cases q) (fun f q => by cases q) q)
 simp only [RT, Q0, Q1, Q2, Q3, Q4, Q5, Q6, Q7, Q8, BC5]
 refine Aa0 k4 ?_
 obtain ⟨c, hc⟩ : ∃ c, c = ((co0 4 1 2).Join).1 := ⟨_, rfl⟩
 have hj := BC8
 have hov := BO0
 rw [<- hc] at s4 hj hov
 clear l4
 have hCo := s4.co
 obtain ⟨tv4, dv4, bl4, x4, _⟩ := hCo.cm.ex
 obtain ⟨_, A5, k5, f5, iv5, fo5, rfl, l5, n5⟩ := Au1 w4 hCo.rd x4
 have h5 := hCo.fr0 f5
 have w5 := f5.wf w4
 simp only [RT, Q0, Q1, Q2, Q3, Q4, Q5, Q6, Q7, Q8]
 refine Aa0 k5 ?_
 have hin5 : MsgIn (arrHp A5) (stMsg c.rd) .snil iv5 .snil := ⟨rfl, .inl ⟨rfl, rfl⟩, l5.slcArr (fun b cs q => by cases q), .inl ⟨rfl, rfl⟩⟩
 obtain ⟨A6, m6, f6, r6⟩ := AH2 hin5
 have m6 : evStore Try.prog 28 (.ptr A5.blk.length 0) (.agg (mc (msgS c.rd.me c.rd.height (stIds c.rd)) .snil iv5 .snil)) (A5.push ⟨mcZ, .var⟩) = some A6 := m6
 have h6 := h5.fr0 f6
 have w6 := f6.wf w5
 have g26 := (g24.then0 f5).then0 f6
 have lm6 := ldM (g26.row0 r2) hx.id
 have hle : (roHp A).le (qHp (nz (fun f => (fun _ => False) f ∨ XCo K none none f) fk4 ft4 fo4) A6) := Hp.le_trans (Bb3 _ A) (Aj9 ((f1.then0 f2).then0 g26))
 obtain ⟨u7, A7, k7, fk7, ft7, fo7, s7, l7⟩ := A60 w6 h6 (hx.mono hle) (by omega) (by omega) (w := w)
 have w7 := s7.wf w6
 have hb6 : A5.blk.length < A6.blk.length := by have := Ab7 r6; omega
 simp only [RT, Q0, Q1, Q2, Q3, Q4, Q5, Q6, Q7, Q8, zcM, m6, lm6]
 refine Aa0 k7 ?_
 have hlc : ∀ {B : AS}, Fr S0 A2 B -> ∀ x, LCo K fk4 ft4 B x -> x.newTo A2 := fun hf x q => hN.new w2 hf (fun f q => by
  rcases s4.g1.or q with z | z
  . cases z
  . have := f3.len; omega) (fun f q => by
  rcases s4.g2.or q with z | z
  . cases z
  . have := f3.len; omega) q
 have g27 : Fr S0 A2 A7 := g26.trans s7.fr fun x q => .inr (hlc g26 x q)
 obtain ⟨c', hc'⟩ : ∃ c', c' = c.Hear w x := ⟨_, rfl⟩
 rw [<- hc'] at s7 l7
 obtain ⟨tv7, dv7, bl7, x7, _⟩ := s7.co.cm.ex
 obtain ⟨_, A8, k8, f8, iv8, fo8, rfl, l8, n8⟩ := Au1 w7 s7.co.rd x7
 have w8 := f8.wf w7
 simp only [RT, Q0, Q1, Q2, Q3, Q4, Q5, Q6, Q7, Q8]
 refine Aa0 k8 ?_
 have hin8 : MsgIn (arrHp A8) (stMsg c'.1.rd) .snil iv8 .snil := ⟨rfl, .inl ⟨rfl, rfl⟩, l8.slcArr (fun b cs q => by cases q), .inl ⟨rfl, rfl⟩⟩
 obtain ⟨A9, m9, f9, r9⟩ := AH2 hin8
 have m9 : evStore Try.prog 28 (.ptr A8.blk.length 0) (.agg (mc (msgS c'.1.rd.me c'.1.rd.height (stIds c'.1.rd)) .snil iv8 .snil)) (A8.push ⟨mcZ, .var⟩) = some A9 := m9
 have g29 := (g27.then0 f8).then0 f9
 have lm9 := ldM (g29.row0 r2) hx.id
 have w9 := f9.wf w8
 have h9 := (s7.co.fr0 f8).fr0 f9
 by_cases ap : apt w x
 . obtain ⟨a1, a2, a3, a4, a5, a6⟩ := id ap
   simp only [RT, Q0, Q1, Q2, Q3, Q4, Q5, Q6, Q7, Q8, zcM, m9, fm, lm9, decide_eq_true (show w >= 0 from a1), decide_eq_true a2, decide_eq_true a3, decide_eq_true a4, decide_eq_true (show x.kind >= 3 from a5), decide_eq_true a6]
 have hig := Bo3 hj.1 hj.2.1 hj.2.2 ap
 rw [hig] at hc'
 subst hc'
 obtain ⟨_, A10, k10, f10, v10, rfl, v10'⟩ := Az9 w9 h9
 have l10 := ((CStep.lst0 l7 f8).fr0 f9).fr0 f10
 have hl10 := fun B => l10.len (P := Try.prog) Try.underlying34 B
 have hl10 : ∀ B, evLen Try.prog 34 u7 B = some (.int .i64 0) := hl10
 have r6' := f10.row0 (f9.row0 (f8.row0 (s7.fr.row _ _ r6 (TM.box r6 (by have := h5.lt; omega)))))
 have r9' := f10.row0 r9
 have hrid : (stMsg c.rd).id.length = 32 := rfl
 have l6 := ldM r6' hrid
 have l9 := ldM r9' hrid
 have l5' := ((l5.fr0 f6).fr s7.fr (TM.off fun f q w => by
  have := hCo.xlt f (hCo.sub f w); have := n5 f q; omega))
 have q5 : Slc eId (arrHp A10) iv5 (stIds c.rd) := (((l5'.fr0 f8).fr0 f9).fr0 f10).slcArr (fun b cs q => by cases q)
 have q8 : Slc eId (arrHp A10) iv8 (stIds c.rd) := ((l8.fr0 f9).fr0 f10).slcArr (fun b cs q => by cases q)
 have hst : (stIds c.rd).length <= 24 := by unfold stIds; rw [List.length_take]; have := AH3 (stAll c.rd) 24; omega
 obtain ⟨_, A11, k11, f11, b11, rfl, hb11⟩ := A53 (AX9 A10) (x := stMsg c.rd) (y := stMsg c.rd) (dv := .snil) (iv := iv5) (lv := .snil) (dv' := .snil) (iv' := iv8) (lv' := .snil) ⟨rfl, .inl ⟨rfl, rfl⟩, q5, .inl ⟨rfl, rfl⟩⟩ ⟨rfl, .inl ⟨rfl, rfl⟩, q8, .inl ⟨rfl, rfl⟩⟩ (by show (stIds c.rd).length <= _; omega) (by show ([] : List Bts).length <= _; simp)
 have hbt : b11 = true := hb11.2 rfl
 have nap : ¬ (0 <= w /\ w < 4 /\ w ≠ 1 /\ x.height = 2 /\ 3 <= x.kind /\ x.kind <= 5) := ap
 have eqb : ∀ b : Bool, evEq Try.prog 4 (.bool b) (.bool b) = some true := fun b => by rw [Bs1 Try.underlying4]; simp
 have kinds : ¬ w >= 0 ∨ w >= 0 /\ (¬ w < 4 ∨ w < 4 /\ (¬ (¬ w = 1) ∨ (¬ w = 1) /\ (¬ x.height = 2 ∨ x.height = 2 /\ (¬ x.kind >= 3 ∨ x.kind >= 3 /\ ¬ x.kind <= 5)))) := by omega
 rcases kinds with a1 | ⟨a1, a2 | ⟨a2, a3 | ⟨a3, a4 | ⟨a4, a5 | ⟨a5, a6⟩⟩⟩⟩⟩
 simp only [RT, Q0, Q1, Q2, Q3, Q4, Q5, Q6, Q7, Q8, zcM, m9, fm, lm9, decide_eq_false a1]
 rotate_left
 simp only [RT, Q0, Q1, Q2, Q3, Q4, Q5, Q6, Q7, Q8, zcM, m9, fm, lm9, decide_eq_true a1, decide_eq_false a2]
 rotate_left
 simp only [RT, Q0, Q1, Q2, Q3, Q4, Q5, Q6, Q7, Q8, zcM, m9, fm, lm9, decide_eq_true a1, decide_eq_true a2, decide_eq_false a3]
 rotate_left
 simp only [RT, Q0, Q1, Q2, Q3, Q4, Q5, Q6, Q7, Q8, zcM, m9, fm, lm9, decide_eq_true a1, decide_eq_true a2, decide_eq_true a3, decide_eq_false a4]
 rotate_left
 simp only [RT, Q0, Q1, Q2, Q3, Q4, Q5, Q6, Q7, Q8, zcM, m9, fm, lm9, decide_eq_true a1, decide_eq_true a2, decide_eq_true a3, decide_eq_true a4, decide_eq_false a5]
 rotate_left
 simp only [RT, Q0, Q1, Q2, Q3, Q4, Q5, Q6, Q7, Q8, zcM, m9, fm, lm9, decide_eq_true a1, decide_eq_true a2, decide_eq_true a3, decide_eq_true a4, decide_eq_true a5, decide_eq_false a6]
 rotate_left
 all_goals
  refine Aa0 k10 ?_
  simp only [RT, Q0, Q1, Q2, Q3, Q4, Q5, Q6, Q7, Q8, hl10, eqb, l6, l9, hov]
  refine Aa0 k11 ?_
  simp only [RT, Q0, Q1, Q2, Q3, Q4, Q5, Q6, Q7, Q8, hbt, hov, An4]
end
end Go.Sv.Try
