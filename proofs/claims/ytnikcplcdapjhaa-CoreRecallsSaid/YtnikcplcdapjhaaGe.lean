/- Cores of agreement: what the law of recalling asks. -/
import Derived.Test.YtnikcplcdapjhaaGd
set_option linter.unusedSimpArgs false
set_option linter.unusedVariables false
open Nat renaming reduceLT → Q0, reduceBEq → Q1, reduceEqDiff → Q2, reduceAdd → Q3
open Int renaming reduceEq → Q4, reduceLT → Q5, reduceLE → Q6, reduceGT → Q7, reduceGE → Q8
namespace Go.Sv
open Go
abbrev InC := Int × Int × M
def inCC (x : InC) (dv iv lv : V) : List V := .int .i64 x.1 :: .int .i64 x.2.1 :: mc x.2.2 dv iv lv
def LightOk (l : List InC) : Prop := l.length <= 60 /\ ∀ x ∈ l, x.2.2.data.length <= 5000 /\ x.2.2.ids.length <= 70
def vtI (ids : List Bts) : Nat -> Bts := fun x => (ids[x]?).getD z32
theorem AN5 {x : InC} {dv iv lv : V} (h : x.2.2.id.length = 32) : (inCC x dv iv lv).length = 43 := by simp [inCC, Ap7 h]
end Go.Sv
namespace Go.Sv.Try
open Go Go.Proofs
def eInC : Enc InC := ⟨43, true, fun m cs x => ∃ dv iv lv, cs = inCC x dv iv lv /\ MsgIn m x.2.2 dv iv lv, fun ⟨_, _, _, h, q⟩ => by rw [h, AN5 q.id], fun h => by simp at h, fun ⟨_, _, _, h, q⟩ => by rw [h]; simp only [inCC, List.all_cons, AR3 q, AX7, Bool.and_self], fun hm ⟨a, b, c, h, q⟩ => ⟨a, b, c, h, q.mono hm⟩⟩
theorem Bg8 {m : Hp} {w : V} {x : InC} (h : eInC.W m w x) : ∃ dv iv lv, w = .agg (inCC x dv iv lv) /\ MsgIn m x.2.2 dv iv lv := by
 unfold Enc.W at h
 rw [if_pos (by rfl)] at h
 obtain ⟨cs, rfl, dv, iv, lv, rfl, g⟩ := h
 exact ⟨dv, iv, lv, rfl, g⟩
section
variable {X Y : Nat -> Prop} {A B C : AS} {K : CoK} {c c1 c2 : Co} {fk ft fk1 ft1 fk2 ft2 fo fo2 : Option Nat} {S : Loc -> Prop} {m : Hp}
theorem Br4 {x : InC} {dv iv lv : V} (q : MsgIn m x.2.2 dv iv lv) : (inCC x dv iv lv).all V.one = true := by simp only [inCC, List.all_cons, AR3 q, AX7, Bool.and_self]
def mIn0 : M := ⟨0, 0, 0, 0, 0, 0, z32, [], [], []⟩
theorem Br5 : (zeroT Try.prog 63).bind V.cells = some (inCC (0, 0, mIn0) .snil .snil .snil) := Cf7
theorem AZ2 {x : InC} {dv iv lv : V} (h : MsgIn m x.2.2 dv iv lv) : ∃ A', evStore Try.prog 63 (.ptr A.blk.length 0) (.agg (inCC x dv iv lv)) (A.push ⟨inCC (0, 0, mIn0) .snil .snil .snil, .var⟩) = some A' /\ Fr S0 A A' /\ A'.blk[A.blk.length]? = some ⟨inCC x dv iv lv, .var⟩ := by
 obtain ⟨A2, s1, s2, s3, s4⟩ := Ak5 (P := Try.prog) A (z := inCC (0, 0, mIn0) .snil .snil .snil) (t := 63) (x := .agg (inCC x dv iv lv)) (cs := inCC x dv iv lv) rfl (by rw [AN5 h.id]; exact B05) (by rw [AN5 h.id]; rfl) (Br4 h)
 exact ⟨A2, s1, s2, s3⟩
theorem Bg9 (b : Nat) : evFieldAddr Try.prog 63 (.ptr b 0) 0 = some (.ptr b 0) /\ evFieldAddr Try.prog 63 (.ptr b 0) 1 = some (.ptr b 1) /\ evFieldAddr Try.prog 63 (.ptr b 0) 2 = some (.ptr b 2) /\ evFieldAddr Try.prog 28 (.ptr b 2) 7 = some (.ptr b 40) /\ evFieldAddr Try.prog 28 (.ptr b 2) 8 = some (.ptr b 41) := ⟨by kernel_rfl, by kernel_rfl, by kernel_rfl, by kernel_rfl, by kernel_rfl⟩
theorem Bh0 {b : Nat} {k : BK} {x : InC} {dv iv lv : V} (hb : A.blk[b]? = some ⟨inCC x dv iv lv, k⟩) (h : x.2.2.id.length = 32) :
 evLoad Try.prog 3 (.ptr b 0) A = some (.int .i64 x.1) /\ evLoad Try.prog 3 (.ptr b 1) A = some (.int .i64 x.2.1) /\ evLoad Try.prog 28 (.ptr b 2) A = some (.agg (mc x.2.2 dv iv lv)) /\ evLoad Try.prog 24 (.ptr b 40) A = some dv /\ evLoad Try.prog 25 (.ptr b 41) A = some iv := by
 obtain ⟨e1, e2, e3⟩ := BB1 (dv := dv) (iv := iv) (lv := lv) h
 refine ⟨?_, ?_, At.load hb (o := 2) ⟨[.int .i64 x.1, .int .i64 x.2.1], [], by simp [inCC], rfl⟩ BZ5 By1 (Ap7 h), ?_, ?_⟩
 . rw [Ad9 ag3, Ak4 hb]; rfl
 . rw [Ad9 ag3, Ak4 hb]; rfl
 . rw [Ad9 BN4, Ak4 hb]; exact e1
 . rw [Ad9 B04, Ak4 hb]; exact e2
theorem CStep.msgs {x : Co × List M} {w w2 : V} {l : List M} (hw : WF A) (h : CStep X A K fk ft B fk1 ft1 fo c1) (hL : Lst eMsg (qHp (nz X fk1 ft1 fo) B) B w l fo) (k : MRes (nz X fk1 ft1 fo) B K fk1 ft1 C x w2) (hl : l.length + x.2.length <= 100000000) :
 ∃ v' D fk2 ft2 fo', evAppend Try.prog 34 34 w w2 C = some (v', D) /\ CStep X A K fk ft D fk2 ft2 fo' x.1 /\ Lst eMsg (qHp (nz X fk2 ft2 fo') D) D v' (l ++ x.2) fo' := by
 obtain ⟨fk2, ft2, fo2, k1, k2⟩ := k
 have hC := h.next hw k1 (fo := fo) (fun f q => .inl q)
 have an : (qHp (nz (nz X fk1 ft1 fo) fk2 ft2 fo2) C).le (qHp (nz X fk2 ft2 fo) C) := Ai7 fun f q => by
  rcases q with q | q | q | q
  . exact .inl (.inl q)
  . exact .inr (.inl q)
  . exact .inr (.inr (.inl q))
  . exact .inl (.inr (.inr (.inr q)))
 have hLC : Lst eMsg (qHp (nz X fk2 ft2 fo) C) C w l fo := (hL.fr k1.fr (TM.off fun f q => (h.new f q).2)).mono (Hp.le_trans k1.le an)
 obtain ⟨cs', q1, q2⟩ := k2.src (P := Try.prog) (tx := 34) Try.underlying34
 obtain ⟨v', D, fo', p1, p2, p3, p4⟩ := hLC.app (P := Try.prog) (t := 34) (tx := 34) (e := 28) B96 (hC.wf hw) q1 (q2.mono an) (by omega) (by omega)
 obtain ⟨g1, g2⟩ := hC.grow hw p3 p4 p2.famLt
 exact ⟨v', D, fk2, ft2, fo', p1, g1, p2.mono g2⟩
set_option maxRecDepth 10000 in
set_option maxHeartbeats 8000000 in
theorem AJ7 {v : V} {l : List InC} (hm : m.on A) (h : Slc eInC m v l) (hl : l.length <= 9223372036854775807) :
 ∃ w A', EvF Try.prog HH 17 [v] A w A' /\ Fr S0 A A' /\ ∃ b, w = .bool b /\ (b = true -> LightOk l) := by
 refine Aa3 rfl Try.func17 (by unfold Try.f17; rfl) Try.ntmps17 (by unfold Try.f17; rfl) (by simp) ?_
 have hlen := fun B => h.len (P := Try.prog) Try.underlying59 B
 simp only [RT, Q0, Q1, Q2, Q3, Q4, Q5, Q6, Q7, Q8, hlen]
 refine Aa6 (fun z e B => ∃ (i : Nat) (nn : Int), z = l.length - i /\ i <= l.length /\ e.get 8 = .int .i64 i /\ e.get 3 = .int .i64 nn /\ e.get 0 = v /\ e.get 6 = v /\ e.get 7 = .int .i64 l.length /\ Fr S0 A B /\ ∀ x ∈ l.take i, x.2.2.data.length <= 5000 /\ x.2.2.ids.length <= 70)
  (fun z e B => Fr S0 A B /\ ((Is z (.exit 0) /\ e.get 0 = v /\ (∃ nn : Int, e.get 3 = .int .i64 nn) /\ ∀ x ∈ l, x.2.2.data.length <= 5000 /\ x.2.2.ids.length <= 70) ∨ (Is z .ret /\ e.get 2 = .bool false)))
  ⟨_, 0, 0, rfl, by omega, rfl, rfl, rfl, rfl, rfl, .refl _ _, by simp⟩ ?_ ?_
 rotate_left
 . rintro z e B hz ⟨hf, ⟨rfl, h0, ⟨nn, h3⟩, hn⟩ | ⟨rfl, h2⟩⟩
   . by_cases q : (l.length : Int) <= 60
     . simp only [RT, Q0, Q1, Q2, Q3, Q4, Q5, Q6, Q7, Q8, h0, hlen, decide_eq_true q, h3]
       exact ⟨hf, _, rfl, fun _ => ⟨by omega, hn⟩⟩
     . simp only [RT, Q0, Q1, Q2, Q3, Q4, Q5, Q6, Q7, Q8, h0, hlen, decide_eq_false q]
       first | exact ⟨hf, false, rfl⟩ | exact ⟨hf, false, rfl, fun z => (by cases z)⟩ | exact ⟨hf, rfl⟩
   . simp only [RT, Q0, Q1, Q2, Q3, Q4, Q5, Q6, Q7, Q8, h2]
     first | exact ⟨hf, false, rfl⟩ | exact ⟨hf, false, rfl, fun z => (by cases z)⟩ | exact ⟨hf, rfl⟩
 rintro z e B ⟨i, nn, rfl, hi, h8, h3, h0, h6, h7, hf, hn⟩
 simp only [RT, Q0, Q1, Q2, Q3, Q4, Q5, Q6, Q7, Q8, h8, h7]
 refine Aa9 (fun q1 => ?_) (fun q1 => ?_)
 rotate_left
 . have : i = l.length := by omega
   subst this
   rw [List.take_length] at hn
   simp only [RT, Q0, Q1, Q2, Q3, Q4, Q5, Q6, Q7, Q8]
   exact ⟨hf, .inl ⟨rfl, h0, ⟨nn, h3⟩, hn⟩⟩
 obtain ⟨x, hx⟩ := Ad3 (l := l) (i := i) (by omega)
 obtain ⟨bb, o, cc, g3, g4, g5⟩ := h.at (P := Try.prog) (k := .i64) (hm.fr0 hf) Try.underlying59 B05 B82 hx
 obtain ⟨dv, iv, lv, rfl, hin⟩ := Bg8 g5
 obtain ⟨C, s1, s2, s3⟩ := AZ2 (A := B) hin
 have fa := Bg9 B.blk.length
 have ld := Bh0 s3 hin.id
 have hd := fun B => hin.data.len (P := Try.prog) Try.underlying24 B
 have hil := fun B => hin.ids.len (P := Try.prog) Try.underlying25 B
 have hwi : IntKind.i64.wrap ((i : Int) + 1) = ((i + 1 : Nat) : Int) := by rw [Ad5 (by omega)]
 have hfC := hf.then0 s2
 by_cases c1 : x.2.2.data.length > 5000
 . simp only [RT, Q0, Q1, Q2, Q3, Q4, Q5, Q6, Q7, Q8, h6, h8, g3, g4, Br5, s1, fa, ld, hd, decide_eq_true (show (x.2.2.data.length : Int) > 5000 by omega)]
   exact ⟨hfC, .inr rfl⟩
 by_cases c2 : x.2.2.ids.length > 70
 . simp only [RT, Q0, Q1, Q2, Q3, Q4, Q5, Q6, Q7, Q8, h6, h8, g3, g4, Br5, s1, fa, ld, hd, decide_eq_false (show ¬ (x.2.2.data.length : Int) > 5000 by omega), hil, decide_eq_true (show (x.2.2.ids.length : Int) > 70 by omega)]
   exact ⟨hfC, .inr rfl⟩
 simp only [RT, Q0, Q1, Q2, Q3, Q4, Q5, Q6, Q7, Q8, h6, h8, g3, g4, Br5, s1, fa, ld, hd, decide_eq_false (show ¬ (x.2.2.data.length : Int) > 5000 by omega), hil, decide_eq_false (show ¬ (x.2.2.ids.length : Int) > 70 by omega), h3, hwi]
 have hn' : ∀ y ∈ l.take (i + 1), y.2.2.data.length <= 5000 /\ y.2.2.ids.length <= 70 := fun y hy => by
  rw [Ac1 hx] at hy
  rcases List.mem_append.1 hy with hy | hy
  . exact hn y hy
  . rw [List.mem_singleton.1 hy]; exact ⟨by omega, by omega⟩
 refine ⟨l.length - (i + 1), by omega, i + 1, _, rfl, by omega, rfl, rfl, ?_⟩
 and_intros <;> first | rfl | assumption
set_option maxRecDepth 10000 in
set_option maxHeartbeats 8000000 in
theorem AZ3 {v v' : V} {a b : List Bts} (hm : m.on A) (h : Slc eId m v a) (h' : Slc eId m v' b) (ha : a.length <= 1000000) (hb : b.length <= 1000000) (hab : ∀ x, vtI a x ≠ z32 -> vtI b x = vtI a x) :
 ∃ w A', EvF Try.prog HH 21 [v, v'] A w A' /\ Fr S0 A A' /\ w = .bool true := by
 refine Aa3 rfl Try.func21 (by unfold Try.f21; rfl) Try.ntmps21 (by unfold Try.f21; rfl) (by simp) ?_
 have hlen := fun B => h.len (P := Try.prog) Try.underlying25 B
 have hlen' := fun B => h'.len (P := Try.prog) Try.underlying25 B
 simp only [RT, Q0, Q1, Q2, Q3, Q4, Q5, Q6, Q7, Q8, hlen]
 refine Aa6 (fun z e B => ∃ (i : Nat), z = a.length - i /\ i <= a.length /\ e.get 9 = .int .i64 i /\ e.get 1 = v' /\ e.get 7 = v /\ e.get 8 = .int .i64 a.length /\ Fr S0 A B)
  (fun z e B => Fr S0 A B /\ Is z (.exit 0))
  ⟨_, 0, rfl, by omega, rfl, rfl, rfl, rfl, .refl _ _⟩ ?_ ?_
 rotate_left
 . rintro z e B hz ⟨hf, rfl⟩
   simp only [RT, Q0, Q1, Q2, Q3, Q4, Q5, Q6, Q7, Q8]
   exact hf
 rintro z e B ⟨i, rfl, hi, h9, h1, h7, h8, hf⟩
 simp only [RT, Q0, Q1, Q2, Q3, Q4, Q5, Q6, Q7, Q8, h9, h8]
 refine Aa9 (fun q1 => ?_) (fun q1 => ?_)
 rotate_left
 . simp only [RT, Q0, Q1, Q2, Q3, Q4, Q5, Q6, Q7, Q8]
   exact ⟨hf, rfl⟩
 obtain ⟨x, hx⟩ := Ad3 (l := a) (i := i) (by omega)
 obtain ⟨bb, o, cc, g3, g4, g5⟩ := h.at (P := Try.prog) (k := .i64) (hm.fr0 hf) Try.underlying25 AB0 AI3 hx
 obtain ⟨rfl, hxl⟩ := Bc7.1 g5
 obtain ⟨C, s1, s2, s3⟩ := BB3 (A := B) x hxl
 have lx := ldI s3 hxl
 have hfC := hf.then0 s2
 have hwi : IntKind.i64.wrap ((i : Int) + 1) = ((i + 1 : Nat) : Int) := by rw [Ad5 (by omega)]
 have hv : vtI a i = x := by unfold vtI; rw [hx]; rfl
 by_cases cz : x = z32
 . simp only [RT, Q0, Q1, Q2, Q3, Q4, Q5, Q6, Q7, Q8, h7, h9, g3, g4, AX0, s1]
   rw [Bm6, Aa2 (by rfl)]
   simp only [RT, Q0, Q1, Q2, Q3, Q4, Q5, Q6, Q7, Q8, lx, Ak7, eqZ hxl Ab1, decide_eq_true cz, h9, hwi]
   refine ⟨a.length - (i + 1), by omega, i + 1, rfl, by omega, ?_⟩
   and_intros <;> first | rfl | assumption
 have hb2 := hab i (by rw [hv]; exact cz)
 rw [hv] at hb2
 have hib : i < b.length := by
  apply Nat.not_le.1; intro w
  unfold vtI at hb2
  rw [List.getElem?_eq_none_iff.2 w] at hb2
  exact cz hb2.symm
 obtain ⟨y, hy⟩ := Ad3 (l := b) (i := i) hib
 have hyx : y = x := by unfold vtI at hb2; rw [hy] at hb2; exact hb2
 subst hyx
 obtain ⟨bb', o', cc', k3, k4, k5⟩ := h'.at (P := Try.prog) (k := .i64) (hm.fr0 hfC) Try.underlying25 AB0 AI3 hy
 obtain ⟨rfl, _⟩ := Bc7.1 k5
 simp only [RT, Q0, Q1, Q2, Q3, Q4, Q5, Q6, Q7, Q8, h7, h9, g3, g4, AX0, s1]
 rw [Bm6, Aa2 (by rfl)]
 simp only [RT, Q0, Q1, Q2, Q3, Q4, Q5, Q6, Q7, Q8, lx, Ak7, eqZ hxl Ab1, decide_eq_false cz, h1, hlen', decide_eq_false (show ¬ ((i : Int) >= (b.length : Int)) by omega), k3, k4, eqZ hxl hxl, h9, hwi]
 refine ⟨a.length - (i + 1), by omega, i + 1, rfl, by omega, ?_⟩
 and_intros <;> first | rfl | assumption
theorem B53 : mkm Try.prog 110 (some none) = some .newMap := by kernel_rfl
theorem B54 : mapT Try.prog 110 = some (3, 23) := by kernel_rfl
theorem zPr : zeroT Try.prog 23 = some (.agg (bc z32)) := by kernel_rfl
theorem kPr : KeyT Try.prog 3 encW := Ca8 (by kernel_rfl) ag3
set_option maxRecDepth 10000 in
set_option maxHeartbeats 8000000 in
theorem AH4 {v : V} {l : List M} {g : Int -> Bts} (hm : m.on A) (h : Lst eMsg m A v l fo) (hg : ∀ x ∈ l, x.kind = 3 -> x.id = g x.round) (hl : l.length <= 1000000000) :
 ∃ w A', EvF Try.prog HH 22 [v] A w A' /\ Fr S0 A A' /\ w = .bool true := by
 refine Aa3 rfl Try.func22 (by unfold Try.f22; rfl) Try.ntmps22 (by unfold Try.f22; rfl) (by simp) ?_
 have hlen := fun B => h.len (P := Try.prog) Try.underlying34 B
 obtain ⟨A1, e1⟩ : ∃ B, B = A.pushMap ⟨[], 0⟩ := ⟨_, rfl⟩
 have f1 : Fr S0 A A1 := by rw [e1]; exact Fr.pushMap A _
 obtain ⟨r, hr⟩ : ∃ r, r = A.maps.length := ⟨_, rfl⟩
 have hM1 : MapIs A1 r encW (fun b : Idb => encB b) ([] : List (Int × Idb)) := by rw [e1, hr]; exact MapIs.new A
 simp only [RT, Q0, Q1, Q2, Q3, Q4, Q5, Q6, Q7, Q8, B53]
 simp only [RT, Q0, Q1, Q2, Q3, Q4, Q5, Q6, Q7, Q8, <- hr, <- e1, hlen]
 refine Aa6 (fun z e B => ∃ (i : Nat) (ml : List (Int × Idb)), z = l.length - i /\ i <= l.length /\ e.get 11 = .int .i64 i /\ e.get 3 = .map r /\ e.get 9 = v /\ e.get 10 = .int .i64 l.length /\ Fr S0 A B /\ MapIs B r encW (fun b : Idb => encB b) ml /\ ∀ k y, lookL ml k = some y -> y.1 = g k)
  (fun z e B => Fr S0 A B /\ Is z (.exit 0))
  ⟨_, 0, [], rfl, by omega, rfl, rfl, rfl, rfl, f1, hM1, fun k y q => by cases q⟩ ?_ ?_
 rotate_left
 . rintro z e B hz ⟨hf, rfl⟩
   simp only [RT, Q0, Q1, Q2, Q3, Q4, Q5, Q6, Q7, Q8]
   exact hf
 rintro z e B ⟨i, ml, rfl, hi, h11, h3, h9, h10, hf, hM, hml⟩
 simp only [RT, Q0, Q1, Q2, Q3, Q4, Q5, Q6, Q7, Q8, h11, h10]
 refine Aa9 (fun q1 => ?_) (fun q1 => ?_)
 rotate_left
 . simp only [RT, Q0, Q1, Q2, Q3, Q4, Q5, Q6, Q7, Q8]
   exact ⟨hf, rfl⟩
 obtain ⟨x, hx⟩ := Ad3 (l := l) (i := i) (by omega)
 obtain ⟨bb, o, dv, iv, lv, g3, g4, hin⟩ := Br3 (h.fr0 hf) (hm.fr0 hf) hx
 obtain ⟨C, s1, s2, s3⟩ := Ao8 (A := B) hin
 have fm := faM B.blk.length
 have lm := ldM s3 hin.id
 have hfC := hf.then0 s2
 have hwi : IntKind.i64.wrap ((i : Int) + 1) = ((i + 1 : Nat) : Int) := by rw [Ad5 (by omega)]
 by_cases k3 : x.kind = 3
 rotate_left
 . simp only [RT, Q0, Q1, Q2, Q3, Q4, Q5, Q6, Q7, Q8, h9, h11, g3, g4, zcM, s1, fm, lm, decide_eq_true (show ¬ x.kind = 3 from k3), h11, hwi]
   have hMC := hM.fr s2 (fun q => q)
   refine ⟨l.length - (i + 1), by omega, i + 1, ml, rfl, by omega, ?_⟩
   and_intros <;> first | rfl | assumption
 have hgx := hg x (List.mem_of_getElem? hx) k3
 have hMC := hM.fr s2 (fun q => q)
 have lk := hMC.look (P := Try.prog) kPr B54 zPr x.round true
 obtain ⟨oid, hoid, hcase⟩ : ∃ oid : Bts × Bool, oid.1.length = 32 /\ evLookup Try.prog 110 (.map r) (.int .i64 x.round) true C = some (.tup [.agg (bc oid.1), .bool oid.2]) /\ (oid.2 = true -> oid.1 = x.id) := by
  cases q : lookL ml x.round with
  | none => rw [q] at lk; exact ⟨(z32, false), Ab1, lk, fun z => by cases z⟩
  | some y0 =>
   rw [q] at lk
   exact ⟨(y0.1, true), y0.2, lk, fun _ => (hml _ _ q).trans hgx.symm⟩
 obtain ⟨⟨oid, ob⟩, hoid, hlk, hob⟩ : ∃ oid : Bts × Bool, oid.1.length = 32 /\ evLookup Try.prog 110 (.map r) (.int .i64 x.round) true C = some (.tup [.agg (bc oid.1), .bool oid.2]) /\ (oid.2 = true -> oid.1 = x.id) := ⟨oid, hoid, hcase⟩
 have hoid : oid.length = 32 := hoid
 have hlk : evLookup Try.prog 110 (.map r) (.int .i64 x.round) true C = some (.tup [.agg (bc oid), .bool ob]) := hlk
 have hob : ob = true -> oid = x.id := hob
 obtain ⟨D, t1, t2, t3⟩ := BB3 (A := C) oid hoid
 have ldo := ldI t3 hoid
 have lmD := ldM (t2.row0 s3) hin.id
 have hMD := hMC.fr t2 (fun q => q)
 have hput2 : ∃ E ml', evMapUpdate Try.prog 110 (.map r) (.int .i64 x.round) (.agg (bc x.id)) D = some E /\ Fr (· = .map r) D E /\ MapIs E r encW (fun b : Idb => encB b) ml' /\ ∀ k y, lookL ml' k = some y -> y.1 = g k := by
  cases q : lookL ml x.round with
  | none =>
   obtain ⟨E, t1, t2, t3⟩ := hMD.put (P := Try.prog) kPr B54 (k := x.round) (⟨x.id, hin.id⟩ : Idb) q
   refine ⟨E, _, t1, t2, t3, fun k y w => ?_⟩
   rw [AH0] at w
   cases e : lookL ml k with
   | some z => rw [e] at w; exact hml k y (by rw [e]; exact w)
   | none =>
    rw [e] at w
    simp only [lookL] at w
    split at w
    . rename_i z; cases w; rw [z]; exact hgx
    . cases w
  | some y0 =>
   have hy0 : y0.1 = x.id := (hml _ _ q).trans hgx.symm
   obtain ⟨E, t1, t2, t3⟩ := hMD.again (P := Try.prog) kPr B54 (k := x.round) (v := y0) q
   have he : encB y0 = .agg (bc x.id) := by unfold encB; rw [hy0]
   rw [he] at t1
   exact ⟨E, ml, t1, t2, t3, hml⟩
 obtain ⟨E, ml2, p1, p2, p3, p4⟩ := hput2
 have hml0 : A.maps.length <= r := by omega
 have hfE : Fr S0 A E := (hfC.then0 t2).trans p2 fun z q => .inr (by subst q; exact hml0)
 cases ob with
 | false =>
  simp only [RT, Q0, Q1, Q2, Q3, Q4, Q5, Q6, Q7, Q8, h9, h11, g3, g4, zcM, s1, fm, lm, decide_eq_false (show ¬ ¬ x.kind = 3 from fun z => z k3), h3, hlk, AX0, t1, lmD, p1, hwi]
  refine ⟨l.length - (i + 1), by omega, i + 1, ml2, rfl, by omega, ?_⟩
  and_intros <;> first | rfl | assumption
 | true =>
  have eo := hob rfl
  subst eo
  simp only [RT, Q0, Q1, Q2, Q3, Q4, Q5, Q6, Q7, Q8, h9, h11, g3, g4, zcM, s1, fm, lm, decide_eq_false (show ¬ ¬ x.kind = 3 from fun z => z k3), h3, hlk, AX0, t1, ldo, lmD, eqZ hoid hoid, p1, hwi]
  refine ⟨l.length - (i + 1), by omega, i + 1, ml2, rfl, by omega, ?_⟩
  and_intros <;> first | rfl | assumption
end
end Go.Sv.Try
namespace Go.Sv
open Go
theorem CoOk.sz {c : Co} (h : CoOk c) : SzB c := fun p q => (h.bat p q).2
theorem Ay5 (c : Co) (l : List Act) : (c.act l).1.now = c.now := (Ay0 l (c, [], false)).2.2
theorem AS9 (c : Co) (b : Bts) : (c.Begin b).1.now = c.now := by
 unfold Co.Begin; split
 . rfl
 . exact Ay5 _ _
theorem AT0 (c : Co) (w : Int) (ids : List Bts) : ∀ k, (c.hearI w ids k).1.now = c.now
 | 0 => rfl
 | k + 1 => by
  have em : c.hearI w ids (k + 1) = Co.hear1 w ids (c.hearI w ids k) k := by unfold Co.hearI; rw [List.range_succ, List.foldl_append]; rfl
  rw [em]
  refine Eq.trans ?_ (AT0 c w ids k)
  unfold Co.hear1; split <;> rfl
theorem Br6 (c : Co) (w : Int) (x : M) : (c.Hear w x).1.now = c.now := by
 unfold Co.Hear
 split
 . rfl
 split
 . split
   . rfl
   . exact Ay5 _ _
 split
 . exact (Ay5 _ _).trans (AT0 _ _ _ _)
 split
 . split
   . rfl
   . exact Ay5 _ _
 . exact Ay5 _ _
theorem Br7 (c : Co) : c.Tick.1.now = c.now + 1 := by
 have : ∀ (l : List DueP) (y : Co × List Act), (l.foldl Co.tick1 y).1.now = y.1.now := by
  intro l
  induction l with
  | nil => exact fun y => rfl
  | cons x l ih => exact fun y => ih (Co.tick1 y x)
 exact (Ay5 _ _).trans (this _ (c.tick0, []))
theorem Ba2 (l : List M) : ∀ c : Co, (c.Recall l).now = c.now := by
 induction l with
 | nil => exact fun c => rfl
 | cons m l ih =>
  intro c
  refine (ih (Co.recall1 c m)).trans ?_
  unfold Co.recall1
  repeat' split
  all_goals rfl
end Go.Sv
namespace Go.Sv.Try
open Go Go.Proofs
section
variable {c : Co}
theorem AT1 (hr : Rng c.rd) (ha : c.rd.acts = []) (b : Bts) : (c.Begin b).2.length <= 100000 := by
 unfold Co.Begin
 split
 . simp
 have k := hr.Know (batchI b)
 rw [ha] at k
 have k2 := k.1.Begin (batchI b)
 rw [k.2.2] at k2
 have h1 : (c.learn b).2.length <= 2000 := by have := k.2.1; rw [List.length_nil, Nat.zero_add] at this; exact this
 have h2 : ((c.learn b).1.rd.Begin (batchI b)).2.length <= 2001 := by have := k2.2.1; rw [List.length_nil, Nat.zero_add] at this; exact this
 refine Nat.le_trans (At7 _ _) ?_
 rw [List.length_append]; omega
theorem AT2 (hr : Rng c.rd) (ha : c.rd.acts = []) (w : Int) (ids : List Bts) : ∀ k, Rng (c.hearI w ids k).1.rd /\ (c.hearI w ids k).1.rd.acts = [] /\ (c.hearI w ids k).2.length <= 2000 * k
 | 0 => ⟨hr, ha, by show ([] : List Act).length <= _; simp⟩
 | k + 1 => by
  have em : c.hearI w ids (k + 1) = Co.hear1 w ids (c.hearI w ids k) k := by unfold Co.hearI; rw [List.range_succ, List.foldl_append]; rfl
  rw [em]
  obtain ⟨h1, h2, h3⟩ := AT2 hr ha w ids k
  generalize c.hearI w ids k = y at *
  unfold Co.hear1
  split
  . exact ⟨h1, h2, by omega⟩
  . have q := h1.Voted ((k / 2 : Nat) : Int) ((k % 2 : Nat) : Int) w ((ids[k]?).getD z32)
    rw [h2] at q
    refine ⟨q.1, q.2.2, ?_⟩
    show (y.2 ++ _).length <= _
    rw [List.length_append]
    have := q.2.1; rw [List.length_nil, Nat.zero_add] at this; omega
theorem Br8 (hr : Rng c.rd) (ha : c.rd.acts = []) (w : Int) (x : M) : (c.Hear w x).2.length <= 100000 := by
 have hl : ∀ b, (c.learn b).2.length <= 2000 := fun b => by
  have k := hr.Know (batchI b)
  rw [ha] at k
  have := k.2.1; rw [List.length_nil, Nat.zero_add] at this; exact this
 unfold Co.Hear
 split
 . simp
 split
 . split
   . simp
   have k := hr.Know (batchI x.data)
   rw [ha] at k
   have k2 := k.1.Offered x.round x.valid (batchI x.data)
   rw [k.2.2] at k2
   have h2 : ((c.learn x.data).1.rd.Offered x.round x.valid (batchI x.data)).2.length <= 2000 := by have := k2.2.1; rw [List.length_nil, Nat.zero_add] at this; exact this
   refine Nat.le_trans (At7 _ _) ?_
   show ((c.learn x.data).2 ++ _).length + 1 <= _
   rw [List.length_append]
   have := hl x.data; omega
 split
 . refine Nat.le_trans (At7 _ _) ?_
   have := (AT2 hr ha w x.ids (min x.ids.length 24)).2.2
   have e : c.hearS w x.ids = c.hearI w x.ids (min x.ids.length 24) := rfl
   rw [e]
   have := Nat.min_le_right x.ids.length 24
   omega
 split
 . split
   . simp
   refine Nat.le_trans (At7 _ _) ?_
   have : (c.hearV w x).2.length <= 2000 := hl x.data
   omega
 . exact Nat.le_trans (At7 _ _) (by simp)
theorem Br9 (hr : Rng c.rd) (ha : c.rd.acts = []) (ht : c.tim.length <= 40) : c.Tick.2.length <= 100000 := by
 have e : c.tickI (overL (c.now + 1) c.tim).length = c.tickS := by unfold Co.tickI Co.tickS; rw [List.take_length]
 have h := (Av3 hr ha (overL (c.now + 1) c.tim).length).2.2
 rw [e] at h
 have hl : (overL (c.now + 1) c.tim).length <= 40 := Nat.le_trans (List.length_filter_le _ _) ht
 have ha2 : c.tickA.2.length <= c.tickS.2.length + 1 := At7 _ _
 have hg : ∀ (c : Co) (l : List M), (again c l).length <= l.length + 3 := by
  intro c l
  have h1 : (o1 c l).length <= l.length + 1 := by unfold o1; split <;> simp
  have h2 : (o2 c (o1 c l)).length <= (o1 c l).length + 1 := by
   generalize o1 c l = y
   unfold o2; split <;> simp
  have h3 : (o3 c (o2 c (o1 c l))).length <= (o2 c (o1 c l)).length + 1 := by
   generalize o2 c (o1 c l) = y
   unfold o3; split <;> simp
  show (o3 c (o2 c (o1 c l))).length <= _
  omega
 have := hg c.tickA.1 c.tickA.2
 show (again c.tickA.1 c.tickA.2).length <= _
 omega
end
section
variable {X Y : Nat -> Prop} {A B C : AS} {K : CoK} {c c1 c2 : Co} {fk ft fk1 ft1 fk2 ft2 fo fo2 : Option Nat} {S : Loc -> Prop} {m : Hp}
theorem Cf0 (b : Nat) : evIndexAddr Try.prog 58 (.ptr b 0) (.int .i64 0) = some (.ptr b 0) /\ evIndexAddr Try.prog 58 (.ptr b 0) (.int .i64 1) = some (.ptr b 1) := ⟨by kernel_rfl, by kernel_rfl⟩
theorem Cb1 {b : Nat} {k : BK} {x y : Int} (h : A.blk[b]? = some ⟨[.int .i64 x, .int .i64 y], k⟩) : evLoad Try.prog 3 (.ptr b 0) A = some (.int .i64 x) /\ evLoad Try.prog 3 (.ptr b 1) A = some (.int .i64 y) := ⟨by rw [Ad9 ag3, Ak4 h]; rfl, by rw [Ad9 ag3, Ak4 h]; rfl⟩
def ownBt : Bts := [111, 119, 110]
def anoBt : Bts := [97, 110, 111, 116, 104, 101, 114]
theorem BS7 : bsl Try.prog 24 3 (some [(0, .int .u8 111), (1, .int .u8 119), (2, .int .u8 110)]) = some (.newSl (bc ownBt) 3 1) := by kernel_rfl
theorem BS8 : bsl Try.prog 24 7 (some [(0, .int .u8 97), (1, .int .u8 110), (2, .int .u8 111), (3, .int .u8 116), (4, .int .u8 104), (5, .int .u8 101), (6, .int .u8 114)]) = some (.newSl (bc anoBt) 7 1) := by kernel_rfl
structure RunM (X : Nat -> Prop) (A : AS) (K : CoK) (fk ft : Option Nat) (c : Co) (k : Nat) (l : List M) (B : AS) (w : V) (fk' ft' fo : Option Nat) : Prop where
 st : CStep X A K fk ft B fk' ft' fo c
 lst : Lst eMsg (qHp (nz X fk' ft' fo) B) B w l fo
 len : l.length <= 100000 * (k + 1)
 now : c.now <= k
theorem RunM.hear {k : Nat} {l : List M} {w dv iv lv : V} {x : M} {who : Int} (hw : WF A) (h : RunM X A K fk ft c k l B w fk1 ft1 fo) (hf : Fr S0 B C) (hx : MsgIn (qHp (nz X fk1 ft1 fo) C) x dv iv lv) (hi : x.ids.length <= 1000000) (hd : x.data.length <= 1000000000) (hk : k <= 500) :
 ∃ u D v' E fk2 ft2 fo2, EvF Try.prog HH 10 [.ptr K.cb 0, .int .i64 who, .agg (mc x dv iv lv)] C u D /\ evAppend Try.prog 34 34 w u D = some (v', E) /\ RunM X A K fk ft (c.Hear who x).1 (k + 1) (l ++ (c.Hear who x).2) E v' fk2 ft2 fo2 := by
 have h1 := h.st.then0 hf
 have hl := Br8 h1.co.rng h1.co.acts who x
 obtain ⟨u, D, k1, k2⟩ := Bf7 (h1.wf hw) h1.co hx hi hd (w := who)
 obtain ⟨v', E, fk2, ft2, fo2, p1, p2, p3⟩ := h1.msgs hw (CStep.lst0 h.lst hf) k2 (by have := h.len; omega)
 exact ⟨u, D, v', E, fk2, ft2, fo2, k1, p1, p2, p3, by rw [List.length_append]; have := h.len; omega, by rw [Br6]; have := h.now; omega⟩
theorem RunM.tick {k : Nat} {l : List M} {w : V} (hw : WF A) (h : RunM X A K fk ft c k l B w fk1 ft1 fo) (hf : Fr S0 B C) (hk : k <= 500) :
 ∃ u D v' E fk2 ft2 fo2, EvF Try.prog HH 19 [.ptr K.cb 0] C u D /\ evAppend Try.prog 34 34 w u D = some (v', E) /\ RunM X A K fk ft c.Tick.1 (k + 1) (l ++ c.Tick.2) E v' fk2 ft2 fo2 := by
 have h1 := h.st.then0 hf
 have hl := Br9 h1.co.rng h1.co.acts h1.co.lim.tim
 obtain ⟨u, D, k1, k2⟩ := AY7 (h1.wf hw) h1.co (by have := h.now; omega)
 obtain ⟨v', E, fk2, ft2, fo2, p1, p2, p3⟩ := h1.msgs hw (CStep.lst0 h.lst hf) k2 (by have := h.len; omega)
 exact ⟨u, D, v', E, fk2, ft2, fo2, k1, p1, p2, p3, by rw [List.length_append]; have := h.len; omega, by rw [Br7]; have := h.now; omega⟩
theorem RunM.idle {k : Nat} {l : List M} {w : V} (h : RunM X A K fk ft c k l B w fk1 ft1 fo) (hf : Fr S0 B C) : RunM X A K fk ft c (k + 1) l C w fk1 ft1 fo :=
 ⟨h.st.then0 hf, CStep.lst0 h.lst hf, by have := h.len; omega, by have := h.now; omega⟩
end
end Go.Sv.Try
namespace Go.Sv.Try
open Go Go.Proofs
section
variable {X Y : Nat -> Prop} {A B C : AS} {K : CoK} {c c1 c2 : Co} {fk ft fk1 ft1 fk2 ft2 fo fo2 : Option Nat} {S : Loc -> Prop} {m : Hp}
set_option maxRecDepth 10000 in
set_option maxHeartbeats 64000000 in
theorem coreRecalls_spec {v1 v2 : V} {a b : Int} {script later : List InC} (hw : WF A) (hai : IntIn .i64 a) (h1 : Slc eInC (roHp A) v1 script) (h2 : Slc eInC (roHp A) v2 later) (hn1 : script.length <= 9223372036854775807) (hn2 : later.length <= 9223372036854775807) :
 ∃ u A', EvF Try.prog HH 5 [.agg [.int .i64 a, .int .i64 b], v1, v2] A u A' /\ u = .bool true := by
 refine Aa3 rfl Try.func5 (by unfold Try.f5; rfl) Try.ntmps5 (by unfold Try.f5; rfl) (by simp) ?_
 obtain ⟨A1, e1, f1, r1, n1⟩ := Aa7 A [.int .i64 a, .int .i64 b]
 obtain ⟨b3, hb3⟩ : ∃ b, b = A.blk.length := ⟨_, rfl⟩
 rw [<- hb3] at r1 n1
 have w1 := f1.wf hw
 obtain ⟨_, A2, k2, f2, rfl⟩ := AS8 w1
 have w2 := f2.wf w1
 have r2 := f2.row0 r1
 have ix := Cf0 b3
 have ld2 := Cb1 r2
 simp only [RT, Q0, Q1, Q2, Q3, Q4, Q5, Q6, Q7, Q8, <- hb3, <- e1]
 refine Aa0 k2 ?_
 obtain ⟨w3', A3, k3, f3, hC⟩ := A93 w2 hai (by constructor <;> decide) (me := b) (h := 2)
 simp only [RT, Q0, Q1, Q2, Q3, Q4, Q5, Q6, Q7, Q8, Al3, ix, ld2]
 refine Aa0 k3 ?_
 rcases hC with ⟨er, he, rfl⟩ | ⟨n, i, rfl, rfl, hok, hlt, _, _, K, rfl, hN, hC⟩
 . simp only [RT, Q0, Q1, Q2, Q3, Q4, Q5, Q6, Q7, Q8, decide_eq_true (show ¬ er = 0 from he)]
 have w3 := f3.wf w2
 have f13 : Fr S0 A A3 := (f1.then0 f2).then0 f3
 obtain ⟨_, A4, k4, f4, bo1, rfl, hb1⟩ := AJ7 ((Bk4 A).fr0 f13) h1 hn1
 simp only [RT, Q0, Q1, Q2, Q3, Q4, Q5, Q6, Q7, Q8, BC8]
 refine Aa0 k4 ?_
 cases bo1 with
 | false => simp only [RT, Q0, Q1, Q2, Q3, Q4, Q5, Q6, Q7, Q8, Al3]
 | true =>
 have hl1 := hb1 rfl
 obtain ⟨_, A5, k5, f5, bo2, rfl, hb2⟩ := AJ7 ((Bk4 A).fr0 (f13.then0 f4)) h2 hn2
 simp only [RT, Q0, Q1, Q2, Q3, Q4, Q5, Q6, Q7, Q8, Al3]
 refine Aa0 k5 ?_
 cases bo2 with
 | false => simp only [RT, Q0, Q1, Q2, Q3, Q4, Q5, Q6, Q7, Q8, Al3]
 | true =>
 have hl2 := hb2 rfl
 have w5 := f5.wf (f4.wf w3)
 obtain ⟨X1, hX1⟩ : ∃ X : Nat -> Prop, X = fun f => (fun _ => False) f ∨ XCo K none none f := ⟨_, rfl⟩
 have hC := hC (fun _ => False) (fun _ q => q.elim)
 rw [<- hX1] at hC
 have hC5 := (hC.fr0 f4).fr0 f5
 obtain ⟨A6, e6⟩ : ∃ B, B = A5.push ⟨bc ownBt, .arr A5.blk.length 0⟩ := ⟨_, rfl⟩
 have f6 : Fr S0 A5 A6 := by rw [e6]; exact Fr.pushArr A5 _
 have r6 : A6.blk[A5.blk.length]? = some ⟨bc ownBt, .arr A5.blk.length 0⟩ := by rw [e6]; exact Ac0 A5 _
 have w6 := f6.wf w5
 have hC6 := hC5.fr0 f6
 have hv6 : Slc eU8 (qHp X1 A6) (.sl A5.blk.length 0 3 1) ownBt := Bn6 (Ak6 r6 fun q => by have := hC5.xlt _ q; omega) rfl
 have cv6 := Bg7 (P := Try.prog) (n := 2) (o := 0) Try.underlying24 Try.underlying5 r6
 obtain ⟨u7, A7, k7, fk7, ft7, fo7, s7, l7⟩ := Aq4 w6 hC6 hv6 (by decide)
 have f16 : Fr S0 A A6 := ((f13.then0 f4).then0 f5).then0 f6
 have f36 : Fr S0 A1 A6 := (((f2.then0 f3).then0 f4).then0 f5).then0 f6
 have r36 := f36.row0 r1
 have hlK := hC6.lt
 have ro1 : (roHp A).le (qHp X1 A6) := Hp.le_trans (Bm4 _ A) (Ad8 f16)
 have hlen1 := fun B => h1.len (P := Try.prog) Try.underlying59 B
 have hlen2 := fun B => h2.len (P := Try.prog) Try.underlying59 B
 have hr0 := Ce8 hok hlt
 obtain ⟨s1, q1⟩ := AS7 hr0 ownBt
 have hr1 := hr0.step q1 (AS3 _ _) (AS6 _ _) s7.co.lim.sz
 rw [List.nil_append] at hr1
 have hm7 : RunM X1 A6 K none none ((co0 n i 2).Begin ownBt).1 0 ((co0 n i 2).Begin ownBt).2 A7 u7 fk7 ft7 fo7 := ⟨s7, l7, AT1 hC6.rng hC6.acts _, by rw [AS9]; show (0 : Int) <= _; omega⟩
 have cbn : b3 ≠ K.cb /\ b3 ≠ K.rp := by have := hN.cb; have := hN.nr.1; have := f2.len; omega
 simp only [RT, Q0, Q1, Q2, Q3, Q4, Q5, Q6, Q7, Q8, Al3, BS7]
 simp only [RT, Q0, Q1, Q2, Q3, Q4, Q5, Q6, Q7, Q8, <- e6, cv6]
 refine Aa0 k7 ?_
 simp only [RT, Q0, Q1, Q2, Q3, Q4, Q5, Q6, Q7, Q8, hlen1]
 refine Aa6 (fun z e B => ∃ (j : Nat) (w : V) (cc : Co) (l : List M) (s : Nat -> Led) (fk ft fo : Option Nat), z = script.length - j /\ j <= script.length /\ e.get 55 = .int .i64 j /\ RunM X1 A6 K none none cc j l B w fk ft fo /\ RunOk n i s cc l /\ e.get 9 = w /\ e.get 7 = .ptr K.cb 0 /\ e.get 2 = v2 /\ e.get 3 = .ptr b3 0 /\ e.get 53 = v1 /\ e.get 54 = .int .i64 script.length)
  (fun z e B => Is z (.exit 0) /\ ∃ (w : V) (cc : Co) (l : List M) (s : Nat -> Led) (fk ft fo : Option Nat), RunM X1 A6 K none none cc script.length l B w fk ft fo /\ RunOk n i s cc l /\ e.get 9 = w /\ e.get 7 = .ptr K.cb 0 /\ e.get 2 = v2 /\ e.get 3 = .ptr b3 0)
  ⟨_, 0, u7, _, _, s1, fk7, ft7, fo7, rfl, by omega, rfl, hm7, hr1, rfl, rfl, rfl, rfl, rfl, rfl⟩ ?_ ?_
 . rintro z e B ⟨j, w, cc, l, s, fk, ft, fo, rfl, hj, h55, hM, hR, h9, h7, he2, he3, h53, h54⟩
   simp only [RT, Q0, Q1, Q2, Q3, Q4, Q5, Q6, Q7, Q8, h54, h55]
   refine Aa9 (fun g1 => ?_) (fun g1 => ?_)
   rotate_left
   . have : j = script.length := by omega
     subst this
     simp only [RT, Q0, Q1, Q2, Q3, Q4, Q5, Q6, Q7, Q8]
     refine ⟨rfl, w, cc, l, s, fk, ft, fo, ?_⟩
     and_intros <;> first | rfl | assumption
   obtain ⟨x, hx⟩ := Ad3 (l := script) (i := j) (by omega)
   have hxl := hl1.2 x (List.mem_of_getElem? hx)
   obtain ⟨bb, o, ccc, g3, g4, g5⟩ := (h1.mono (Hp.le_trans ro1 hM.st.le)).at (P := Try.prog) (k := .i64) (Ag0 _ B) Try.underlying59 B05 B82 hx
   obtain ⟨dv, iv, lv, rfl, hin⟩ := Bg8 g5
   obtain ⟨C, t1, t2, t3⟩ := AZ2 (A := B) hin
   have fa := Bg9 B.blk.length
   have ld := Bh0 t3 hin.id
   have hwi : IntKind.i64.wrap ((j : Int) + 1) = ((j + 1 : Nat) : Int) := by rw [Ad5 (by omega)]
   have hj60 : j <= 500 := by have := hl1.1; omega
   by_cases c1 : x.1 = 1
   . obtain ⟨u, D, v', E, fk2, ft2, fo2, p1, p2, p3⟩ := hM.hear w6 t2 (hin.mono (Ad8 t2)) (by omega) (by omega) hj60 (who := x.2.1)
     obtain ⟨s', q⟩ := A53 hR x.2.1 x.2.2
     have hR2 := hR.step q (A49 _ _ _) (A51 _ _ _) p3.st.co.lim.sz
     simp only [RT, Q0, Q1, Q2, Q3, Q4, Q5, Q6, Q7, Q8, h53, h55, g3, g4, Br5, t1, fa, ld, decide_eq_true c1, h9, h7]
     refine Aa0 p1 ?_
     simp only [RT, Q0, Q1, Q2, Q3, Q4, Q5, Q6, Q7, Q8, p2, h55, hwi]
     refine ⟨script.length - (j + 1), by omega, j + 1, v', _, _, s', fk2, ft2, fo2, rfl, by omega, rfl, p3, hR2, ?_⟩
     and_intros <;> first | rfl | assumption
   by_cases c2 : x.1 = 2
   . obtain ⟨u, D, v', E, fk2, ft2, fo2, p1, p2, p3⟩ := hM.tick w6 t2 hj60
     obtain ⟨⟨s', q⟩, hp⟩ := A54 hR
     have hR2 := hR.step q hp (A52 _) p3.st.co.lim.sz
     simp only [RT, Q0, Q1, Q2, Q3, Q4, Q5, Q6, Q7, Q8, h53, h55, g3, g4, Br5, t1, fa, ld, decide_eq_false c1, decide_eq_true c2, h9, h7]
     refine Aa0 p1 ?_
     simp only [RT, Q0, Q1, Q2, Q3, Q4, Q5, Q6, Q7, Q8, p2, h55, hwi]
     refine ⟨script.length - (j + 1), by omega, j + 1, v', _, _, s', fk2, ft2, fo2, rfl, by omega, rfl, p3, hR2, ?_⟩
     and_intros <;> first | rfl | assumption
   simp only [RT, Q0, Q1, Q2, Q3, Q4, Q5, Q6, Q7, Q8, h53, h55, g3, g4, Br5, t1, fa, ld, decide_eq_false c1, decide_eq_false c2, hwi]
   refine ⟨script.length - (j + 1), by omega, j + 1, w, _, _, s, fk, ft, fo, rfl, by omega, rfl, hM.idle t2, hR, ?_⟩
   and_intros <;> first | rfl | assumption
 rintro z e B1 hz ⟨rfl, w, cc, own, s, fk, ft, fo, hM, hR, h9, h7, he2, he3⟩
 have wB := hM.st.wf w6
 have rB := hM.st.fr.row _ _ r36 (TM.box r36 (by rintro (q | q); exact cbn.1 q; exact cbn.2 q))
 have ldB := Cb1 rB
 have hlo : own.length <= 6100000 := by have := hM.len; have := hl1.1; omega
 obtain ⟨_, B2, m2, g2, K2, rfl, hN2, hD⟩ := A44 wB (h := 2) hok hlt (by omega) (by omega)
 have wB2 := g2.wf wB
 obtain ⟨X2, hX2⟩ : ∃ X : Nat -> Prop, X = nz X1 fk ft fo := ⟨_, rfl⟩
 have hx2 : ∀ f, X2 f -> f < B1.blk.length := fun f q => hM.st.co.xlt f (by rw [<- hX2]; exact q)
 obtain ⟨Xd, hXd⟩ : ∃ X : Nat -> Prop, X = fun f => X2 f ∨ XCo K2 none none f := ⟨_, rfl⟩
 have hD := hD X2 hx2
 rw [<- hXd] at hD
 have hnew : ∀ f, XCo K2 none none f -> B1.blk.length <= f := fun f q => by
  rcases q with (⟨j, hj, rfl⟩ | q) | q
  . exact hN2.nr.2 j hj
  . cases q
  . cases q
 have hfoB : ∀ f, fo = some f -> f < B1.blk.length := hM.lst.famLt
 have hsl : Slc eMsg (qHp (XCo K2 none none) B2) w own := (hM.lst.fr0 g2).slcQ (Al4 g2 .s0 wB fun f q => .inr (hnew f q)) (fun f q z => by have := hnew f z; have := hfoB f q; omega)
 obtain ⟨ur, B3, m3, fk3, t3⟩ := AN1 wB2 hD hsl (fun x hx => (hR.rec_ x hx).1) (by omega)
 have wB3 := t3.wf wB2
 have g13 : Fr S0 B1 B3 := g2.trans t3.fr fun x q => .inr (hN2.new wB g2 (fun f q => by cases q) (fun f q => by cases q) q)
 obtain ⟨s2, hB, hst, hvt⟩ := hR.back hok hlt
 obtain ⟨d0, hd0⟩ : ∃ d, d = (co0 n i 2).Recall own := ⟨_, rfl⟩
 rw [<- hd0] at t3 hB hst
 have hids : stIds d0.rd = stIds cc.rd := congrArg M.ids hst
 have hme : ((d0.rd.me : Int) = cc.rd.me) /\ d0.rd.height = cc.rd.height := ⟨congrArg M.who hst, congrArg M.height hst⟩
 have hcc3 := hM.st.co.fr0 g13
 obtain ⟨tv3, dv3, bl3, xc3, _⟩ := hcc3.cm.ex
 obtain ⟨_, B4, m4, g4, iv4, fo4, rfl, l4, n4⟩ := As0 wB3 hcc3.rd xc3
 have hin4 : MsgIn (arrHp B4) (stMsg cc.rd) .snil iv4 .snil := ⟨rfl, .inl ⟨rfl, rfl⟩, l4.slcArr (fun b cs q => by cases q), .inl ⟨rfl, rfl⟩⟩
 obtain ⟨B5, m5, g5, r5⟩ := Ao8 hin4
 obtain ⟨b14, hb14⟩ : ∃ b, b = B4.blk.length := ⟨_, rfl⟩
 rw [<- hb14] at m5 r5
 have m5 : evStore Try.prog 28 (.ptr b14 0) (.agg (mc (msgS cc.rd.me cc.rd.height (stIds cc.rd)) .snil iv4 .snil)) (B4.push ⟨mcZ, .var⟩) = some B5 := m5
 have g35 := g4.then0 g5
 have hd5 := t3.co.fr0 g35
 obtain ⟨tv5, dv5, bl5, xd5, _⟩ := hd5.cm.ex
 obtain ⟨_, B6, m6, g6, iv6, fo6, rfl, l6, n6⟩ := As0 (g35.wf wB3) hd5.rd xd5
 have hin6 : MsgIn (arrHp B6) (stMsg d0.rd) .snil iv6 .snil := ⟨rfl, .inl ⟨rfl, rfl⟩, l6.slcArr (fun b cs q => by cases q), .inl ⟨rfl, rfl⟩⟩
 obtain ⟨B7, m7, g7, r7⟩ := Ao8 hin6
 have m7 : evStore Try.prog 28 (.ptr B6.blk.length 0) (.agg (mc (msgS d0.rd.me d0.rd.height (stIds d0.rd)) .snil iv6 .snil)) (B6.push ⟨mcZ, .var⟩) = some B7 := m7
 have g57 := g6.then0 g7
 have r57 := g57.row0 r5
 have hcid : (stMsg cc.rd).id.length = 32 := rfl
 have hdid : (stMsg d0.rd).id.length = 32 := rfl
 have lm5 := ldM r57 hcid
 have lm7 := ldM r7 hdid
 have sl5 : Slc eId (arrHp B7) iv4 (stIds cc.rd) := (((l4.fr0 g5).fr0 g6).fr0 g7).slcArr (fun b cs q => by cases q)
 have sl7 : Slc eId (arrHp B7) iv6 (stIds cc.rd) := by rw [<- hids]; exact (l6.fr0 g7).slcArr (fun b cs q => by cases q)
 have hst24 : (stIds cc.rd).length <= 24 := Av4 _
 obtain ⟨_, B8, m8, g8, b8, rfl, hb8⟩ := Be9 (AQ2 B7) (x := stMsg cc.rd) (y := stMsg d0.rd) (dv := .snil) (iv := iv4) (lv := .snil) (dv' := .snil) (iv' := iv6) (lv' := .snil) ⟨rfl, .inl ⟨rfl, rfl⟩, sl5, .inl ⟨rfl, rfl⟩⟩ ⟨rfl, .inl ⟨rfl, rfl⟩, by show Slc eId (arrHp B7) iv6 (stIds d0.rd); rw [hids]; exact sl7, .inl ⟨rfl, rfl⟩⟩ (by show (stIds cc.rd).length <= _; omega) (by show ([] : List Bts).length <= _; simp)
 have hbt : b8 = true := hb8.2 hst.symm
 subst hbt
 have eqb : ∀ b : Bool, evEq Try.prog 4 (.bool b) (.bool b) = some true := fun b => by rw [BG7 Try.underlying4]; simp
 simp only [RT, Q0, Q1, Q2, Q3, Q4, Q5, Q6, Q7, Q8, he3, ix, ldB]
 refine Aa0 m2 ?_
 simp only [RT, Q0, Q1, Q2, Q3, Q4, Q5, Q6, Q7, Q8, BC8, h9]
 refine Aa0 m3 ?_
 simp only [RT, Q0, Q1, Q2, Q3, Q4, Q5, Q6, Q7, Q8, h7]
 refine Aa0 m4 ?_
 simp only [RT, Q0, Q1, Q2, Q3, Q4, Q5, Q6, Q7, Q8, zcM, <- hb14, m5]
 refine Aa0 m6 ?_
 rw [hids] at m7 ⊢
 simp only [RT, Q0, Q1, Q2, Q3, Q4, Q5, Q6, Q7, Q8, zcM, m7, eqb, lm5, lm7]
 refine Aa0 m8 ?_
 simp only [RT, Q0, Q1, Q2, Q3, Q4, Q5, Q6, Q7, Q8, Al3]
 have wB8 := g8.wf (g57.wf (g35.wf wB3))
 obtain ⟨B9, e9⟩ : ∃ B, B = B8.push ⟨bc anoBt, .arr B8.blk.length 0⟩ := ⟨_, rfl⟩
 have f9 : Fr S0 B8 B9 := by rw [e9]; exact Fr.pushArr B8 _
 have r9 : B9.blk[B8.blk.length]? = some ⟨bc anoBt, .arr B8.blk.length 0⟩ := by rw [e9]; exact Ac0 B8 _
 have w9 := f9.wf wB8
 have g39 := ((g35.then0 g57).then0 g8).then0 f9
 obtain ⟨X3, hX3⟩ : ∃ X : Nat -> Prop, X = nz Xd fk3 none none := ⟨_, rfl⟩
 have hd3 := t3.co
 rw [<- hX3] at hd3
 have hd9 := hd3.fr0 g39
 have hv9 : Slc eU8 (qHp X3 B9) (.sl B8.blk.length 0 7 1) anoBt := Bn6 (Ak6 r9 fun q => by have := hd3.xlt _ q; have := ((g35.then0 g57).then0 g8).len; omega) rfl
 have cv9 := Bg7 (P := Try.prog) (n := 6) (o := 0) Try.underlying24 Try.underlying5 r9
 obtain ⟨u10, B10, k10, fk10, ft10, fo10, s10, l10⟩ := Aq4 w9 hd9 hv9 (by decide)
 have hT0 := hB.toT (a := ownN (s2 i) i) rfl
 obtain ⟨s3, q3⟩ := AS7 hB anoBt
 have hT1 := hT0.step q3 (AS3 _ _) (AS6 _ _) s10.co.lim.sz
 rw [List.nil_append] at hT1
 have hnow0 : d0.now = 0 := by rw [hd0, Ba2]; rfl
 have hm10 : RunM X3 B9 K2 fk3 none (d0.Begin anoBt).1 0 (d0.Begin anoBt).2 B10 u10 fk10 ft10 fo10 := ⟨s10, l10, AT1 hd9.rng hd9.acts _, by rw [AS9, hnow0]; omega⟩
 have hleX : (qHp X2 B1).le (qHp X3 B9) := by
  refine Hp.le_trans (Al4 (X := X2) (Y := Xd) g2 .s0 wB fun f q => ?_) (Hp.le_trans (hX3 ▸ t3.le) (Ad8 g39))
  rw [hXd] at q
  exact q.imp id (hnew f)
 have ro3 : (roHp A).le (qHp X3 B9) := by
  refine Hp.le_trans (Hp.le_trans ro1 hM.st.le) ?_
  rw [<- hX2]
  exact hleX
 simp only [RT, Q0, Q1, Q2, Q3, Q4, Q5, Q6, Q7, Q8, BS8]
 simp only [RT, Q0, Q1, Q2, Q3, Q4, Q5, Q6, Q7, Q8, <- e9, cv9]
 refine Aa0 k10 ?_
 simp only [RT, Q0, Q1, Q2, Q3, Q4, Q5, Q6, Q7, Q8, he2, hlen2]
 refine Aa6 (fun z e B => ∃ (j : Nat) (w' : V) (cc : Co) (l : List M) (s : Nat -> Led) (fk ft fo : Option Nat), z = later.length - j /\ j <= later.length /\ e.get 116 = .int .i64 j /\ RunM X3 B9 K2 fk3 none cc j l B w' fk ft fo /\ RunT n i (ownN (s2 i) i) own s cc l /\ e.get 18 = w' /\ e.get 12 = .ptr K2.cb 0 /\ e.get 9 = w /\ e.get 14 = .ptr b14 0 /\ e.get 114 = v2 /\ e.get 115 = .int .i64 later.length)
  (fun z e B => Is z (.exit 2) /\ ∃ (w' : V) (cc : Co) (l : List M) (s : Nat -> Led) (fk ft fo : Option Nat), RunM X3 B9 K2 fk3 none cc later.length l B w' fk ft fo /\ RunT n i (ownN (s2 i) i) own s cc l /\ e.get 18 = w' /\ e.get 9 = w /\ e.get 14 = .ptr b14 0)
  ⟨_, 0, u10, _, _, s3, fk10, ft10, fo10, rfl, by omega, rfl, hm10, hT1, rfl, rfl, by assumption, rfl, rfl, rfl⟩ ?_ ?_
 . rintro z e B ⟨j, w', cd, l, s, fk, ft, fo, rfl, hj, h116, hM', hR', h18, h12, h9, h14, h114, h115⟩
   simp only [RT, Q0, Q1, Q2, Q3, Q4, Q5, Q6, Q7, Q8, h115, h116]
   refine Aa9 (fun g1 => ?_) (fun g1 => ?_)
   rotate_left
   . have : j = later.length := by omega
     subst this
     simp only [RT, Q0, Q1, Q2, Q3, Q4, Q5, Q6, Q7, Q8]
     refine ⟨rfl, w', cd, l, s, fk, ft, fo, ?_⟩
     and_intros <;> first | rfl | assumption
   obtain ⟨x, hx⟩ := Ad3 (l := later) (i := j) (by omega)
   have hxl := hl2.2 x (List.mem_of_getElem? hx)
   obtain ⟨bb, o, ccc, g3, g4, g5⟩ := (h2.mono (Hp.le_trans ro3 hM'.st.le)).at (P := Try.prog) (k := .i64) (Ag0 _ B) Try.underlying59 B05 B82 hx
   obtain ⟨dv, iv, lv, rfl, hin⟩ := Bg8 g5
   obtain ⟨C, t1, t2, t3⟩ := AZ2 (A := B) hin
   have fa := Bg9 B.blk.length
   have ld := Bh0 t3 hin.id
   have hwi : IntKind.i64.wrap ((j : Int) + 1) = ((j + 1 : Nat) : Int) := by rw [Ad5 (by omega)]
   have hj60 : j <= 500 := by have := hl2.1; omega
   by_cases c1 : x.1 = 1
   . obtain ⟨u, D, v', E, fk2, ft2, fo2, p1, p2, p3⟩ := hM'.hear w9 t2 (hin.mono (Ad8 t2)) (by omega) (by omega) hj60 (who := x.2.1)
     obtain ⟨s', q⟩ := A53 hR'.run x.2.1 x.2.2
     have hR2 := hR'.step q (A49 _ _ _) (A51 _ _ _) p3.st.co.lim.sz
     simp only [RT, Q0, Q1, Q2, Q3, Q4, Q5, Q6, Q7, Q8, h114, h116, g3, g4, Br5, t1, fa, ld, decide_eq_true c1, h18, h12]
     refine Aa0 p1 ?_
     simp only [RT, Q0, Q1, Q2, Q3, Q4, Q5, Q6, Q7, Q8, p2, h116, hwi]
     refine ⟨later.length - (j + 1), by omega, j + 1, v', _, _, s', fk2, ft2, fo2, rfl, by omega, rfl, p3, hR2, ?_⟩
     and_intros <;> first | rfl | assumption
   by_cases c2 : x.1 = 2
   . obtain ⟨u, D, v', E, fk2, ft2, fo2, p1, p2, p3⟩ := hM'.tick w9 t2 hj60
     obtain ⟨⟨s', q⟩, hp⟩ := A54 hR'.run
     have hR2 := hR'.step q hp (A52 _) p3.st.co.lim.sz
     simp only [RT, Q0, Q1, Q2, Q3, Q4, Q5, Q6, Q7, Q8, h114, h116, g3, g4, Br5, t1, fa, ld, decide_eq_false c1, decide_eq_true c2, h18, h12]
     refine Aa0 p1 ?_
     simp only [RT, Q0, Q1, Q2, Q3, Q4, Q5, Q6, Q7, Q8, p2, h116, hwi]
     refine ⟨later.length - (j + 1), by omega, j + 1, v', _, _, s', fk2, ft2, fo2, rfl, by omega, rfl, p3, hR2, ?_⟩
     and_intros <;> first | rfl | assumption
   simp only [RT, Q0, Q1, Q2, Q3, Q4, Q5, Q6, Q7, Q8, h114, h116, g3, g4, Br5, t1, fa, ld, decide_eq_false c1, decide_eq_false c2, hwi]
   refine ⟨later.length - (j + 1), by omega, j + 1, w', _, _, s, fk, ft, fo, rfl, by omega, rfl, hM'.idle t2, hR', ?_⟩
   and_intros <;> first | rfl | assumption
 rintro z e D hz ⟨rfl, wt, cd, told, sd, fkd, ftd, fod, hMd, hRd, h18, h9, h14⟩
 have wD := hMd.st.wf w9
 have hlt2 : told.length <= 6100000 := by have := hMd.len; have := hl2.1; omega
 have hK2 := hD.lt
 have hg24 := g13.len
 have hg25 := g4.len
 have hbb : b14 ≠ K2.cb /\ b14 ≠ K2.rp := by have := g2.len; have := t3.fr.len; omega
 have r59 := f9.row0 (g8.row0 r57)
 have r5D := hMd.st.fr.row _ _ r59 (TM.box r59 (by rintro (q | q); exact hbb.1 q; exact hbb.2 q))
 have l4D : Lst eId Hp.emp D iv4 (stIds cc.rd) fo4 := (((((l4.fr0 g5).fr0 g6).fr0 g7).fr0 g8).fr0 f9).fr hMd.st.fr (TM.off fun f q z => by
  have := n4 f q
  have := hd3.xlt f (hd3.sub f z)
  omega)
 obtain ⟨Yd, hYd⟩ : ∃ Y : Nat -> Prop, Y = nz X3 fkd ftd fod := ⟨_, rfl⟩
 have hLt := hMd.lst
 rw [<- hYd] at hLt
 have hlent := fun B => hLt.len (P := Try.prog) Try.underlying34 B
 have fm14 := faM b14
 simp only [RT, Q0, Q1, Q2, Q3, Q4, Q5, Q6, Q7, Q8, h18, hlent]
 refine Aa6 (fun z e B => ∃ (j : Nat), z = told.length - j /\ j <= told.length /\ e.get 141 = .int .i64 j /\ e.get 18 = wt /\ e.get 9 = w /\ e.get 14 = .ptr b14 0 /\ e.get 139 = wt /\ e.get 140 = .int .i64 told.length /\ Fr S0 D B)
  (fun z e B => Is z (.exit 4) /\ e.get 18 = wt /\ e.get 9 = w /\ Fr S0 D B)
  ⟨_, 0, rfl, by omega, rfl, by assumption, by assumption, by assumption, rfl, rfl, .refl _ _⟩ ?_ ?_
 . rintro z e E ⟨j, rfl, hj, h141, h18, h9, h14, h139, h140, hf⟩
   simp only [RT, Q0, Q1, Q2, Q3, Q4, Q5, Q6, Q7, Q8, h140, h141]
   refine Aa9 (fun g1 => ?_) (fun g1 => ?_)
   rotate_left
   . simp only [RT, Q0, Q1, Q2, Q3, Q4, Q5, Q6, Q7, Q8]
     refine ⟨rfl, ?_⟩
     and_intros <;> first | rfl | assumption
   obtain ⟨x, hx⟩ := Ad3 (l := told) (i := j) (by omega)
   have hxm := List.mem_of_getElem? hx
   obtain ⟨bb, o, dv, iv, lv, g3, g4', hin⟩ := Br3 (hLt.fr0 hf) ((Ag0 Yd D).fr0 hf) hx
   obtain ⟨F, t1, t2, t3'⟩ := Ao8 (A := E) hin
   have fm := faM E.blk.length
   have lm := ldM t3' hin.id
   have hfF := hf.then0 t2
   have lm14 := ldM (hfF.row0 r5D) hcid
   have hwi : IntKind.i64.wrap ((j : Int) + 1) = ((j + 1 : Nat) : Int) := by rw [Ad5 (by omega)]
   by_cases k4 : x.kind = 4
   rotate_left
   . simp only [RT, Q0, Q1, Q2, Q3, Q4, Q5, Q6, Q7, Q8, h139, h141, g3, g4', zcM, t1, fm, lm, decide_eq_false k4, h141, hwi]
     refine ⟨told.length - (j + 1), by omega, j + 1, rfl, by omega, ?_⟩
     and_intros <;> first | rfl | assumption
   have hrec := (hRd.run.rec_ x (List.mem_append_right _ hxm)).1
   obtain ⟨_, G, p1, p2, rfl⟩ := AZ3 (AQ2 F) (v := iv4) (v' := iv) (a := stIds cc.rd) (b := x.ids) ((l4D.fr0 hfF).slcArr (fun b cs q => by cases q)) (hin.ids.mono (Hp.le_trans (Ad8 hfF) (BI9 Yd F))) (by omega) hrec.1 (fun y hy => by
    have hy : vtN (stIds cc.rd) y ≠ z32 := hy
    show vtN x.ids y = vtN (stIds cc.rd) y
    rw [hvt] at hy ⊢
    exact hRd.beg x hxm k4 y hy)
   simp only [RT, Q0, Q1, Q2, Q3, Q4, Q5, Q6, Q7, Q8, h139, h141, g3, g4', zcM, t1, fm, lm, decide_eq_true k4, h14, fm14, lm14]
   refine Aa0 p1 ?_
   simp only [RT, Q0, Q1, Q2, Q3, Q4, Q5, Q6, Q7, Q8, Al3, h141, hwi]
   have hfG := hfF.then0 p2
   refine ⟨told.length - (j + 1), by omega, j + 1, rfl, by omega, ?_⟩
   and_intros <;> first | rfl | assumption
 rintro z e E hz ⟨rfl, h18, h9, hf⟩
 have hfk3 : ∀ f, fk3 = some f -> B1.blk.length <= f := fun f q => by
  rcases t3.g1.or q with y | y
  . cases y
  . have := g2.len; omega
 have gB9 := g13.then0 g39
 have gBD : Fr S0 B1 D := gB9.trans hMd.st.fr fun x q => .inr (hN2.new wB gB9 hfk3 (fun f q => by cases q) q)
 have gBE := gBD.then0 hf
 have hleD := hMd.st.le
 rw [<- hYd] at hleD
 have hlO := hM.lst
 rw [<- hX2] at hlO
 have hO : Lst eMsg (qHp Yd E) E w own fo := (hlO.fr0 gBE).mono (Hp.le_trans (Hp.le_trans hleX hleD) (Ad8 hf))
 have hT := CStep.lst0 hLt hf
 obtain ⟨cs', y1, y2⟩ := hT.src (P := Try.prog) (tx := 34) Try.underlying34
 obtain ⟨v', G, fo', p1, p2, p3, p4⟩ := hO.app (P := Try.prog) (t := 34) (tx := 34) (e := 28) B96 (hf.wf wD) y1 y2 (by omega) (by omega)
 have hfoY : ∀ f, fo = some f -> Yd f := fun f q => by
  rw [hYd]
  refine .inl ?_
  rw [hX3]
  refine .inl ?_
  rw [hXd]
  refine .inl ?_
  rw [hX2]
  exact .inr (.inr (.inr q))
 have hleG : (qHp Yd E).le (qHp Yd G) := Al4 p3 (.famO hfoY) (hf.wf wD) fun f q => .inl q
 obtain ⟨_, J, z1, z2, rfl⟩ := AH4 (Ag0 Yd G) (p2.mono hleG) hRd.run.props (by rw [List.length_append]; omega) (g := fun r => (cd.rd.offers r.toNat).id)
 simp only [RT, Q0, Q1, Q2, Q3, Q4, Q5, Q6, Q7, Q8, h9, h18, p1]
 refine Aa0 z1 ?_
 simp only [RT, Q0, Q1, Q2, Q3, Q4, Q5, Q6, Q7, Q8]
end
end Go.Sv.Try
