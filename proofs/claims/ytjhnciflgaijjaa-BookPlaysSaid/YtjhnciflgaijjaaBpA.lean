/- The document's book: finding, leaves, roots, heads, sameness. -/
import Derived.Test.YtjhnciflgaijjaaAbC
import Derived.Test.YtjhnciflgaijjaaBkB
set_option linter.unusedSimpArgs false
set_option linter.unusedVariables false
open Nat renaming reduceLT → Q0, reduceBEq → Q1, reduceEqDiff → Q2, reduceAdd → Q3
open Int renaming reduceEq → Q4, reduceLT → Q5, reduceLE → Q6, reduceGT → Q7, reduceGE → Q8
namespace Go.Sv.Try
open Go Go.Proofs
theorem Ax1 {n : Int × Int} {y : Bts} : ∀ {L : List Bts} {i : Nat} (k : Nat), (∀ x ∈ L.take i, nmOf x ≠ n) -> L[i]? = some y -> nmOf y = n -> lookL ((L.zipIdx k).map fun p => (nmOf p.1, p.2)) n = some (k + i)
 | [], i, k, _, h, _ => by simp at h
 | x :: L, 0, k, _, h, hy => by
  have h : x = y := by simpa using h
  subst h
  show lookL ((nmOf x, k) :: _) n = _
  unfold lookL
  rw [if_pos hy.symm]; rfl
 | x :: L, i + 1, k, hn, h, hy => by
  show lookL ((nmOf x, k) :: (L.zipIdx (k + 1)).map fun p => (nmOf p.1, p.2)) n = _
  unfold lookL
  rw [if_neg fun q => hn x (by simp) q.symm, Ax1 (i := i) (k + 1) (fun z hz => hn z (by simp [hz])) (by simpa using h) hy]
  congr 1; omega
theorem AT3 {n : Int × Int} : ∀ {L : List Bts} (k : Nat), (∀ x ∈ L, nmOf x ≠ n) -> lookL ((L.zipIdx k).map fun p => (nmOf p.1, p.2)) n = none
 | [], k, _ => rfl
 | x :: L, k, hn => by
  show lookL ((nmOf x, k) :: (L.zipIdx (k + 1)).map fun p => (nmOf p.1, p.2)) n = _
  unfold lookL
  rw [if_neg fun q => hn x (by simp) q.symm]
  exact AT3 (k + 1) fun z hz => hn z (by simp [hz])
noncomputable def findR (L : List Bts) (n : Int × Int) : Int := match lookL (mapOf L) n with
 | some i => (i : Int)
 | none => -1
theorem Bo0 {L : List Bts} {n : Int × Int} {i : Nat} {y : Bts} (h1 : ∀ x ∈ L.take i, nmOf x ≠ n) (h2 : L[i]? = some y) (h3 : nmOf y = n) : findR L n = i := by
 unfold findR mapOf; rw [Ax1 0 h1 h2 h3]; simp
theorem Bo1 {L : List Bts} {n : Int × Int} (h : ∀ x ∈ L, nmOf x ≠ n) : findR L n = -1 := by
 unfold findR mapOf; rw [AT3 0 h]
def sinceR (Ss : List Int) (k : Int) : Int := if k < 0 then 0 else match Ss.findIdx? fun s => decide (s > k) with
 | some i => ((i + 1 : Nat) : Int)
 | none => 0
section
variable {A B C : AS} {m : Hp} {lv sv : V} {L : List Bts} {Ss : List Int}
theorem BF8 (b : Nat) : evFieldAddr Try.prog 99 (.ptr b 0) 0 = some (.ptr b 0) /\ evFieldAddr Try.prog 99 (.ptr b 0) 1 = some (.ptr b 1) := ⟨by kernel_rfl, by kernel_rfl⟩
theorem AX9 {b : Nat} {k : BK} (h : A.blk[b]? = some ⟨[lv, sv], k⟩) : evLoad Try.prog 43 (.ptr b 0) A = some lv /\ evLoad Try.prog 52 (.ptr b 1) A = some sv /\ evLoad Try.prog 99 (.ptr b 0) A = some (.agg [lv, sv]) := by
 refine ⟨by rw [An5 B61, AF1 h]; rfl, by rw [An5 B64, AF1 h]; rfl, ?_⟩
 exact AL6 (P := Try.prog) B69 B23 h rfl
set_option maxRecDepth 10000 in
set_option maxHeartbeats 8000000 in
theorem Az3 (hw : WF A) (hm : m.on A) (hl : Slc eStr m lv L) (hE : ∀ x ∈ L, entC x = 0) (hL : L.length <= 1000) (who num : Int) :
 ∃ w A', EvF Try.prog HH 77 [.agg [lv, sv], .int .i64 who, .int .i64 num] A w A' /\ Fr S0 A A' /\ w = .int .i64 (findR L (who, num)) := by
 refine Aa5 rfl Try.func77 (by unfold Try.f77; rfl) Try.ntmps77 (by unfold Try.f77; rfl) (by simp) ?_
 obtain ⟨A1, e1, f1, r1, n1⟩ := Aa8 A [lv, sv]
 obtain ⟨b3, hb3⟩ : ∃ b, b = A.blk.length := ⟨_, rfl⟩
 rw [<- hb3] at r1
 have fa := BF8 b3
 have hlen := fun B => hl.len (P := Try.prog) Try.underlying43 B
 simp only [RT, Q0, Q1, Q2, Q3, Q4, Q5, Q6, Q7, Q8, <- e1, <- hb3]
 refine Aa2 (fun z e B => ∃ i : Nat, z = L.length - i /\ i <= L.length /\ e.get 7 = .int .i64 i /\ e.get 1 = .int .i64 who /\ e.get 2 = .int .i64 num /\ e.get 3 = .ptr b3 0 /\ Fr S0 A1 B /\ ∀ x ∈ L.take i, nmOf x ≠ (who, num))
  (fun z e B => Fr S0 A1 B /\ ((Is z (.exit 0) /\ ∀ x ∈ L, nmOf x ≠ (who, num)) ∨ (Is z .ret /\ e.get 6 = .int .i64 (findR L (who, num)))))
  ⟨_, 0, rfl, by omega, rfl, rfl, rfl, rfl, .refl _ _, by simp⟩ ?_ ?_
 . rintro z e B ⟨i, rfl, hi, h7, h1, h2, h3, hf, hn⟩
   have rB := hf.row0 r1
   simp only [RT, Q0, Q1, Q2, Q3, Q4, Q5, Q6, Q7, Q8, h7, h3, fa, AX9 rB, hlen]
   refine Aa1 (fun q1 => ?_) (fun q1 => ?_)
   rotate_left
   . have : i = L.length := by omega
     subst this
     rw [List.take_length] at hn
     simp only [RT, Q0, Q1, Q2, Q3, Q4, Q5, Q6, Q7, Q8]
     exact ⟨hf, .inl ⟨rfl, hn⟩⟩
   obtain ⟨y, hy⟩ := Ac7 (l := L) (i := i) (by omega)
   have hye := hE y (List.mem_of_getElem? hy)
   obtain ⟨b, o, c, g1, g2, g3⟩ := hl.at (P := Try.prog) (k := .i64) ((hm.fr0 f1).fr0 hf) Try.underlying43 sz9 ag9 hy
   rw [AW7.1 g3] at g2
   obtain ⟨_, C, k1, j1, X, dv, iv, lw, rfl, z1, z2⟩ := As6 (b := y) ((f1.then0 hf).wf hw) (by have := AC9 hye; omega)
   have hX := z2 hye
   have hnm : (X.who, X.num) = nmOf y := by rw [hX]; rfl
   obtain ⟨D, t1, t2, t3⟩ := Ap6 (A := C) z1
   have ld := ldM t3 z1.id
   have fam := faM C.blk.length
   have fD := (hf.then0 j1).then0 t2
   have wi : IntKind.i64.wrap ((i : Int) + 1) = ((i + 1 : Nat) : Int) := by rw [Ad7 (by omega)]
   simp only [RT, Q0, Q1, Q2, Q3, Q4, Q5, Q6, Q7, Q8, h3, fa, AX9 rB, h7, g1, g2]
   refine Aa0 k1 ?_
   have next : nmOf y ≠ (who, num) -> ∀ x ∈ L.take (i + 1), nmOf x ≠ (who, num) := fun hne x hx => by
    rw [Ac9 hy] at hx
    rcases List.mem_append.1 hx with hx | hx
    . exact hn x hx
    . rw [List.mem_singleton.1 hx]; exact hne
   by_cases c1 : X.who = who
   . by_cases c2 : X.num = num
     . have hres : findR L (who, num) = i := Bo0 hn hy (by rw [<- hnm, c1, c2])
       simp only [RT, Q0, Q1, Q2, Q3, Q4, Q5, Q6, Q7, Q8, zcM, t1, fam, ld, h1, h2, decide_eq_true c1, decide_eq_true c2, h7]
       rw [hres]
       exact ⟨fD, .inr ⟨rfl, rfl⟩⟩
     . have hne := next fun q => c2 (by rw [<- hnm] at q; exact (Prod.mk.inj q).2)
       simp only [RT, Q0, Q1, Q2, Q3, Q4, Q5, Q6, Q7, Q8, zcM, t1, fam, ld, h1, h2, decide_eq_true c1, decide_eq_false c2, h7, wi]
       refine ⟨L.length - (i + 1), by omega, i + 1, rfl, by omega, ?_⟩
       and_intros <;> first | rfl | assumption
   . have hne := next fun q => c1 (by rw [<- hnm] at q; exact (Prod.mk.inj q).1)
     simp only [RT, Q0, Q1, Q2, Q3, Q4, Q5, Q6, Q7, Q8, zcM, t1, fam, ld, h1, h2, decide_eq_false c1, h7, wi]
     refine ⟨L.length - (i + 1), by omega, i + 1, rfl, by omega, ?_⟩
     and_intros <;> first | rfl | assumption
 . rintro z e B hz ⟨hf, ⟨rfl, hn⟩ | ⟨rfl, h6⟩⟩
   . simp only [RT, Q0, Q1, Q2, Q3, Q4, Q5, Q6, Q7, Q8]
     rw [Bo1 hn]
     exact ⟨f1.then0 hf, rfl⟩
   . simp only [RT, Q0, Q1, Q2, Q3, Q4, Q5, Q6, Q7, Q8, h6]
     exact f1.then0 hf
set_option maxRecDepth 10000 in
set_option maxHeartbeats 8000000 in
theorem Ar8 (hw : WF A) (hm : m.on A) (hl : Slc eStr m lv L) (hx : ∀ x ∈ L, x.length <= 1000000000) (hL : L.length <= 1000000) {n : Nat} (hn : n <= L.length) :
 ∃ w A', EvF Try.prog HH 78 [.agg [lv, sv], .int .i64 (n : Int)] A w A' /\ Fr S0 A A' /\ ∃ fo, Lst eI Hp.emp A' w ((L.take n).map leafH) fo /\ ∀ f, fo = some f -> A.blk.length <= f := by
 refine Aa5 rfl Try.func78 (by unfold Try.f78; rfl) Try.ntmps78 (by unfold Try.f78; rfl) (by simp) ?_
 obtain ⟨A1, e1, f1, r1, n1⟩ := Aa8 A [lv, sv]
 obtain ⟨b3, hb3⟩ : ∃ b, b = A.blk.length := ⟨_, rfl⟩
 rw [<- hb3] at r1
 have fa := BF8 b3
 have w1 := f1.wf hw
 simp only [RT, Q0, Q1, Q2, Q3, Q4, Q5, Q6, Q7, Q8, <- e1, <- hb3]
 refine Aa2 (fun z e B => ∃ (i : Nat) (w : V) (fo : Option Nat), z = n - i /\ i <= n /\ e.get 6 = .int .i64 i /\ e.get 1 = .int .i64 (n : Int) /\ e.get 2 = .ptr b3 0 /\ e.get 5 = w /\ Fr S0 A1 B /\ Lst eI Hp.emp B w ((L.take i).map leafH) fo /\ ∀ f, fo = some f -> A1.blk.length <= f)
  (fun z e B => Is z (.exit 0) /\ ∃ (w : V) (fo : Option Nat), e.get 5 = w /\ Fr S0 A1 B /\ Lst eI Hp.emp B w ((L.take n).map leafH) fo /\ ∀ f, fo = some f -> A1.blk.length <= f)
  ⟨_, 0, .snil, none, rfl, by omega, rfl, rfl, rfl, rfl, .refl _ _, .nil, fun f q => by cases q⟩ ?_ ?_
 . rintro z e B ⟨i, w, fo, rfl, hi, h6, h1, h2, h5, hf, hLs, hfo⟩
   have rB := hf.row0 r1
   simp only [RT, Q0, Q1, Q2, Q3, Q4, Q5, Q6, Q7, Q8, h6, h1]
   refine Aa1 (fun q1 => ?_) (fun q1 => ?_)
   rotate_left
   . have : i = n := by omega
     subst this
     simp only [RT, Q0, Q1, Q2, Q3, Q4, Q5, Q6, Q7, Q8]
     exact ⟨rfl, w, fo, h5, hf, hLs, hfo⟩
   obtain ⟨y, hy⟩ := Ac7 (l := L) (i := i) (by omega)
   have hyl := hx y (List.mem_of_getElem? hy)
   obtain ⟨b, o, c, g1, g2, g3⟩ := hl.at (P := Try.prog) (k := .i64) ((hm.fr0 f1).fr0 hf) Try.underlying43 sz9 ag9 hy
   rw [AW7.1 g3] at g2
   have wB := hf.wf w1
   obtain ⟨_, C, k1, f2, rfl⟩ := AS0 (A := B) (x := y) wB (by omega)
   obtain ⟨v4, D, fo', p1, p2, p3, p4⟩ := (hLs.fr0 f2).push (P := Try.prog) (t := 36) (tx := 36) (n := 32) rfl BQ8 Try.underlying36 (f2.wf wB) (y := leafH y) (cs' := bc (leafH y)) ⟨rfl, Am4 y⟩ (by rw [List.length_map, List.length_take]; omega) (by rw [List.length_map, List.length_take]; omega)
   have wi : IntKind.i64.wrap ((i : Int) + 1) = ((i + 1 : Nat) : Int) := by rw [Ad7 (by omega)]
   simp only [RT, Q0, Q1, Q2, Q3, Q4, Q5, Q6, Q7, Q8, h5, h2, fa, AX9 rB, h6, g1, g2]
   refine Aa0 k1 ?_
   simp only [RT, Q0, Q1, Q2, Q3, Q4, Q5, Q6, Q7, Q8, Bx2 (Am4 y), p1, h6, wi]
   have hfC := hf.then0 f2
   have hfD : Fr S0 A1 D := hfC.newFam w1 p3 hfo
   have hfo' : ∀ f, fo' = some f -> A1.blk.length <= f := fun f q => by
    rcases p4.or q with y | y
    . exact hfo f y
    . have := hfC.len; omega
   have e : (L.take i).map leafH ++ [leafH y] = (L.take (i + 1)).map leafH := by rw [Ac9 hy]; simp
   rw [e] at p2
   refine ⟨n - (i + 1), by omega, i + 1, v4, fo', rfl, by omega, ?_⟩
   and_intros <;> first | rfl | assumption
 . rintro z e B hz ⟨rfl, w, fo, h5, hf, hLs, hfo⟩
   simp only [RT, Q0, Q1, Q2, Q3, Q4, Q5, Q6, Q7, Q8, h5]
   exact ⟨f1.then0 hf, fo, hLs, fun f q => by have := hfo f q; have := f1.len; omega⟩
theorem AG1 (hw : WF A) (hm : m.on A) (hl : Slc eStr m lv L) (hx : ∀ x ∈ L, x.length <= 1000000000) (hL : L.length <= 1000000) (h1 : lv.one = true) (h2 : sv.one = true) {n : Nat} (hn : n <= L.length) :
 ∃ w A', EvF Try.prog HH 51 [.agg [lv, sv], .int .i64 (n : Int)] A w A' /\ Fr S0 A A' /\ w = .agg (bc (rootR ((L.take n).map leafH))) := by
 refine Aa5 rfl Try.func51 (by unfold Try.f51; rfl) Try.ntmps51 (by unfold Try.f51; rfl) (by simp) ?_
 obtain ⟨A1, e1, f1, r1, n1⟩ := Aa8 A [lv, sv]
 obtain ⟨b3, hb3⟩ : ∃ b, b = A.blk.length := ⟨_, rfl⟩
 rw [<- hb3] at r1
 obtain ⟨A2, e2, f2, r2, n2⟩ := Aa8 A1 (bc z32s)
 obtain ⟨b4, hb4⟩ : ∃ b, b = A1.blk.length := ⟨_, rfl⟩
 rw [<- hb4] at r2
 have f12 := f1.then0 f2
 obtain ⟨_, A3, k3, f3, fo, q1, q2⟩ := Ar8 (sv := sv) (f12.wf hw) (hm.fr0 f12) hl hx hL hn
 have q1 := q1.slcArr (fun _ _ q => by cases q)
 have f13 := f12.then0 f3
 obtain ⟨_, A4, k4, f4, rfl⟩ := AS4 (m := arrHp A3) n (by rw [List.length_map, List.length_take]; omega) (by rw [List.length_map, List.length_take]; omega) (f13.wf hw) (Af7 A3) q1
 have hr32 : (rootR ((L.take n).map leafH)).length = 32 := Af1 fun y hy => by
  obtain ⟨b, _, rfl⟩ := List.mem_map.1 hy
  exact Am4 b
 have rA := f4.row0 (f3.row0 r2)
 obtain ⟨A5, s1, s2, s3⟩ := A56 rA (show z32s.length = 32 from rfl) hr32
 simp only [RT, Q0, Q1, Q2, Q3, Q4, Q5, Q6, Q7, Q8, <- e1, <- hb3, AR8, <- e2, <- hb4, AX9 (f2.row0 r1)]
 refine Aa0 k3 ?_
 simp only [RT, Q0, Q1, Q2, Q3, Q4, Q5, Q6, Q7, Q8]
 refine Aa0 k4 ?_
 simp only [RT, Q0, Q1, Q2, Q3, Q4, Q5, Q6, Q7, Q8, s1, ldI s3 hr32]
 exact (f13.then0 f4).row_ s2 (by rw [hb4]; exact f1.len)
set_option maxRecDepth 10000 in
theorem AM4 (hm : m.on A) (hs : Slc (eInt .i64) m sv Ss) (hS : Ss.length <= 1000000) (k : Int) :
 ∃ w A', EvF Try.prog HH 81 [.agg [lv, sv], .int .i64 k] A w A' /\ Fr S0 A A' /\ w = .int .i64 (sinceR Ss k) := by
 refine Aa5 rfl Try.func81 (by unfold Try.f81; rfl) Try.ntmps81 (by unfold Try.f81; rfl) (by simp) ?_
 obtain ⟨A1, e1, f1, r1, n1⟩ := Aa8 A [lv, sv]
 obtain ⟨b3, hb3⟩ : ∃ b, b = A.blk.length := ⟨_, rfl⟩
 rw [<- hb3] at r1
 have fa := BF8 b3
 have ld := AX9 r1
 have hlen := fun B => hs.len (P := Try.prog) Try.underlying52 B
 simp only [RT, Q0, Q1, Q2, Q3, Q4, Q5, Q6, Q7, Q8, <- e1, <- hb3]
 refine Aa2 (fun z e B => B = A1 /\ ∃ i : Nat, z = Ss.length - i /\ i <= Ss.length /\ e.get 5 = .int .i64 i /\ e.get 1 = .int .i64 k /\ e.get 2 = .ptr b3 0 /\ (k < 0 ∨ ∀ x ∈ Ss.take i, ¬ x > k))
  (fun z e B => B = A1 /\ ((Is z (.exit 0) /\ sinceR Ss k = 0) ∨ (Is z .ret /\ e.get 4 = .int .i64 (sinceR Ss k))))
  ⟨_, rfl, 0, rfl, by omega, rfl, rfl, rfl, .inr (by simp)⟩ ?_ ?_
 . rintro z e B ⟨rfl, i, rfl, hi, h5, h1, h2, hn⟩
   simp only [RT, Q0, Q1, Q2, Q3, Q4, Q5, Q6, Q7, Q8, h5, h2, fa, ld, hlen]
   refine Aa1 (fun q1 => ?_) (fun q1 => ?_)
   rotate_left
   . have : i = Ss.length := by omega
     subst this
     simp only [RT, Q0, Q1, Q2, Q3, Q4, Q5, Q6, Q7, Q8]
     refine .inl ⟨rfl, ?_⟩
     unfold sinceR
     rcases hn with q | q
     . exact if_pos q
     . rw [List.take_length] at q
       split
       . rfl
       . rw [List.findIdx?_eq_none_iff.2 fun x hx => by simpa using q x hx]
   obtain ⟨y, hy⟩ := Ac7 (l := Ss) (i := i) (by omega)
   obtain ⟨b, o, c, g1, g2, g3⟩ := hs.at (P := Try.prog) (k := .i64) (hm.fr0 f1) Try.underlying52 sz3 ag3 hy
   rw [Bw1.1 g3] at g2
   have wi : IntKind.i64.wrap ((i : Int) + 1) = ((i + 1 : Nat) : Int) := by rw [Ad7 (by omega)]
   by_cases c1 : k >= 0
   rotate_left
   . have hneg : k < 0 ∨ ∀ x ∈ Ss.take (i + 1), ¬ x > k := .inl (by omega)
     simp only [RT, Q0, Q1, Q2, Q3, Q4, Q5, Q6, Q7, Q8, h1, decide_eq_false c1, h5, wi]
     refine ⟨Ss.length - (i + 1), by omega, i + 1, rfl, by omega, ?_⟩
     and_intros <;> first | rfl | assumption
   have hn : ∀ x ∈ Ss.take i, ¬ x > k := hn.resolve_left (by omega)
   by_cases c2 : y > k
   . have hres : sinceR Ss k = ((i + 1 : Nat) : Int) := by
      unfold sinceR
      rw [if_neg (by omega)]
      have : Ss.findIdx? (fun s => decide (s > k)) = some i := by
       rw [List.findIdx?_eq_some_iff_getElem]
       have h := List.getElem?_eq_some_iff.1 hy
       refine ⟨h.1, by rw [h.2]; exact decide_eq_true c2, fun j hj => ?_⟩
       have := hn Ss[j] (List.mem_of_getElem? (i := j) (by rw [List.getElem?_take_of_lt hj]; exact List.getElem?_eq_getElem _))
       simpa using this
      rw [this]
     simp only [RT, Q0, Q1, Q2, Q3, Q4, Q5, Q6, Q7, Q8, h1, decide_eq_true c1, h2, fa, ld, h5, g1, g2, decide_eq_true c2, wi]
     exact .inr ⟨rfl, by rw [hres]⟩
   . have hneg : k < 0 ∨ ∀ x ∈ Ss.take (i + 1), ¬ x > k := .inr fun x hx => by
      rw [Ac9 hy] at hx
      rcases List.mem_append.1 hx with hx | hx
      . exact hn x hx
      . rw [List.mem_singleton.1 hx]; exact c2
     simp only [RT, Q0, Q1, Q2, Q3, Q4, Q5, Q6, Q7, Q8, h1, decide_eq_true c1, h2, fa, ld, h5, g1, g2, decide_eq_false c2, wi]
     refine ⟨Ss.length - (i + 1), by omega, i + 1, rfl, by omega, ?_⟩
     and_intros <;> first | rfl | assumption
 . rintro z e B hz ⟨rfl, ⟨rfl, hn⟩ | ⟨rfl, h4⟩⟩
   . simp only [RT, Q0, Q1, Q2, Q3, Q4, Q5, Q6, Q7, Q8]
     rw [hn]
     exact ⟨f1, rfl⟩
   . simp only [RT, Q0, Q1, Q2, Q3, Q4, Q5, Q6, Q7, Q8, h4]
     exact f1
set_option maxRecDepth 10000 in
theorem A09 {v u : V} {a b : List Bts} (hm : m.on A) (ha : Slc eI m v a) (hb : Slc eI m u b) (hl : a.length <= 1000000) (hl' : b.length <= 1000000) :
 ∃ w A', EvF Try.prog HH 79 [v, u] A w A' /\ A' = A /\ w = .bool (decide (a = b)) := by
 refine Aa5 rfl Try.func79 (by unfold Try.f79; rfl) Try.ntmps79 (by unfold Try.f79; rfl) (by simp) ?_
 have hla := fun B => ha.len (P := Try.prog) Try.underlying36 B
 have hlb := fun B => hb.len (P := Try.prog) Try.underlying36 B
 by_cases c1 : a.length = b.length
 rotate_left
 . have : ¬ a = b := fun q => c1 (by rw [q])
   simp only [RT, Q0, Q1, Q2, Q3, Q4, Q5, Q6, Q7, Q8, hla, hlb, decide_eq_true (show ¬ ((a.length : Int) = (b.length : Int)) by omega)]
   rw [decide_eq_false this]
 simp only [RT, Q0, Q1, Q2, Q3, Q4, Q5, Q6, Q7, Q8, hla, hlb, decide_eq_false (show ¬ ¬ ((a.length : Int) = (b.length : Int)) by omega)]
 refine Aa2 (fun z e B => B = A /\ ∃ i : Nat, z = a.length - i /\ i <= a.length /\ e.get 5 = .int .i64 i /\ e.get 0 = v /\ e.get 1 = u /\ a.take i = b.take i)
  (fun z e B => B = A /\ ((Is z (.exit 0) /\ a = b) ∨ (Is z .ret /\ e.get 4 = .bool false /\ ¬ a = b)))
  ⟨_, rfl, 0, rfl, by omega, rfl, rfl, rfl, rfl⟩ ?_ ?_
 . rintro z e B ⟨rfl, i, rfl, hi, h5, h0, h1, ht⟩
   simp only [RT, Q0, Q1, Q2, Q3, Q4, Q5, Q6, Q7, Q8, h5, h0, hla]
   refine Aa1 (fun q1 => ?_) (fun q1 => ?_)
   rotate_left
   . have : i = a.length := by omega
     subst this
     rw [List.take_length, List.take_of_length_le (by omega)] at ht
     simp only [RT, Q0, Q1, Q2, Q3, Q4, Q5, Q6, Q7, Q8]
     exact .inl ⟨rfl, ht⟩
   obtain ⟨x, hx⟩ := Ac7 (l := a) (i := i) (by omega)
   obtain ⟨y, hy⟩ := Ac7 (l := b) (i := i) (by omega)
   obtain ⟨b1, o1, c1', g1, g2, g3⟩ := ha.at (P := Try.prog) (k := .i64) hm Try.underlying36 Ay4 AY0 hx
   obtain ⟨b2, o2, c2', y1, y2, y3⟩ := hb.at (P := Try.prog) (k := .i64) hm Try.underlying36 Ay4 AY0 hy
   obtain ⟨rfl, hx32⟩ := Bx1.1 g3
   obtain ⟨rfl, hy32⟩ := Bx1.1 y3
   have wi : IntKind.i64.wrap ((i : Int) + 1) = ((i + 1 : Nat) : Int) := by rw [Ad7 (by omega)]
   simp only [RT, Q0, Q1, Q2, Q3, Q4, Q5, Q6, Q7, Q8]
   rw [BF0, Aa7 (by rfl)]
   by_cases c2 : x = y
   . subst c2
     have ht' : a.take (i + 1) = b.take (i + 1) := by rw [Ac9 hx, Ac9 hy, ht]
     simp only [RT, Q0, Q1, Q2, Q3, Q4, Q5, Q6, Q7, Q8, h0, h5, g1, g2, h1, y1, y2, BU3 hx32 hx32, wi]
     refine ⟨a.length - (i + 1), by omega, i + 1, rfl, by omega, ?_⟩
     and_intros <;> first | rfl | assumption
   . simp only [RT, Q0, Q1, Q2, Q3, Q4, Q5, Q6, Q7, Q8, h0, h5, g1, g2, h1, y1, y2, BU3 hx32 hy32, decide_eq_false c2]
     refine .inr ⟨rfl, fun q => c2 ?_⟩
     rw [q, hy] at hx
     exact (Option.some.inj hx).symm
 . rintro z e B hz ⟨rfl, ⟨rfl, h⟩ | ⟨rfl, h4, h⟩⟩
   . simp only [RT, Q0, Q1, Q2, Q3, Q4, Q5, Q6, Q7, Q8]
     rw [decide_eq_true h]
   . simp only [RT, Q0, Q1, Q2, Q3, Q4, Q5, Q6, Q7, Q8, h4]
     rw [decide_eq_false h]
end
end Go.Sv.Try
namespace Go.Sv.Try
open Go Go.Proofs
section
variable {A B C : AS} {m : Hp} {lv sv : V} {L : List Bts} {Ss : List Int}
theorem By0 : bsl Try.prog 43 0 (some []) = some (.newSl [] 0 1) := by kernel_rfl
theorem BV6 : bsl Try.prog 52 0 (some []) = some (.newSl [] 0 1) := by kernel_rfl
theorem BV7 (n : Int) : bsl Try.prog 52 1 (some [(0, .int .i64 n)]) = some (.newSl [.int .i64 n] 1 1) := by kernel_rfl
theorem BJ7 {v : V} (h : v = .snil ∨ ∃ b o n z, v = .sl b o n z) : evBuild Try.prog 99 [(0, v)] = some (.agg [v, .snil]) := by
 rcases h with rfl | ⟨_, _, _, _, rfl⟩ <;> kernel_rfl
theorem BJ8 {v w : V} (h : v = .snil ∨ ∃ b o n z, v = .sl b o n z) (h' : w = .snil ∨ ∃ b o n z, w = .sl b o n z) : evBuild Try.prog 99 [(0, v), (1, w)] = some (.agg [v, w]) := by
 rcases h with rfl | ⟨_, _, _, _, rfl⟩ <;> rcases h' with rfl | ⟨_, _, _, _, rfl⟩ <;> kernel_rfl
theorem BJ9 {b : Nat} {v w v' w' : V} (h : A.blk[b]? = some ⟨[v, w], .var⟩) (h1 : v'.one = true) (h2 : w'.one = true) : ∃ A', evStore Try.prog 99 (.ptr b 0) (.agg [v', w']) A = some A' /\ Fr (· = .row b) A A' /\ A'.blk[b]? = some ⟨[v', w'], .var⟩ := by
 obtain ⟨A', s1, s2, s3, s4⟩ := Ab9 (P := Try.prog) (t := 99) (o := 0) (x := .agg [v', w']) (cs := [v', w']) h rfl B23 (by simp) (by simp [h1, h2])
 rw [Ab3 (by rfl)] at s3
 exact ⟨A', s1, s2, s3⟩
theorem B15 : (zeroT Try.prog 99).bind V.cells = some [.snil, .snil] := B70
theorem AT4 {n : Int × Int} (L : List Bts) : 0 <= findR L n ↔ ¬ lookL (mapOf L) n = none := by
 unfold findR
 cases lookL (mapOf L) n with
 | none => simp
 | some i => simp
set_option maxRecDepth 10000 in
set_option maxHeartbeats 32000000 in
theorem AM5 {b : Bts} (hw : WF A) (hm : m.on A) (hl : Slc eStr m lv L) (hs : Slc (eInt .i64) m sv Ss) (hE : ∀ x ∈ L, entC x = 0) (hL : L.length <= 1000) (hS : Ss.length <= 100000) (hb : b.length <= 1000000000) :
 ∃ w A', EvF Try.prog HH 49 [.agg [lv, sv], .str b] A w A' /\ Fr S0 A A' /\ ∃ lv' sv' f1 f2, w = .agg [lv', sv'] /\ Lst eStr Hp.emp A' lv' (applyB L b) f1 /\ Lst (eInt .i64) Hp.emp A' sv' (Ss ++ [((applyB L b).length : Int)]) f2 /\ (∀ f, f1 = some f -> A.blk.length <= f) /\ (∀ f, f2 = some f -> A.blk.length <= f) /\ (∀ x ∈ applyB L b, entC x = 0) /\ (applyB L b).length <= 1000 := by
 refine Aa5 rfl Try.func49 (by unfold Try.f49; rfl) Try.ntmps49 (by unfold Try.f49; rfl) (by simp) ?_
 obtain ⟨A1, e1, f1, r1, n1⟩ := Aa8 A [lv, sv]
 obtain ⟨b2, hb2⟩ : ∃ b, b = A.blk.length := ⟨_, rfl⟩
 rw [<- hb2] at r1
 obtain ⟨A2, e2, f2, r2, n2⟩ := Aa8 A1 [.snil, .snil]
 obtain ⟨b4, hb4⟩ : ∃ b, b = A1.blk.length := ⟨_, rfl⟩
 rw [<- hb4] at r2
 have f12 := f1.then0 f2
 have fa := BF8 b2
 obtain ⟨wx, A3, k3, f3, fo3, q1, q2⟩ := AM0 (b := b) (f12.wf hw) (by omega)
 obtain ⟨xs, hxs⟩ : ∃ x, x = splitB b := ⟨_, rfl⟩
 rw [<- hxs] at q1
 have hxl : ∀ y ∈ xs, y.length <= b.length := fun y q => AI5 (by rw [<- hxs]; exact q)
 have hx8 : xs.length <= 8 := by
  rw [hxs]; unfold splitB; split
  . simp
  . rename_i q; have : ¬ (readMsg b).list.length > 8 := fun z => q (.inr (.inr z)); omega
 have f13 := f12.then0 f3
 have w3 := f13.wf hw
 have rA3 : A3.blk[b2]? = _ := (f2.then0 f3).row0 r1
 obtain ⟨w6, A4, f6, y1, y2, y3, y4⟩ := A80 (P := Try.prog) (t := 43) (tx := 43) (n := 1) rfl w3 B04 Try.underlying43 hl (hm.fr0 f13) (by omega) (by omega)
 have y2 : Lst eStr Hp.emp A4 w6 L (some f6) := y2
 have ldA : evLoad Try.prog 43 (.ptr b2 0) (A3.push ⟨[], .arr A3.blk.length 0⟩) = some lv := (AX9 ((Fr.pushArr A3 []).row0 rA3)).1
 have f14 := f13.then0 y4
 have w4 := f14.wf hw
 have hX5 := q1
 have hlx := fun B => q1.len (P := Try.prog) Try.underlying43 B
 simp only [RT, Q0, Q1, Q2, Q3, Q4, Q5, Q6, Q7, Q8, <- e1, <- hb2, B15, <- e2, <- hb4]
 refine Aa0 k3 ?_
 simp only [RT, Q0, Q1, Q2, Q3, Q4, Q5, Q6, Q7, Q8, By0, fa, ldA, y1]
 refine Aa2 (fun z e B => ∃ (i : Nat) (w : V) (fo : Option Nat) (L1 : List Bts), z = xs.length - i /\ i <= xs.length /\ L1 = (xs.take i).foldl addE L /\ e.get 7 = .int .i64 i /\ e.get 5 = wx /\ e.get 2 = .ptr b2 0 /\ e.get 4 = .ptr b4 0 /\ e.get 6 = w /\ Fr S0 A3 B /\ Lst eStr Hp.emp B w L1 fo /\ (∀ f, fo = some f -> A3.blk.length <= f) /\ (∀ x ∈ L1, entC x = 0) /\ L1.length <= 1000)
  (fun z e B => Is z (.exit 0) /\ ∃ (w : V) (fo : Option Nat) (L1 : List Bts), L1 = xs.foldl addE L /\ e.get 2 = .ptr b2 0 /\ e.get 4 = .ptr b4 0 /\ e.get 6 = w /\ Fr S0 A3 B /\ Lst eStr Hp.emp B w L1 fo /\ (∀ f, fo = some f -> A3.blk.length <= f) /\ (∀ x ∈ L1, entC x = 0) /\ L1.length <= 1000)
  ⟨_, 0, w6, some f6, L, rfl, by omega, rfl, rfl, rfl, rfl, rfl, rfl, y4, y2, fun f q => by cases q; exact y3, hE, hL⟩ ?_ ?_
 . rintro z e B ⟨i, w, fo, L1, rfl, hi, hL1, h7, h5, h2, h4, h6, hf, hLs, hfo, hE1, hln⟩
   simp only [RT, Q0, Q1, Q2, Q3, Q4, Q5, Q6, Q7, Q8, h7, h5, hlx]
   refine Aa1 (fun q1 => ?_) (fun q1 => ?_)
   rotate_left
   . have : i = xs.length := by omega
     subst this
     rw [List.take_length] at hL1
     simp only [RT, Q0, Q1, Q2, Q3, Q4, Q5, Q6, Q7, Q8]
     refine ⟨rfl, w, fo, L1, ?_⟩
     and_intros <;> first | rfl | assumption
   obtain ⟨y, hy⟩ := Ac7 (l := xs) (i := i) (by omega)
   have hyl := hxl y (List.mem_of_getElem? hy)
   obtain ⟨b', o, c, g1, g2, g3⟩ := (hX5.fr0 hf).at (P := Try.prog) (k := .i64) (Hp.on_emp B) Try.underlying43 sz9 ag9 hy
   rw [AW7.1 g3] at g2
   have wB := hf.wf w3
   obtain ⟨_, C, k1, j1, X, dv, iv, lw, rfl, z1, z2⟩ := As6 (b := y) wB (by omega)
   obtain ⟨D, t1, t2, t3⟩ := Ap6 (A := C) z1
   have ld := ldM t3 z1.id
   have fam := faM C.blk.length
   have jD := j1.then0 t2
   have fD := hf.then0 jD
   have wD := fD.wf w3
   have wi : IntKind.i64.wrap ((i : Int) + 1) = ((i + 1 : Nat) : Int) := by rw [Ad7 (by omega)]
   have hLD := hLs.fr0 jD
   have hSD := hLD.slcArr (fun _ _ q => by cases q)
   have hnext : (xs.take (i + 1)).foldl addE L = addE L1 y := by rw [Ac9 hy, List.foldl_append, hL1]; rfl
   have hlw := fun B => hLD.len (P := Try.prog) Try.underlying43 B
   simp only [RT, Q0, Q1, Q2, Q3, Q4, Q5, Q6, Q7, Q8, h5, h7, g1, g2]
   refine Aa0 k1 ?_
   by_cases c0 : entC y = 0
   rotate_left
   . have hno : L1 = (xs.take (i + 1)).foldl addE L := by rw [hnext, Ao2 fun q => c0 q.1]
     simp only [RT, Q0, Q1, Q2, Q3, Q4, Q5, Q6, Q7, Q8, zcM, t1, c0, h7, wi]
     refine ⟨xs.length - (i + 1), by omega, i + 1, w, fo, L1, rfl, by omega, ?_⟩
     and_intros <;> first | rfl | assumption
   have hX := z2 c0
   have hnm : (X.who, X.num) = nmOf y := by rw [hX]; rfl
   obtain ⟨_, E, kf, jf, rfl⟩ := Az3 (sv := .snil) wD (Af7 D) hSD hE1 hln X.who X.num
   have fE := fD.then0 jf
   simp only [RT, Q0, Q1, Q2, Q3, Q4, Q5, Q6, Q7, Q8, zcM, t1, c0, h6, BJ7 hLs.form, fam, ld]
   refine Aa0 kf ?_
   by_cases c2 : findR L1 (X.who, X.num) >= 0
   . have hno : L1 = (xs.take (i + 1)).foldl addE L := by
      rw [hnext, Ao2 fun q => ?_]
      rw [hnm] at c2
      exact ((AT4 L1).1 c2) q.2.1
     have hLE := hLD.fr0 jf
     simp only [RT, Q0, Q1, Q2, Q3, Q4, Q5, Q6, Q7, Q8, decide_eq_true c2, h7, wi]
     refine ⟨xs.length - (i + 1), by omega, i + 1, w, fo, L1, rfl, by omega, ?_⟩
     and_intros <;> first | rfl | assumption
   by_cases c3 : (L1.length : Int) >= 1000
   . have hno : L1 = (xs.take (i + 1)).foldl addE L := by rw [hnext, Ao2 fun q => by have := q.2.2; omega]
     have hLE := hLD.fr0 jf
     simp only [RT, Q0, Q1, Q2, Q3, Q4, Q5, Q6, Q7, Q8, decide_eq_false c2, h6, hlw, decide_eq_true c3, h7, wi]
     refine ⟨xs.length - (i + 1), by omega, i + 1, w, fo, L1, rfl, by omega, ?_⟩
     and_intros <;> first | rfl | assumption
   have hyes : L1 ++ [y] = (xs.take (i + 1)).foldl addE L := by
    rw [hnext, Au1 c0 ?_ (by omega)]
    rw [hnm] at c2
    exact Classical.byContradiction fun q => c2 ((AT4 L1).2 q)
   obtain ⟨w', F, fo', p1, p2, p3, p4⟩ := (hLD.fr0 jf).push (P := Try.prog) (t := 43) (tx := 43) (n := 1) rfl B04 Try.underlying43 (fE.wf w3) (y := y) (cs' := [.str y]) rfl (by omega) (by omega)
   obtain ⟨b'', o', c', g1', g2', g3'⟩ := ((hX5.fr0 hf).fr0 (jD.then0 jf)).at (P := Try.prog) (k := .i64) (Hp.on_emp E) Try.underlying43 sz9 ag9 hy
   rw [AW7.1 g3'] at g2'
   have fF : Fr S0 A3 F := fE.newFam w3 p3 hfo
   have hfo' : ∀ f, fo' = some f -> A3.blk.length <= f := fun f q => by
    rcases p4.or q with y | y
    . exact hfo f y
    . have := fE.len; omega
   have hE2 : ∀ x ∈ L1 ++ [y], entC x = 0 := fun x hx => by
    rcases List.mem_append.1 hx with hx | hx
    . exact hE1 x hx
    . rw [List.mem_singleton.1 hx]; exact c0
   have hln2 : (L1 ++ [y]).length <= 1000 := by rw [List.length_append]; simp; omega
   simp only [RT, Q0, Q1, Q2, Q3, Q4, Q5, Q6, Q7, Q8, decide_eq_false c2, h6, hlw, decide_eq_false c3, h5, h7, g1', g2', BI6, p1, wi]
   refine ⟨xs.length - (i + 1), by omega, i + 1, w', fo', L1 ++ [y], rfl, by omega, ?_⟩
   and_intros <;> first | rfl | assumption
 . rintro z e B hz ⟨rfl, w, fo, L1, hL1, h2, h4, h6, hf, hLs, hfo, hE1, hln⟩
   have fB := f13.then0 hf
   have wB := fB.wf hw
   have rB2 := hf.row0 rA3
   have rB4 := (f3.then0 hf).row0 r2
   obtain ⟨u, C, f10, x1, x2, x3, x4⟩ := A80 (P := Try.prog) (t := 52) (tx := 52) (n := 1) rfl wB B24 Try.underlying52 hs (hm.fr0 fB) (by omega) (by omega)
   have x2 : Lst (eInt .i64) Hp.emp C u Ss (some f10) := x2
   have wC := x4.wf wB
   obtain ⟨u', D, fo', p1, p2, p3, p4⟩ := x2.push (P := Try.prog) (t := 52) (tx := 52) (n := 1) rfl B24 Try.underlying52 wC (y := (L1.length : Int)) (cs' := [.int .i64 (L1.length : Int)]) rfl (by omega) (by omega)
   have ldB : evLoad Try.prog 52 (.ptr b2 1) (B.push ⟨[], .arr B.blk.length 0⟩) = some sv := (AX9 ((Fr.pushArr B []).row0 rB2)).2.1
   have hlw := fun X => hLs.len (P := Try.prog) Try.underlying43 X
   have fBD : Fr S0 B D := x4.newFam wB p3 fun f q => by cases q; exact x3
   have fD := fB.then0 fBD
   have hLD := hLs.fr0 fBD
   obtain ⟨E, s1, s2, s3⟩ := BJ9 (fBD.row0 rB4) (v' := w) (w' := u') hLD.one p2.one
   have hlo : A.blk.length <= b4 := by have := f1.len; omega
   have nb : ∀ {fo : Option Nat}, Off fo D (· = .row b4) := .box (fBD.row0 rB4)
   have h3 := f13.len
   have hres : xs.foldl addE L = applyB L b := by rw [hxs]; rfl
   rw [hres] at hL1
   simp only [RT, Q0, Q1, Q2, Q3, Q4, Q5, Q6, Q7, Q8, BV6, h2, fa, ldB, x1, h6, hlw, BV7, p1, BJ8 hLD.form p2.form, h4, s1, (AX9 s3).2.2]
   subst hL1
   refine ⟨fD.row_ s2 hlo, w, u', fo, fo', rfl, hLD.fr s2 nb, p2.fr s2 nb, fun f q => by have := hfo f q; omega, fun f q => ?_, hE1, hln⟩
   rcases p4.or q with y | y
   . cases y; have := fB.len; omega
   . have := (fB.then0 x4).len; omega
end
end Go.Sv.Try
namespace Go.Sv
open Go
theorem Au3 {P : Program} {H : Hints} {f : FuncId} {nt : Nat} {ops : Array Oper} {o : Oper} {r : List Oper} {k2 : List Kt} {e : Env} {A : AS} {Q : Ex -> Env -> AS -> Prop} {v : V} {want : Bool} {j d : Nat} (hg : o.guard = some (j, want)) (hd : (ops[j]?).bind (·.dst) = some d) (hv : e.get d = v) (hok : dstOk nt o = true)
 (R : Ex -> Env -> AS -> Prop) (h : contG P H f nt v want o [.ops ops r] e A R) (hk : ∀ x e A, R x e A -> Run P H f nt k2 x e A Q) : contG P H f nt v want o (.ops ops r :: k2) e A Q := by
 have key : ∀ (k : List Kt) (Q : Ex -> Env -> AS -> Prop), Run P H f nt (.ops ops (o :: r) :: k) .normal e A Q = (dstOk nt o = true /\ contG P H f nt v want o (.ops ops r :: k) e A Q) := fun k Q => by
  rw [Bj0]; unfold runO; rw [hg]; simp only [hd, hv]
 have := Ak5 (k1 := [.ops ops (o :: r)]) (k2 := k2) (R := R) (Q := Q) (x := .normal) (by rw [key]; exact ⟨hok, h⟩) hk
 rw [List.singleton_append, key] at this
 exact this.2
end Go.Sv
namespace Go.Sv.Try
open Go Go.Proofs
def NumOk (Hs : List HdP) : Prop := ∀ (k : Nat) h, Hs[k]? = some h -> h.1 = ((k + 1 : Nat) : Int)
theorem NumOk.add {Hs : List HdP} {L : List Bts} (h : NumOk Hs) : NumOk (Hs ++ [hdOf Hs L]) := fun k x hx => by
 rcases Nat.lt_or_ge k Hs.length with q | q
 . rw [List.getElem?_append_left q] at hx; exact h k x hx
 . rw [List.getElem?_append_right q] at hx
   have : k - Hs.length = 0 := by have := (List.getElem?_eq_some_iff.1 hx).1; simp at this; omega
   rw [this] at hx
   cases hx
   show ((Hs.length + 1 : Nat) : Int) = _
   congr 1; omega
def sizesH (Hs : List HdP) : List Int := Hs.map (·.2.1)
theorem Bo2 {Hs : List HdP} (h : NumOk Hs) (k : Int) : sinceR (sizesH Hs) k = match sinceH Hs k with | some x => x.1 | none => 0 := by
 unfold sinceR sinceH
 by_cases c : k < 0
 . rw [if_pos c, if_pos c]
 . rw [if_neg c, if_neg c]
   unfold sizesH
   rw [List.findIdx?_map]
   cases q : Hs.findIdx? ((fun s => decide (s > k)) ∘ fun x => x.2.1) with
   | none =>
    rw [List.findIdx?_eq_none_iff] at q
    rw [List.find?_eq_none.2 fun x hx => by simpa using q x hx]
   | some i =>
    obtain ⟨h1, h2, h3⟩ := List.findIdx?_eq_some_iff_getElem.1 q
    have : Hs.find? (fun h => decide (h.2.1 > k)) = some Hs[i] := by
     rw [List.find?_eq_some_iff_getElem]
     exact ⟨h2, i, h1, rfl, fun j hj => by simpa using h3 j hj⟩
    rw [this]
    exact (h i Hs[i] (List.getElem?_eq_getElem h1)).symm
theorem Bf6 {Hs : List HdP} (h : NumOk Hs) {k : Int} {x : HdP} (q : sinceH Hs k = some x) : x.1 > 0 := by
 unfold sinceH at q
 split at q
 . cases q
 . obtain ⟨i, hi⟩ := List.getElem?_of_mem (List.mem_of_find?_eq_some q)
   have := h i x hi
   omega
section
variable {A B C : AS} {m : Hp} {Z : Nat -> Prop} {bp tp r : Nat} {L : List Bts} {Hs : List HdP} {fl ft fh : Option Nat} {lv sv : V} {a0 a1 : Int}
theorem By1 (p q : Bool) : evEq Try.prog 4 (.bool p) (.bool q) = some (p == q) := by rw [BC1 Try.underlying4]; cases p <;> cases q <;> rfl
theorem BK0 (B : AS) : evLen Try.prog 44 .snil B = some (.int .i64 0) := by unfold evLen; rw [Try.underlying44]
theorem By2 (B : AS) : evLen Try.prog 36 .snil B = some (.int .i64 0) := by unfold evLen; rw [Try.underlying36]
structure AskK (bp b4 b5 : Nat) (A2 : AS) (z : Ex) (e : Env) (B : AS) : Prop where
 z : Is z .normal
 h0 : e.get 0 = .ptr bp 0
 h4 : e.get 4 = .ptr b4 0
 h5 : e.get 5 = .ptr b5 0
 fr : Fr S0 A2 B
theorem Bf7 {p q : Prop} [Decidable p] [Decidable q] (h : p) : decide q = decide (p /\ q) := by simp [h]
theorem A65 {p q : Prop} [Decidable p] [Decidable q] (h : ¬ p) : false = decide (p /\ q) := by simp [h]
set_option maxRecDepth 10000 in
set_option maxHeartbeats 32000000 in
theorem A98 (hw : WF A) (hm : m.on A) (h : IsBk Z A bp tp r L Hs fl ft fh) (hl : Slc eStr m lv L) (hs : Slc (eInt .i64) m sv (sizesH Hs)) (hN : NumOk Hs) (hH : Hs.length <= 1000) :
 ∃ w A', EvF Try.prog HH 52 [.ptr bp 0, .agg [lv, sv], .agg [.int .i64 a0, .int .i64 a1]] A w A' /\ w = .bool true := by
 refine Aa5 rfl Try.func52 (by unfold Try.f52; rfl) Try.ntmps52 (by unfold Try.f52; rfl) (by simp) ?_
 obtain ⟨A1, e1, f1, r1, n1⟩ := Aa8 A [lv, sv]
 obtain ⟨b4, hb4⟩ : ∃ b, b = A.blk.length := ⟨_, rfl⟩
 rw [<- hb4] at r1
 obtain ⟨A2, e2, f2, r2, n2⟩ := Aa8 A1 [.int .i64 a0, .int .i64 a1]
 obtain ⟨b5, hb5⟩ : ∃ b, b = A1.blk.length := ⟨_, rfl⟩
 rw [<- hb5] at r2
 have f12 := f1.then0 f2
 have w2 := f12.wf hw
 have h2 := h.fr0 f12
 have r1 := f2.row0 r1
 have hln := h.len
 have hx : ∀ x ∈ L, x.length <= 1000000000 := fun x q => by have := AC9 (h.ent x q); omega
 have ax := ax2 b5
 have fa := BF8 b4
 have ld : ∀ {B : AS}, Fr S0 A2 B -> evLoad Try.prog 3 (.ptr b5 0) B = some (.int .i64 a0) /\ evLoad Try.prog 3 (.ptr b5 1) B = some (.int .i64 a1) := fun q => ld2 (q.row0 r2)
 have ldr := fun {B : AS} (q : Fr S0 A2 B) => AX9 (q.row0 r1)
 have hlw := fun B => hl.len (P := Try.prog) Try.underlying43 B
 have hsw := fun B => hs.len (P := Try.prog) Try.underlying52 B
 have hsl : (sizesH Hs).length = Hs.length := by unfold sizesH; rw [List.length_map]
 rw [hsl] at hsw
 obtain ⟨_, A3, k3, f3, hat⟩ := AD1 w2 h2.raw hx a0
 have f23 := f3
 have k3' : ∃ (c : V) (er ln : Int), k3 = k3 /\ True := ⟨.snil, 0, 0, rfl, trivial⟩
 obtain ⟨c, er, ln, hc, her, hcl⟩ : ∃ (c : V) (er ln : Int), (∃ w, EvF Try.prog HH 46 [.ptr bp 0, .int .i64 a0] A2 w A3 /\ w = .tup [c, .int .i64 er]) /\ (er = if 0 <= a0 /\ a0 < L.length then 0 else 4) /\ (er = 4 -> ∀ B, evLen Try.prog 44 c B = some (.int .i64 0)) := by
  rcases hat with ⟨q, rfl⟩ | ⟨n, x, c, rfl, hx, rfl, _⟩
  . exact ⟨.snil, 4, 0, ⟨_, k3, rfl⟩, by rw [if_neg (by omega)], fun _ B => BK0 B⟩
  . have := (List.getElem?_eq_some_iff.1 hx).1
    exact ⟨c, 0, 0, ⟨_, k3, rfl⟩, by rw [if_pos (by omega)], fun q => by cases q⟩
 clear hat k3 k3'
 obtain ⟨_, k3, rfl⟩ := hc
 simp only [RT, Q0, Q1, Q2, Q3, Q4, Q5, Q6, Q7, Q8, <- e1, <- hb4, <- e2, <- hb5, ax, ld (.refl _ _)]
 refine Aa0 k3 ?_
 simp only [RT, Q0, Q1, Q2, Q3, Q4, Q5, Q6, Q7, Q8, ax, ld f3]
 refine Au3 rfl rfl rfl rfl (fun z e B => AskK bp b4 b5 A2 z e B /\ e.get 7 = c /\ e.get 8 = .int .i64 er /\ e.get 9 = .bool (decide (0 <= a0 /\ a0 < L.length))) ?_ ?_
 . by_cases q : a0 >= 0
   . simp only [RT, Q0, Q1, Q2, Q3, Q4, Q5, Q6, Q7, Q8, decide_eq_true q, ax, ld f3, fa, ldr f3, hlw]
     exact ⟨⟨rfl, rfl, rfl, rfl, f3⟩, by rw [<- Bf7 q]⟩
   . simp only [RT, Q0, Q1, Q2, Q3, Q4, Q5, Q6, Q7, Q8, decide_eq_false q]
     exact ⟨⟨rfl, rfl, rfl, rfl, f3⟩, by rw [<- A65 q]⟩
 rintro z e B ⟨⟨rfl, h0, h4, h5, hf⟩, h7, h8, h9⟩
 simp only [Ax9]
 refine AL9 (fun z e B => AskK bp b4 b5 A2 z e B /\ e.get 51 = .bool false) ?_ ?_
 . by_cases q : 0 <= a0 /\ a0 < (L.length : Int)
   . rw [if_pos q] at her
     subst her
     simp only [RT, Q0, Q1, Q2, Q3, Q4, Q5, Q6, Q7, Q8, h8, h9, decide_eq_true q, AK7, By1]
     exact ⟨rfl, h0, h4, h5, hf⟩
   . rw [if_neg q] at her
     subst her
     simp only [RT, Q0, Q1, Q2, Q3, Q4, Q5, Q6, Q7, Q8, h8, h9, h7, decide_eq_false q, AK7, By1, hcl rfl]
     exact ⟨rfl, h0, h4, h5, hf⟩
 clear h0 h4 h5 h7 h8 h9 hf
 rintro z e B ⟨⟨rfl, h0, h4, h5, hf⟩, h51⟩
 obtain ⟨_, C, k4, f4, hat⟩ := Ao4 (hf.wf w2) (h2.raw.fr0 hf) (by omega) a0
 obtain ⟨y, er, hy32, hy, her, her4⟩ : ∃ (y : HdP) (er : Int), y.2.2.length = 32 /\ (∃ w, EvF Try.prog HH 48 [.ptr bp 0, .int .i64 a0] B w C /\ w = .tup [.agg (hdC y), .int .i64 er]) /\ (er = if 1 <= a0 /\ a0 <= Hs.length then 0 else 4) /\ (er = 4 -> y = hd0) := by
  have hh : headAt Hs a0 = none /\ ¬ (1 <= a0 /\ a0 <= Hs.length) ∨ ∃ x, headAt Hs a0 = some x /\ 1 <= a0 /\ a0 <= Hs.length := by
   unfold headAt
   by_cases c1 : a0 < 1
   . rw [if_pos c1]; exact .inl ⟨rfl, by omega⟩
   . rw [if_neg c1]
     rcases Nat.lt_or_ge (a0 - 1).toNat Hs.length with q | q
     . exact .inr ⟨_, List.getElem?_eq_getElem q, by omega, by omega⟩
     . exact .inl ⟨List.getElem?_eq_none q, by omega⟩
  rcases hh with ⟨q, q'⟩ | ⟨x, q, q'⟩
  . rw [q] at hat
    obtain rfl := hat
    exact ⟨hd0, 4, rfl, ⟨_, k4, rfl⟩, by rw [if_neg q'], fun _ => rfl⟩
  . rw [q] at hat
    obtain ⟨rfl, hx32⟩ := hat
    exact ⟨x, 0, hx32, ⟨_, k4, rfl⟩, by rw [if_pos q'], fun q => by cases q⟩
 clear hat k4
 obtain ⟨_, k4, rfl⟩ := hy
 obtain ⟨D, t1, t2, t3⟩ := Be6 (A := C) hy32
 obtain ⟨b10, hb10⟩ : ∃ b, b = C.blk.length := ⟨_, rfl⟩
 rw [<- hb10] at t1 t3
 have fD := (hf.then0 f4).then0 t2
 have ldh := (Bn4 t3 hy32).2.2.2
 simp only [RT, Q0, Q1, Q2, Q3, Q4, Q5, Q6, Q7, Q8, h51, h0, h5, ax, ld hf]
 refine Aa0 k4 ?_
 simp only [RT, Q0, Q1, Q2, Q3, Q4, Q5, Q6, Q7, Q8, Bb7, <- hb10, t1, h5, ax, ld fD]
 refine Au3 rfl rfl rfl rfl (fun z e B => AskK bp b4 b5 A2 z e B /\ B = D /\ e.get 10 = .ptr b10 0 /\ e.get 8 = .int .i64 er /\ e.get 11 = .bool (decide (1 <= a0 /\ a0 <= Hs.length))) ?_ ?_
 . by_cases q : a0 >= 1
   . simp only [RT, Q0, Q1, Q2, Q3, Q4, Q5, Q6, Q7, Q8, decide_eq_true q, h5, h4, ax, ld fD, fa, ldr fD, hsw]
     exact ⟨⟨rfl, h0, h4, h5, fD⟩, by rw [<- Bf7 (show 1 <= a0 from q)]⟩
   . simp only [RT, Q0, Q1, Q2, Q3, Q4, Q5, Q6, Q7, Q8, decide_eq_false q]
     exact ⟨⟨rfl, h0, h4, h5, fD⟩, by rw [<- A65 (show ¬ 1 <= a0 from q)]⟩
 clear h0 h4 h5 h51 hf fD
 rintro z e B ⟨⟨rfl, h0, h4, h5, hf⟩, rfl, h10, h8, h11⟩
 simp only [Ax9]
 refine AL9 (fun z e B => AskK bp b4 b5 A2 z e B /\ e.get 86 = .bool false) ?_ ?_
 . by_cases q : 1 <= a0 /\ a0 <= (Hs.length : Int)
   . rw [if_pos q] at her
     subst her
     simp only [RT, Q0, Q1, Q2, Q3, Q4, Q5, Q6, Q7, Q8, h8, h11, decide_eq_true q, AK7, By1]
     exact ⟨rfl, h0, h4, h5, hf⟩
   . rw [if_neg q] at her
     subst her
     obtain rfl := her4 rfl
     simp only [RT, Q0, Q1, Q2, Q3, Q4, Q5, Q6, Q7, Q8, h8, h11, h10, decide_eq_false q, AK7, By1, ldh, AM1, AT2 hy32]
     exact ⟨rfl, h0, h4, h5, hf⟩
 clear h0 h4 h5 h8 h10 h11 hf k4
 rintro z e B ⟨⟨rfl, h0, h4, h5, hf⟩, h86⟩
 obtain ⟨_, E, k5, f5, hat⟩ := AD2 (hf.wf w2) (h2.raw.fr0 hf) hx (by omega) a0
 obtain ⟨u, er, hu, her, hun, hus⟩ : ∃ (u : V) (er : Int), (∃ w, EvF Try.prog HH 53 [.ptr bp 0, .int .i64 a0] B w E /\ w = .tup [u, .int .i64 er]) /\ (er = if a0 < 0 ∨ a0 > L.length then 1 else 0) /\ (er = 1 -> u = .snil) /\ (er = 0 -> ∃ n : Nat, a0 = n /\ n <= L.length /\ Slc eI (arrHp E) u ((L.take n).map leafH)) := by
  rcases hat with ⟨q, rfl⟩ | ⟨n, c, fo, rfl, q, rfl, q2, _⟩
  . exact ⟨.snil, 1, ⟨_, k5, rfl⟩, by rw [if_pos (by omega)], fun _ => rfl, fun q => by cases q⟩
  . exact ⟨c, 0, ⟨_, k5, rfl⟩, by rw [if_neg (by omega)], fun q => (by cases q), fun _ => ⟨n, rfl, q, q2.slcArr (fun _ _ q => by cases q)⟩⟩
 clear hat k5
 obtain ⟨_, k5, rfl⟩ := hu
 have fE := hf.then0 f5
 simp only [RT, Q0, Q1, Q2, Q3, Q4, Q5, Q6, Q7, Q8, h86, h0, h5, ax, ld hf]
 refine Aa0 k5 ?_
 simp only [RT, Q0, Q1, Q2, Q3, Q4, Q5, Q6, Q7, Q8, h5, ax, ld fE]
 refine Au3 rfl rfl rfl rfl (fun z e B => AskK bp b4 b5 A2 z e B /\ B = E /\ e.get 12 = u /\ e.get 8 = .int .i64 er /\ e.get 104 = .bool (decide (a0 < 0 ∨ a0 > L.length))) ?_ ?_
 . by_cases q : a0 < 0
   . simp only [RT, Q0, Q1, Q2, Q3, Q4, Q5, Q6, Q7, Q8, decide_eq_true q]
     exact ⟨⟨rfl, h0, h4, h5, fE⟩, by simp [q]⟩
   . simp only [RT, Q0, Q1, Q2, Q3, Q4, Q5, Q6, Q7, Q8, decide_eq_false q, h5, h4, ax, ld fE, fa, ldr fE, hlw]
     exact ⟨⟨rfl, h0, h4, h5, fE⟩, by simp [q]⟩
 clear h0 h4 h5 h86 hf fE
 rintro z e B ⟨⟨rfl, h0, h4, h5, hf⟩, rfl, h12, h8, h104⟩
 refine AL9 (fun z e B => AskK bp b4 b5 A2 z e B) ?_ ?_
 . by_cases q : a0 < 0 ∨ a0 > (L.length : Int)
   . rw [if_pos q] at her
     subst her
     obtain rfl := hun rfl
     simp only [RT, Q0, Q1, Q2, Q3, Q4, Q5, Q6, Q7, Q8, h8, h104, h12, decide_eq_true q, By2]
     exact ⟨rfl, h0, h4, h5, hf⟩
   . rw [if_neg q] at her
     subst her
     obtain ⟨n, rfl, hn, hsu⟩ := hus rfl
     have wB := hf.wf w2
     obtain ⟨_, F, k6, f6, fo, q1, q2⟩ := Ar8 (sv := sv) wB ((hm.fr0 f12).fr0 hf) hl hx (by omega) hn
     have q1 := q1.slcArr (fun _ _ q => by cases q)
     obtain ⟨_, _, k7, rfl, rfl⟩ := A09 (Af7 F) (hsu.mono (Ab6 f6 fun b q => q.elim)) q1 (by rw [List.length_map, List.length_take]; omega) (by rw [List.length_map, List.length_take]; omega)
     simp only [RT, Q0, Q1, Q2, Q3, Q4, Q5, Q6, Q7, Q8, h8, h104, h12, decide_eq_false q, h4, ldr hf, h5, ax, ld hf]
     refine Aa0 k6 ?_
     simp only [RT, Q0, Q1, Q2, Q3, Q4, Q5, Q6, Q7, Q8, h12]
     refine Aa0 k7 ?_
     simp only [RT, Q0, Q1, Q2, Q3, Q4, Q5, Q6, Q7, Q8]
     exact ⟨rfl, h0, h4, h5, hf.then0 f6⟩
 clear h0 h4 h5 h8 h12 h104 hf k5
 rintro z e B ⟨rfl, h0, h4, h5, hf⟩
 obtain ⟨_, C1, k8, f8, hat⟩ := AF9 (hf.wf w2) (h2.raw.fr0 hf) (by omega) a0
 have hsr := Bo2 hN a0
 obtain ⟨y1, er1, hy32', hy1, hyes, hno⟩ : ∃ (y : HdP) (er : Int), y.2.2.length = 32 /\ (∃ w, EvF Try.prog HH 80 [.ptr bp 0, .int .i64 a0] B w C1 /\ w = .tup [.agg (hdC y), .int .i64 er]) /\ (er = 0 -> y.1 = sinceR (sizesH Hs) a0 /\ sinceR (sizesH Hs) a0 > 0) /\ (¬ er = 0 -> y = hd0 /\ sinceR (sizesH Hs) a0 = 0) := by
  cases q : sinceH Hs a0 with
  | none =>
   rw [q] at hat hsr
   obtain rfl := hat
   exact ⟨hd0, 4, rfl, ⟨_, k8, rfl⟩, fun q => (by cases q), fun _ => ⟨rfl, hsr⟩⟩
  | some x =>
   rw [q] at hat hsr
   obtain ⟨rfl, hx32⟩ := hat
   exact ⟨x, 0, hx32, ⟨_, k8, rfl⟩, fun _ => ⟨hsr.symm, by rw [hsr]; exact Bf6 hN q⟩, fun q => absurd rfl q⟩
 clear hat k8 hsr
 obtain ⟨_, k8, rfl⟩ := hy1
 obtain ⟨D1, u1, u2, u3⟩ := Be6 (A := C1) hy32'
 obtain ⟨b13, hb13⟩ : ∃ b, b = C1.blk.length := ⟨_, rfl⟩
 rw [<- hb13] at u1 u3
 have fD1 := (hf.then0 f8).then0 u2
 obtain ⟨_, E1, k9, f9, rfl⟩ := AM4 (A := D1) (lv := lv) ((hm.fr0 f12).fr0 fD1) hs (by omega) a0
 have fE1 := fD1.then0 f9
 have ldh1 := Bn4 (f9.row0 u3) hy32'
 have fah1 := BU2 b13
 simp only [RT, Q0, Q1, Q2, Q3, Q4, Q5, Q6, Q7, Q8, h0, h5, ax, ld hf]
 refine Aa0 k8 ?_
 simp only [RT, Q0, Q1, Q2, Q3, Q4, Q5, Q6, Q7, Q8, Bb7, <- hb13, u1, h4, ldr fD1, h5, ax, ld fD1]
 refine Aa0 k9 ?_
 simp only [RT, Q0, Q1, Q2, Q3, Q4, Q5, Q6, Q7, Q8, AK7, By1]
 refine Au3 rfl rfl rfl rfl (fun z e B => AskK bp b4 b5 A2 z e B /\ e.get 144 = .bool false) ?_ ?_
 . by_cases q : er1 = 0
   . obtain ⟨z1, z2⟩ := hyes q
     simp only [RT, Q0, Q1, Q2, Q3, Q4, Q5, Q6, Q7, Q8, decide_eq_true q, decide_eq_true z2, fah1, ldh1, decide_eq_false (show ¬ ¬ y1.1 = sinceR (sizesH Hs) a0 from fun q => q z1)]
     exact ⟨rfl, h0, h4, h5, fE1⟩
   . obtain ⟨rfl, z2⟩ := hno q
     rw [z2]
     simp only [RT, Q0, Q1, Q2, Q3, Q4, Q5, Q6, Q7, Q8, decide_eq_false q, fah1, ldh1, show hd0.1 = 0 from rfl]
     exact ⟨rfl, h0, h4, h5, fE1⟩
 clear h0 h4 h5 hf fD1 fE1 k8 k9
 rintro z e B ⟨⟨rfl, h0, h4, h5, hf⟩, h144⟩
 have k10 := Ao3 (h2.raw.fr0 hf) a0 a1
 obtain ⟨at1, er2, hk, hfd⟩ : ∃ (i er : Int), EvF Try.prog HH 50 [.ptr bp 0, .int .i64 a0, .int .i64 a1] B (.tup [.int .i64 i, .int .i64 er]) B /\ ((er = 0 /\ findR L (a0, a1) = i /\ i >= 0) ∨ (¬ er = 0 /\ findR L (a0, a1) < 0)) := by
  unfold findR
  cases q : lookL (mapOf L) (a0, a1) with
  | none => rw [q] at k10; exact ⟨_, _, k10, .inr ⟨by decide, by show (-1 : Int) < 0; decide⟩⟩
  | some i => rw [q] at k10; exact ⟨_, _, k10, .inl ⟨rfl, rfl, by omega⟩⟩
 obtain ⟨_, C2, k11, f11, rfl⟩ := Az3 (sv := sv) (hf.wf w2) ((hm.fr0 f12).fr0 hf) hl h.ent (by omega) a0 a1
 have fC2 := hf.then0 f11
 simp only [RT, Q0, Q1, Q2, Q3, Q4, Q5, Q6, Q7, Q8, h144, h0, h5, ax, ld hf]
 refine Aa0 hk ?_
 simp only [RT, Q0, Q1, Q2, Q3, Q4, Q5, Q6, Q7, Q8, h4, ldr hf, h5, ax, ld hf]
 refine Aa0 k11 ?_
 rcases hfd with ⟨z1, z2, z3⟩ | ⟨z1, z2⟩
 . rw [z2]
   simp only [RT, Q0, Q1, Q2, Q3, Q4, Q5, Q6, Q7, Q8, decide_eq_true z1, decide_eq_true z3, Bj8, By1, decide_eq_false (show ¬ at1 < 0 by omega)]
 . simp only [RT, Q0, Q1, Q2, Q3, Q4, Q5, Q6, Q7, Q8, decide_eq_false z1, decide_eq_false (show ¬ findR L (a0, a1) >= 0 by omega), Bj8, By1, decide_eq_true z2]
end
end Go.Sv.Try
