/- The document's book: finding, leaves, roots, heads, sameness. -/
import Derived.Test.YtjhnciflgaijjaaAbC
import Derived.Test.YtjhnciflgaijjaaBkB
set_option linter.unusedSimpArgs false
set_option linter.unusedVariables false
open Nat renaming reduceLT → Q0, reduceBEq → Q1, reduceEqDiff → Q2, reduceAdd → Q3
open Int renaming reduceEq → Q4, reduceLT → Q5, reduceLE → Q6, reduceGT → Q7, reduceGE → Q8
namespace Go.Sv.Try
open Go Go.Proofs
theorem AI5 {n : Int × Int} {y : Bts} : ∀ {L : List Bts} {i : Nat} (k : Nat), (∀ x ∈ L.take i, nmOf x ≠ n) -> L[i]? = some y -> nmOf y = n -> lookL ((L.zipIdx k).map fun p => (nmOf p.1, p.2)) n = some (k + i)
 | [], i, k, _, h, _ => by simp at h
 | x :: L, 0, k, _, h, hy => by
  have h : x = y := by simpa using h
  subst h
  show lookL ((nmOf x, k) :: _) n = _
  unfold lookL
  rw [if_pos hy.symm]; rfl
 | x :: L, i + 1, k, hn, h, hy => by
  show lookL ((nmOf x, k) :: (L.zipIdx (k + 1)).map fun p => (nmOf p.1, p.2)) n = _
  unfold lookL
  rw [if_neg fun q => hn x (by simp) q.symm, AI5 (i := i) (k + 1) (fun z hz => hn z (by simp [hz])) (by simpa using h) hy]
  congr 1; omega
theorem AR9 {n : Int × Int} : ∀ {L : List Bts} (k : Nat), (∀ x ∈ L, nmOf x ≠ n) -> lookL ((L.zipIdx k).map fun p => (nmOf p.1, p.2)) n = none
 | [], k, _ => rfl
 | x :: L, k, hn => by
  show lookL ((nmOf x, k) :: (L.zipIdx (k + 1)).map fun p => (nmOf p.1, p.2)) n = _
  unfold lookL
  rw [if_neg fun q => hn x (by simp) q.symm]
  exact AR9 (k + 1) fun z hz => hn z (by simp [hz])
noncomputable def findR (L : List Bts) (n : Int × Int) : Int := match lookL (mapOf L) n with
 | some i => (i : Int)
 | none => -1
theorem Bm2 {L : List Bts} {n : Int × Int} {i : Nat} {y : Bts} (h1 : ∀ x ∈ L.take i, nmOf x ≠ n) (h2 : L[i]? = some y) (h3 : nmOf y = n) : findR L n = i := by
 unfold findR mapOf; rw [AI5 0 h1 h2 h3]; simp
theorem Bm3 {L : List Bts} {n : Int × Int} (h : ∀ x ∈ L, nmOf x ≠ n) : findR L n = -1 := by
 unfold findR mapOf; rw [AR9 0 h]
section
variable {A B C : AS} {m : Hp} {lv sv : V} {L : List Bts} {Ss : List Int}
theorem BX6 (b : Nat) : evFieldAddr Try.prog 99 (.ptr b 0) 0 = some (.ptr b 0) /\ evFieldAddr Try.prog 99 (.ptr b 0) 1 = some (.ptr b 1) := ⟨by kernel_rfl, by kernel_rfl⟩
theorem BH0 {b : Nat} {k : BK} (h : A.blk[b]? = some ⟨[lv, sv], k⟩) : evLoad Try.prog 43 (.ptr b 0) A = some lv /\ evLoad Try.prog 52 (.ptr b 1) A = some sv /\ evLoad Try.prog 99 (.ptr b 0) A = some (.agg [lv, sv]) := by
 refine ⟨by rw [An2 B15, AF4 h]; rfl, by rw [An2 B18, AF4 h]; rfl, ?_⟩
 exact A35 (P := Try.prog) B21 BY5 h rfl
set_option maxRecDepth 10000 in
set_option maxHeartbeats 8000000 in
theorem AS0 (hw : WF A) (hm : m.on A) (hl : Slc eStr m lv L) (hE : ∀ x ∈ L, entC x = 0) (hL : L.length <= 1000) (who num : Int) :
 ∃ w A', EvF Try.prog HH 77 [.agg [lv, sv], .int .i64 who, .int .i64 num] A w A' /\ Fr S0 A A' /\ w = .int .i64 (findR L (who, num)) := by
 refine Aa6 rfl Try.func77 (by unfold Try.f77; rfl) Try.ntmps77 (by unfold Try.f77; rfl) (by simp) ?_
 obtain ⟨A1, e1, f1, r1, n1⟩ := Aa9 A [lv, sv]
 obtain ⟨b3, hb3⟩ : ∃ b, b = A.blk.length := ⟨_, rfl⟩
 rw [<- hb3] at r1
 have fa := BX6 b3
 have hlen := fun B => hl.len (P := Try.prog) Try.underlying43 B
 simp only [RT, Q0, Q1, Q2, Q3, Q4, Q5, Q6, Q7, Q8, <- e1, <- hb3]
 refine Aa2 (fun z e B => ∃ i : Nat, z = L.length - i /\ i <= L.length /\ e.get 7 = .int .i64 i /\ e.get 1 = .int .i64 who /\ e.get 2 = .int .i64 num /\ e.get 3 = .ptr b3 0 /\ Fr S0 A1 B /\ ∀ x ∈ L.take i, nmOf x ≠ (who, num))
  (fun z e B => Fr S0 A1 B /\ ((Is z (.exit 0) /\ ∀ x ∈ L, nmOf x ≠ (who, num)) ∨ (Is z .ret /\ e.get 6 = .int .i64 (findR L (who, num)))))
  ⟨_, 0, rfl, by omega, rfl, rfl, rfl, rfl, .refl _ _, by simp⟩ ?_ ?_
 . rintro z e B ⟨i, rfl, hi, h7, h1, h2, h3, hf, hn⟩
   have rB := hf.row0 r1
   simp only [RT, Q0, Q1, Q2, Q3, Q4, Q5, Q6, Q7, Q8, h7, h3, fa, BH0 rB, hlen]
   refine Aa1 (fun q1 => ?_) (fun q1 => ?_)
   rotate_left
   . have : i = L.length := by omega
     subst this
     rw [List.take_length] at hn
     simp only [RT, Q0, Q1, Q2, Q3, Q4, Q5, Q6, Q7, Q8]
     exact ⟨hf, .inl ⟨rfl, hn⟩⟩
   obtain ⟨y, hy⟩ := Ad0 (l := L) (i := i) (by omega)
   have hye := hE y (List.mem_of_getElem? hy)
   obtain ⟨b, o, c, g1, g2, g3⟩ := hl.at (P := Try.prog) (k := .i64) ((hm.fr0 f1).fr0 hf) Try.underlying43 sz9 ag9 hy
   rw [Bh7.1 g3] at g2
   obtain ⟨_, C, k1, j1, X, dv, iv, lw, rfl, z1, z2⟩ := AC6 (b := y) ((f1.then0 hf).wf hw) (by have := AY6 hye; omega)
   have hX := z2 hye
   have hnm : (X.who, X.num) = nmOf y := by rw [hX]; rfl
   obtain ⟨D, t1, t2, t3⟩ := As3 (A := C) z1
   have ld := ldM t3 z1.id
   have fam := faM C.blk.length
   have fD := (hf.then0 j1).then0 t2
   have wi : IntKind.i64.wrap ((i : Int) + 1) = ((i + 1 : Nat) : Int) := by rw [Af3 (by omega)]
   simp only [RT, Q0, Q1, Q2, Q3, Q4, Q5, Q6, Q7, Q8, h3, fa, BH0 rB, h7, g1, g2]
   refine Aa0 k1 ?_
   have next : nmOf y ≠ (who, num) -> ∀ x ∈ L.take (i + 1), nmOf x ≠ (who, num) := fun hne x hx => by
    rw [Ag5 hy] at hx
    rcases List.mem_append.1 hx with hx | hx
    . exact hn x hx
    . rw [List.mem_singleton.1 hx]; exact hne
   by_cases c1 : X.who = who
   . by_cases c2 : X.num = num
     . have hres : findR L (who, num) = i := Bm2 hn hy (by rw [<- hnm, c1, c2])
       simp only [RT, Q0, Q1, Q2, Q3, Q4, Q5, Q6, Q7, Q8, zcM, t1, fam, ld, h1, h2, decide_eq_true c1, decide_eq_true c2, h7]
       rw [hres]
       exact ⟨fD, .inr ⟨rfl, rfl⟩⟩
     . have hne := next fun q => c2 (by rw [<- hnm] at q; exact (Prod.mk.inj q).2)
       simp only [RT, Q0, Q1, Q2, Q3, Q4, Q5, Q6, Q7, Q8, zcM, t1, fam, ld, h1, h2, decide_eq_true c1, decide_eq_false c2, h7, wi]
       refine ⟨L.length - (i + 1), by omega, i + 1, rfl, by omega, ?_⟩
       and_intros <;> first | rfl | assumption
   . have hne := next fun q => c1 (by rw [<- hnm] at q; exact (Prod.mk.inj q).1)
     simp only [RT, Q0, Q1, Q2, Q3, Q4, Q5, Q6, Q7, Q8, zcM, t1, fam, ld, h1, h2, decide_eq_false c1, h7, wi]
     refine ⟨L.length - (i + 1), by omega, i + 1, rfl, by omega, ?_⟩
     and_intros <;> first | rfl | assumption
 . rintro z e B hz ⟨hf, ⟨rfl, hn⟩ | ⟨rfl, h6⟩⟩
   . simp only [RT, Q0, Q1, Q2, Q3, Q4, Q5, Q6, Q7, Q8]
     rw [Bm3 hn]
     exact ⟨f1.then0 hf, rfl⟩
   . simp only [RT, Q0, Q1, Q2, Q3, Q4, Q5, Q6, Q7, Q8, h6]
     exact f1.then0 hf
set_option maxRecDepth 10000 in
end
end Go.Sv.Try
namespace Go.Sv.Try
open Go Go.Proofs
section
variable {A B C : AS} {m : Hp} {lv sv : V} {L : List Bts} {Ss : List Int}
theorem Bw8 : bsl Try.prog 43 0 (some []) = some (.newSl [] 0 1) := by kernel_rfl
theorem BS0 : bsl Try.prog 52 0 (some []) = some (.newSl [] 0 1) := by kernel_rfl
theorem BS1 (n : Int) : bsl Try.prog 52 1 (some [(0, .int .i64 n)]) = some (.newSl [.int .i64 n] 1 1) := by kernel_rfl
theorem BH1 {v : V} (h : v = .snil ∨ ∃ b o n z, v = .sl b o n z) : evBuild Try.prog 99 [(0, v)] = some (.agg [v, .snil]) := by
 rcases h with rfl | ⟨_, _, _, _, rfl⟩ <;> kernel_rfl
theorem BH2 {v w : V} (h : v = .snil ∨ ∃ b o n z, v = .sl b o n z) (h' : w = .snil ∨ ∃ b o n z, w = .sl b o n z) : evBuild Try.prog 99 [(0, v), (1, w)] = some (.agg [v, w]) := by
 rcases h with rfl | ⟨_, _, _, _, rfl⟩ <;> rcases h' with rfl | ⟨_, _, _, _, rfl⟩ <;> kernel_rfl
theorem BH3 {b : Nat} {v w v' w' : V} (h : A.blk[b]? = some ⟨[v, w], .var⟩) (h1 : v'.one = true) (h2 : w'.one = true) : ∃ A', evStore Try.prog 99 (.ptr b 0) (.agg [v', w']) A = some A' /\ Fr (· = .row b) A A' /\ A'.blk[b]? = some ⟨[v', w'], .var⟩ := by
 obtain ⟨A', s1, s2, s3, s4⟩ := Ab7 (P := Try.prog) (t := 99) (o := 0) (x := .agg [v', w']) (cs := [v', w']) h rfl BY5 (by simp) (by simp [h1, h2])
 rw [Ab2 (by rfl)] at s3
 exact ⟨A', s1, s2, s3⟩
theorem B07 : (zeroT Try.prog 99).bind V.cells = some [.snil, .snil] := B22
theorem AS1 {n : Int × Int} (L : List Bts) : 0 <= findR L n ↔ ¬ lookL (mapOf L) n = none := by
 unfold findR
 cases lookL (mapOf L) n with
 | none => simp
 | some i => simp
set_option maxRecDepth 10000 in
set_option maxHeartbeats 32000000 in
theorem AL8 {b : Bts} (hw : WF A) (hm : m.on A) (hl : Slc eStr m lv L) (hs : Slc (eInt .i64) m sv Ss) (hE : ∀ x ∈ L, entC x = 0) (hL : L.length <= 1000) (hS : Ss.length <= 100000) (hb : b.length <= 1000000000) :
 ∃ w A', EvF Try.prog HH 49 [.agg [lv, sv], .str b] A w A' /\ Fr S0 A A' /\ ∃ lv' sv' f1 f2, w = .agg [lv', sv'] /\ Lst eStr Hp.emp A' lv' (applyB L b) f1 /\ Lst (eInt .i64) Hp.emp A' sv' (Ss ++ [((applyB L b).length : Int)]) f2 /\ (∀ f, f1 = some f -> A.blk.length <= f) /\ (∀ f, f2 = some f -> A.blk.length <= f) /\ (∀ x ∈ applyB L b, entC x = 0) /\ (applyB L b).length <= 1000 := by
 refine Aa6 rfl Try.func49 (by unfold Try.f49; rfl) Try.ntmps49 (by unfold Try.f49; rfl) (by simp) ?_
 obtain ⟨A1, e1, f1, r1, n1⟩ := Aa9 A [lv, sv]
 obtain ⟨b2, hb2⟩ : ∃ b, b = A.blk.length := ⟨_, rfl⟩
 rw [<- hb2] at r1
 obtain ⟨A2, e2, f2, r2, n2⟩ := Aa9 A1 [.snil, .snil]
 obtain ⟨b4, hb4⟩ : ∃ b, b = A1.blk.length := ⟨_, rfl⟩
 rw [<- hb4] at r2
 have f12 := f1.then0 f2
 have fa := BX6 b2
 obtain ⟨wx, A3, k3, f3, fo3, q1, q2⟩ := AL5 (b := b) (f12.wf hw) (by omega)
 obtain ⟨xs, hxs⟩ : ∃ x, x = splitB b := ⟨_, rfl⟩
 rw [<- hxs] at q1
 have hxl : ∀ y ∈ xs, y.length <= b.length := fun y q => AI2 (by rw [<- hxs]; exact q)
 have hx8 : xs.length <= 8 := by
  rw [hxs]; unfold splitB; split
  . simp
  . rename_i q; have : ¬ (readMsg b).list.length > 8 := fun z => q (.inr (.inr z)); omega
 have f13 := f12.then0 f3
 have w3 := f13.wf hw
 have rA3 : A3.blk[b2]? = _ := (f2.then0 f3).row0 r1
 obtain ⟨w6, A4, f6, y1, y2, y3, y4⟩ := A64 (P := Try.prog) (t := 43) (tx := 43) (n := 1) rfl w3 BW7 Try.underlying43 hl (hm.fr0 f13) (by omega) (by omega)
 have y2 : Lst eStr Hp.emp A4 w6 L (some f6) := y2
 have ldA : evLoad Try.prog 43 (.ptr b2 0) (A3.push ⟨[], .arr A3.blk.length 0⟩) = some lv := (BH0 ((Fr.pushArr A3 []).row0 rA3)).1
 have f14 := f13.then0 y4
 have w4 := f14.wf hw
 have hX5 := q1
 have hlx := fun B => q1.len (P := Try.prog) Try.underlying43 B
 simp only [RT, Q0, Q1, Q2, Q3, Q4, Q5, Q6, Q7, Q8, <- e1, <- hb2, B07, <- e2, <- hb4]
 refine Aa0 k3 ?_
 simp only [RT, Q0, Q1, Q2, Q3, Q4, Q5, Q6, Q7, Q8, Bw8, fa, ldA, y1]
 refine Aa2 (fun z e B => ∃ (i : Nat) (w : V) (fo : Option Nat) (L1 : List Bts), z = xs.length - i /\ i <= xs.length /\ L1 = (xs.take i).foldl addE L /\ e.get 7 = .int .i64 i /\ e.get 5 = wx /\ e.get 2 = .ptr b2 0 /\ e.get 4 = .ptr b4 0 /\ e.get 6 = w /\ Fr S0 A3 B /\ Lst eStr Hp.emp B w L1 fo /\ (∀ f, fo = some f -> A3.blk.length <= f) /\ (∀ x ∈ L1, entC x = 0) /\ L1.length <= 1000)
  (fun z e B => Is z (.exit 0) /\ ∃ (w : V) (fo : Option Nat) (L1 : List Bts), L1 = xs.foldl addE L /\ e.get 2 = .ptr b2 0 /\ e.get 4 = .ptr b4 0 /\ e.get 6 = w /\ Fr S0 A3 B /\ Lst eStr Hp.emp B w L1 fo /\ (∀ f, fo = some f -> A3.blk.length <= f) /\ (∀ x ∈ L1, entC x = 0) /\ L1.length <= 1000)
  ⟨_, 0, w6, some f6, L, rfl, by omega, rfl, rfl, rfl, rfl, rfl, rfl, y4, y2, fun f q => by cases q; exact y3, hE, hL⟩ ?_ ?_
 . rintro z e B ⟨i, w, fo, L1, rfl, hi, hL1, h7, h5, h2, h4, h6, hf, hLs, hfo, hE1, hln⟩
   simp only [RT, Q0, Q1, Q2, Q3, Q4, Q5, Q6, Q7, Q8, h7, h5, hlx]
   refine Aa1 (fun q1 => ?_) (fun q1 => ?_)
   rotate_left
   . have : i = xs.length := by omega
     subst this
     rw [List.take_length] at hL1
     simp only [RT, Q0, Q1, Q2, Q3, Q4, Q5, Q6, Q7, Q8]
     refine ⟨rfl, w, fo, L1, ?_⟩
     and_intros <;> first | rfl | assumption
   obtain ⟨y, hy⟩ := Ad0 (l := xs) (i := i) (by omega)
   have hyl := hxl y (List.mem_of_getElem? hy)
   obtain ⟨b', o, c, g1, g2, g3⟩ := (hX5.fr0 hf).at (P := Try.prog) (k := .i64) (Hp.on_emp B) Try.underlying43 sz9 ag9 hy
   rw [Bh7.1 g3] at g2
   have wB := hf.wf w3
   obtain ⟨_, C, k1, j1, X, dv, iv, lw, rfl, z1, z2⟩ := AC6 (b := y) wB (by omega)
   obtain ⟨D, t1, t2, t3⟩ := As3 (A := C) z1
   have ld := ldM t3 z1.id
   have fam := faM C.blk.length
   have jD := j1.then0 t2
   have fD := hf.then0 jD
   have wD := fD.wf w3
   have wi : IntKind.i64.wrap ((i : Int) + 1) = ((i + 1 : Nat) : Int) := by rw [Af3 (by omega)]
   have hLD := hLs.fr0 jD
   have hSD := hLD.slcArr (fun _ _ q => by cases q)
   have hnext : (xs.take (i + 1)).foldl addE L = addE L1 y := by rw [Ag5 hy, List.foldl_append, hL1]; rfl
   have hlw := fun B => hLD.len (P := Try.prog) Try.underlying43 B
   simp only [RT, Q0, Q1, Q2, Q3, Q4, Q5, Q6, Q7, Q8, h5, h7, g1, g2]
   refine Aa0 k1 ?_
   by_cases c0 : entC y = 0
   rotate_left
   . have hno : L1 = (xs.take (i + 1)).foldl addE L := by rw [hnext, Ao2 fun q => c0 q.1]
     simp only [RT, Q0, Q1, Q2, Q3, Q4, Q5, Q6, Q7, Q8, zcM, t1, c0, h7, wi]
     refine ⟨xs.length - (i + 1), by omega, i + 1, w, fo, L1, rfl, by omega, ?_⟩
     and_intros <;> first | rfl | assumption
   have hX := z2 c0
   have hnm : (X.who, X.num) = nmOf y := by rw [hX]; rfl
   obtain ⟨_, E, kf, jf, rfl⟩ := AS0 (sv := .snil) wD (Af0 D) hSD hE1 hln X.who X.num
   have fE := fD.then0 jf
   simp only [RT, Q0, Q1, Q2, Q3, Q4, Q5, Q6, Q7, Q8, zcM, t1, c0, h6, BH1 hLs.form, fam, ld]
   refine Aa0 kf ?_
   by_cases c2 : findR L1 (X.who, X.num) >= 0
   . have hno : L1 = (xs.take (i + 1)).foldl addE L := by
      rw [hnext, Ao2 fun q => ?_]
      rw [hnm] at c2
      exact ((AS1 L1).1 c2) q.2.1
     have hLE := hLD.fr0 jf
     simp only [RT, Q0, Q1, Q2, Q3, Q4, Q5, Q6, Q7, Q8, decide_eq_true c2, h7, wi]
     refine ⟨xs.length - (i + 1), by omega, i + 1, w, fo, L1, rfl, by omega, ?_⟩
     and_intros <;> first | rfl | assumption
   by_cases c3 : (L1.length : Int) >= 1000
   . have hno : L1 = (xs.take (i + 1)).foldl addE L := by rw [hnext, Ao2 fun q => by have := q.2.2; omega]
     have hLE := hLD.fr0 jf
     simp only [RT, Q0, Q1, Q2, Q3, Q4, Q5, Q6, Q7, Q8, decide_eq_false c2, h6, hlw, decide_eq_true c3, h7, wi]
     refine ⟨xs.length - (i + 1), by omega, i + 1, w, fo, L1, rfl, by omega, ?_⟩
     and_intros <;> first | rfl | assumption
   have hyes : L1 ++ [y] = (xs.take (i + 1)).foldl addE L := by
    rw [hnext, At7 c0 ?_ (by omega)]
    rw [hnm] at c2
    exact Classical.byContradiction fun q => c2 ((AS1 L1).2 q)
   obtain ⟨w', F, fo', p1, p2, p3, p4⟩ := (hLD.fr0 jf).push (P := Try.prog) (t := 43) (tx := 43) (n := 1) rfl BW7 Try.underlying43 (fE.wf w3) (y := y) (cs' := [.str y]) rfl (by omega) (by omega)
   obtain ⟨b'', o', c', g1', g2', g3'⟩ := ((hX5.fr0 hf).fr0 (jD.then0 jf)).at (P := Try.prog) (k := .i64) (Hp.on_emp E) Try.underlying43 sz9 ag9 hy
   rw [Bh7.1 g3'] at g2'
   have fF : Fr S0 A3 F := fE.newFam w3 p3 hfo
   have hfo' : ∀ f, fo' = some f -> A3.blk.length <= f := fun f q => by
    rcases p4.or q with y | y
    . exact hfo f y
    . have := fE.len; omega
   have hE2 : ∀ x ∈ L1 ++ [y], entC x = 0 := fun x hx => by
    rcases List.mem_append.1 hx with hx | hx
    . exact hE1 x hx
    . rw [List.mem_singleton.1 hx]; exact c0
   have hln2 : (L1 ++ [y]).length <= 1000 := by rw [List.length_append]; simp; omega
   simp only [RT, Q0, Q1, Q2, Q3, Q4, Q5, Q6, Q7, Q8, decide_eq_false c2, h6, hlw, decide_eq_false c3, h5, h7, g1', g2', BF9, p1, wi]
   refine ⟨xs.length - (i + 1), by omega, i + 1, w', fo', L1 ++ [y], rfl, by omega, ?_⟩
   and_intros <;> first | rfl | assumption
 . rintro z e B hz ⟨rfl, w, fo, L1, hL1, h2, h4, h6, hf, hLs, hfo, hE1, hln⟩
   have fB := f13.then0 hf
   have wB := fB.wf hw
   have rB2 := hf.row0 rA3
   have rB4 := (f3.then0 hf).row0 r2
   obtain ⟨u, C, f10, x1, x2, x3, x4⟩ := A64 (P := Try.prog) (t := 52) (tx := 52) (n := 1) rfl wB BY6 Try.underlying52 hs (hm.fr0 fB) (by omega) (by omega)
   have x2 : Lst (eInt .i64) Hp.emp C u Ss (some f10) := x2
   have wC := x4.wf wB
   obtain ⟨u', D, fo', p1, p2, p3, p4⟩ := x2.push (P := Try.prog) (t := 52) (tx := 52) (n := 1) rfl BY6 Try.underlying52 wC (y := (L1.length : Int)) (cs' := [.int .i64 (L1.length : Int)]) rfl (by omega) (by omega)
   have ldB : evLoad Try.prog 52 (.ptr b2 1) (B.push ⟨[], .arr B.blk.length 0⟩) = some sv := (BH0 ((Fr.pushArr B []).row0 rB2)).2.1
   have hlw := fun X => hLs.len (P := Try.prog) Try.underlying43 X
   have fBD : Fr S0 B D := x4.newFam wB p3 fun f q => by cases q; exact x3
   have fD := fB.then0 fBD
   have hLD := hLs.fr0 fBD
   obtain ⟨E, s1, s2, s3⟩ := BH3 (fBD.row0 rB4) (v' := w) (w' := u') hLD.one p2.one
   have hlo : A.blk.length <= b4 := by have := f1.len; omega
   have nb : ∀ {fo : Option Nat}, Off fo D (· = .row b4) := .box (fBD.row0 rB4)
   have h3 := f13.len
   have hres : xs.foldl addE L = applyB L b := by rw [hxs]; rfl
   rw [hres] at hL1
   simp only [RT, Q0, Q1, Q2, Q3, Q4, Q5, Q6, Q7, Q8, BS0, h2, fa, ldB, x1, h6, hlw, BS1, p1, BH2 hLD.form p2.form, h4, s1, (BH0 s3).2.2]
   subst hL1
   refine ⟨fD.row_ s2 hlo, w, u', fo, fo', rfl, hLD.fr s2 nb, p2.fr s2 nb, fun f q => by have := hfo f q; omega, fun f q => ?_, hE1, hln⟩
   rcases p4.or q with y | y
   . cases y; have := fB.len; omega
   . have := (fB.then0 x4).len; omega
end
end Go.Sv.Try
namespace Go.Sv
open Go
theorem Bd7 {P : Program} {H : Hints} {f : FuncId} {nt : Nat} {ops : Array Oper} {o : Oper} {r : List Oper} {k2 : List Kt} {e : Env} {A : AS} {Q : Ex -> Env -> AS -> Prop} {v : V} {want : Bool} {j d : Nat} (hg : o.guard = some (j, want)) (hd : (ops[j]?).bind (·.dst) = some d) (hv : e.get d = v) (hok : dstOk nt o = true)
 (R : Ex -> Env -> AS -> Prop) (h : contG P H f nt v want o [.ops ops r] e A R) (hk : ∀ x e A, R x e A -> Run P H f nt k2 x e A Q) : contG P H f nt v want o (.ops ops r :: k2) e A Q := by
 have key : ∀ (k : List Kt) (Q : Ex -> Env -> AS -> Prop), Run P H f nt (.ops ops (o :: r) :: k) .normal e A Q = (dstOk nt o = true /\ contG P H f nt v want o (.ops ops r :: k) e A Q) := fun k Q => by
  rw [Bh6]; unfold runO; rw [hg]; simp only [hd, hv]
 have := Al6 (k1 := [.ops ops (o :: r)]) (k2 := k2) (R := R) (Q := Q) (x := .normal) (by rw [key]; exact ⟨hok, h⟩) hk
 rw [List.singleton_append, key] at this
 exact this.2
end Go.Sv
namespace Go.Sv.Try
open Go Go.Proofs
def NumOk (Hs : List HdP) : Prop := ∀ (k : Nat) h, Hs[k]? = some h -> h.1 = ((k + 1 : Nat) : Int)
theorem NumOk.add {Hs : List HdP} {L : List Bts} (h : NumOk Hs) : NumOk (Hs ++ [hdOf Hs L]) := fun k x hx => by
 rcases Nat.lt_or_ge k Hs.length with q | q
 . rw [List.getElem?_append_left q] at hx; exact h k x hx
 . rw [List.getElem?_append_right q] at hx
   have : k - Hs.length = 0 := by have := (List.getElem?_eq_some_iff.1 hx).1; simp at this; omega
   rw [this] at hx
   cases hx
   show ((Hs.length + 1 : Nat) : Int) = _
   congr 1; omega
def sizesH (Hs : List HdP) : List Int := Hs.map (·.2.1)
section
variable {A B C : AS} {m : Hp} {Z : Nat -> Prop} {bp tp r : Nat} {L : List Bts} {Hs : List HdP} {fl ft fh : Option Nat} {lv sv : V} {a0 a1 : Int}
end
end Go.Sv.Try
