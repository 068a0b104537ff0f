/- A book, with the document's beside it. -/
import Derived.Test.YtjhnciflgaijjaaBpA
set_option linter.unusedSimpArgs false
set_option linter.unusedVariables false
open Nat renaming reduceLT → Q0, reduceBEq → Q1, reduceEqDiff → Q2, reduceAdd → Q3
open Int renaming reduceEq → Q4, reduceLT → Q5, reduceLE → Q6, reduceGT → Q7, reduceGE → Q8
namespace Go.Sv.Try
open Go Go.Proofs
structure PlB (Z : Nat -> Prop) (A B : AS) (bp tp r b6 : Nat) (L : List Bts) (Hs : List HdP) (lv sv : V) (fl ft fh : Option Nat) : Prop where
 fr : Fr S0 A B
 bk : IsBk Z B bp tp r L Hs fl ft fh
 bx : B.blk[b6]? = some ⟨[lv, sv], .var⟩
 li : Slc eStr (qHp (bkX Z fl ft fh) B) lv L
 si : Slc (eInt .i64) (qHp (bkX Z fl ft fh) B) sv (sizesH Hs)
 n1 : b6 ≠ bp
 n2 : b6 ≠ tp
 lf : ∀ f, bkF fl ft fh f -> A.blk.length <= f
 l1 : A.blk.length <= bp
 l2 : A.blk.length <= tp
 l3 : A.maps.length <= r
 l4 : A.blk.length <= b6
 ok : HdOk L Hs
 nu : NumOk Hs
 on : OnceN L
section
variable {A B C : AS} {m : Hp} {Z : Nat -> Prop} {bp tp r b6 : Nat} {L : List Bts} {Hs : List HdP} {fl ft fh : Option Nat} {lv sv : V}
theorem PlB.fr0 (h : PlB Z A B bp tp r b6 L Hs lv sv fl ft fh) (hf : Fr S0 B C) : PlB Z A C bp tp r b6 L Hs lv sv fl ft fh :=
 { h with fr := h.fr.then0 hf, bk := h.bk.fr0 hf, bx := hf.row0 h.bx, li := h.li.mono (At5 hf), si := h.si.mono (At5 hf) }
theorem PlB.app (h : PlB Z A B bp tp r b6 L Hs lv sv fl ft fh) (hw : WF A) (hZ : ∀ f, Z f -> f < B.blk.length) (hd : ∀ f, bkF fl ft fh f -> ¬ Z f) (hm : m.on B) (h6 : m b6 = none) {v : V} {b : Bts} (hv : Slc eU8 m v b) (hb : b.length <= 1000000000) (hH : Hs.length <= 1000) :
 ∃ lv' sv' C D E fl' ft' fh', EvF Try.prog HH 49 [.agg [lv, sv], .str b] B (.agg [lv', sv']) C /\ Fr S0 B C /\ evStore Try.prog 99 (.ptr b6 0) (.agg [lv', sv']) C = some D /\ D.blk[b6]? = some ⟨[lv', sv'], .var⟩ /\
  (∀ X, evLen Try.prog 43 lv' X = some (.int .i64 (applyB L b).length)) /\ (∀ X, evLen Try.prog 52 sv' X = some (.int .i64 ((Hs.length + 1 : Nat) : Int))) /\
  EvF Try.prog HH 44 [.ptr bp 0, v] D (.int .i64 (((applyB L b).length : Int) - L.length)) E /\ Fr (fun z => z = .row b6 ∨ bkS B bp tp r fl ft fh z) B E /\
  PlB Z A E bp tp r b6 (applyB L b) (Hs ++ [hdOf Hs (applyB L b)]) lv' sv' fl' ft' fh' /\ ∀ f, bkF fl' ft' fh' f -> bkF fl ft fh f ∨ B.blk.length <= f := by
 have hwB := h.fr.wf hw
 obtain ⟨o1, o2, o3, o4, o5⟩ := h.bk.raw.lt
 have hlt : ∀ f, bkX Z fl ft fh f -> f < B.blk.length := fun f q => by
  rcases q with q | q | q | q
  . exact hZ f q
  . exact o3 f q
  . exact o4 f q
  . exact o5 f q
 have hln : (sizesH Hs).length = Hs.length := by unfold sizesH; rw [List.length_map]
 obtain ⟨_, C, k1, f1, lv', sv', g1, g2, rfl, q1, q2, q3, q4, q5, q6⟩ := AM5 hwB (AX8 _ B) h.li h.si h.bk.ent h.bk.len (by omega) hb
 have wC := f1.wf hwB
 have bxC := f1.row0 h.bx
 obtain ⟨D, s1, s2, s3⟩ := BJ9 bxC (v' := lv') (w' := sv') q1.one q2.one
 have wD := s2.wf wC
 have bkD : IsBk Z D bp tp r L Hs fl ft fh := ⟨(h.bk.raw.fr0 f1).row wC s2 bxC h.n1 h.n2, h.bk.ent, h.bk.len⟩
 have nb : ∀ {fo : Option Nat}, Off fo C (· = .row b6) := .box bxC
 have q1D := q1.fr s2 nb
 have q2D := q2.fr s2 nb
 have l1 := f1.len
 have l2 := s2.len
 obtain ⟨_, E, k2, rfl, f3, fl', ft', fh', kE, e1, e2, e3⟩ := Ar0 wD (fun f q => by have := hZ f q; omega) bkD ((hm.fr0 f1).fr s2 fun c q => by cases q; exact h6) hv (by omega) (by omega)
 have tc := Bf5 (X := bkX Z fl ft fh) bkD.raw fun f q => .inr q
 have gr : ∀ f, bkF fl' ft' fh' f -> bkF fl ft fh f ∨ D.blk.length <= f := fun f q => by
  rcases q with q | q | q
  . exact (e1.or q).imp .inl id
  . exact (e2.or q).imp (fun z => .inr (.inl z)) id
  . exact (e3.or q).imp (fun z => .inr (.inr z)) id
 have hq := An7 (Y := bkX Z fl' ft' fh') f3 tc wD fun f q => by
  rcases q with q | q
  . exact .inl (.inl q)
  . exact (gr f q).imp .inr id
 have s1E := (q1D.slcQ (X := bkX Z fl ft fh) (fun _ _ q => by cases q) fun f z q => by have := q3 f z; have := hlt f q; omega).mono hq
 have s2E := (q2D.slcQ (X := bkX Z fl ft fh) (fun _ _ q => by cases q) fun f z q => by have := q4 f z; have := hlt f q; omega).mono hq
 have bxE := f3.row _ _ s3 (A08 s3 h.n1 h.n2)
 have hsz : sizesH Hs ++ [((applyB L b).length : Int)] = sizesH (Hs ++ [hdOf Hs (applyB L b)]) := by unfold sizesH; rw [List.map_append]; rfl
 rw [hsz] at s2E
 have fBD : Fr (fun z => z = .row b6) B D := f1.after0 s2
 have lo1 : ∀ f, fl = some f -> A.blk.length <= f := fun f q => h.lf f (.inl q)
 have lo2 : ∀ f, ft = some f -> A.blk.length <= f := fun f q => h.lf f (.inr (.inl q))
 have lo3 : ∀ f, fh = some f -> A.blk.length <= f := fun f q => h.lf f (.inr (.inr q))
 have fAD : Fr S0 A D := h.fr.trans fBD fun z q => .inr (by subst q; exact h.l4)
 have hAB := h.fr.len
 have fBE : Fr (fun z => z = .row b6 ∨ bkS B bp tp r fl ft fh z) B E := (fBD.mono fun z q => .inl q).trans f3 fun z q => by
  rcases q with q | q | q | q | q | q
  . exact .inl (.inr (.inl q))
  . exact .inl (.inr (.inr (.inl q)))
  . exact .inl (.inr (.inr (.inr (.inl q))))
  . exact (Ae1 fBD q).imp (fun y => .inr (.inr (.inr (.inr (.inl y))))) id
  . exact (Ae1 fBD q).imp (fun y => .inr (.inr (.inr (.inr (.inr (.inl y)))))) id
  . exact (Ae1 fBD q).imp (fun y => .inr (.inr (.inr (.inr (.inr (.inr y)))))) id
 refine ⟨lv', sv', C, D, E, fl', ft', fh', k1, f1, s1, s3, fun X => q1.len (P := Try.prog) Try.underlying43 X, fun X => ?_, k2, fBE, { fr := ?_, bk := kE, bx := bxE, li := s1E, si := s2E, n1 := h.n1, n2 := h.n2, lf := fun f q => ?_, l1 := h.l1, l2 := h.l2, l3 := h.l3, l4 := h.l4, ok := h.ok.apply b, nu := h.nu.add, on := A97 h.on b }, fun f q => (gr f q).imp id fun z => by omega⟩
 . rw [q2.len (P := Try.prog) Try.underlying52 X, List.length_append, hln]; rfl
 . exact fAD.trans f3 fun z y => .inr (AM2 hw fAD h.l1 h.l2 h.l3 lo1 lo2 lo3 z y)
 . rcases gr f q with y | y
   . exact h.lf f y
   . omega
end
end Go.Sv.Try
namespace Go.Sv.Try
open Go Go.Proofs
section
variable {A B C : AS} {m : Hp}
theorem By3 {L : List Bts} {i : Nat} {x : Bts} (ho : OnceN L) (hx : L[i]? = some x) : lookL (mapOf L) (nmOf x) = some i := by
 unfold mapOf
 rw [Ax1 (i := i) 0 (fun y hy q => ?_) hx rfl, Nat.zero_add]
 obtain ⟨j, hj⟩ := List.getElem?_of_mem hy
 have hji : j < i := by have := (List.getElem?_eq_some_iff.1 hj).1; rw [List.length_take] at this; omega
 rw [List.getElem?_take_of_lt hji] at hj
 have h1 := List.getElem?_eq_some_iff.1 hj
 have h2 := List.getElem?_eq_some_iff.1 hx
 have := List.pairwise_iff_getElem.1 ho j i (by rw [List.length_map]; exact h1.1) (by rw [List.length_map]; exact h2.1) hji
 rw [List.getElem_map, List.getElem_map, h1.2, h2.2] at this
 exact this q
theorem B53 {b : Nat} {x y : Int} {k : BK} (h : A.blk[b]? = some ⟨[.int .i64 x, .int .i64 y], k⟩) : evLoad Try.prog 64 (.ptr b 0) A = some (.agg [.int .i64 x, .int .i64 y]) := AL6 (P := Try.prog) B66 B65 h rfl
set_option maxRecDepth 10000 in
set_option maxHeartbeats 32000000 in
theorem bookPlays_spec {v : V} {xs : List Bts} {a0 a1 : Int} (hw : WF A) (hm : m.on A) (hl : Slc (eSl eU8) m v xs) :
 ∃ w A', EvF Try.prog HH 11 [v, .agg [.int .i64 a0, .int .i64 a1]] A w A' /\ w = .bool true := by
 refine Aa5 rfl Try.func11 (by unfold Try.f11; rfl) Try.ntmps11 (by unfold Try.f11; rfl) (by simp) ?_
 have hlen := fun B => hl.len (P := Try.prog) Try.underlying22 B
 obtain ⟨A1, e1, f1, r1, n1⟩ := Aa8 A [.int .i64 a0, .int .i64 a1]
 obtain ⟨b3, hb3⟩ : ∃ b, b = A.blk.length := ⟨_, rfl⟩
 rw [<- hb3] at r1
 have w1 := f1.wf hw
 obtain ⟨_, A2, k2, rfl, f2⟩ := AG0 w1
 have w2 := f2.wf w1
 simp only [RT, Q0, Q1, Q2, Q3, Q4, Q5, Q6, Q7, Q8, <- e1, <- hb3]
 refine Aa0 k2 ?_
 by_cases c1 : (xs.length : Int) > 12
 . simp only [RT, Q0, Q1, Q2, Q3, Q4, Q5, Q6, Q7, Q8, hlen, decide_eq_true c1]
 obtain ⟨_, A3, k3, f3, bp, tp, r, ft, rfl, hB, hft, g1, g2, g3⟩ := Az2 (Z := fun _ => False) w2
 have w3 := f3.wf w2
 simp only [RT, Q0, Q1, Q2, Q3, Q4, Q5, Q6, Q7, Q8, hlen, decide_eq_false c1]
 refine Aa0 k3 ?_
 obtain ⟨A4, e4, f4, r4, n4⟩ := Aa8 A3 [.snil, .snil]
 obtain ⟨b6, hb6⟩ : ∃ b, b = A3.blk.length := ⟨_, rfl⟩
 rw [<- hb6] at r4
 have lp := hB.raw.lt
 have l1 := f1.len
 have l2 := f2.len
 have l3 := f3.len
 have l1' := f1.mlen
 have l2' := f2.mlen
 have f14 : Fr S0 A1 A4 := (f2.then0 f3).then0 f4
 have hP : PlB (fun _ => False) A1 A4 bp tp r b6 [] [] .snil .snil none ft none := {
  fr := f14, bk := hB.fr0 f4, bx := r4, li := .inl ⟨rfl, rfl⟩, si := .inl ⟨rfl, rfl⟩, n1 := by have := lp.1; omega, n2 := by have := lp.2.1; omega
  lf := fun f q => by
   rcases q with q | q | q
   . cases q
   . have := hft f q; omega
   . cases q
  l1 := by omega, l2 := by omega, l3 := by omega, l4 := by omega, ok := fun x q => (by cases q), nu := fun k x q => (by simp at q), on := List.nodup_nil }
 have fa := BF8 b6
 simp only [RT, Q0, Q1, Q2, Q3, Q4, Q5, Q6, Q7, Q8, B15, <- e4, <- hb6, B14, hlen]
 refine Aa2 (fun z e B => ∃ (i : Nat) (L : List Bts) (Hs : List HdP) (lv sv : V) (fl ft fh : Option Nat), z = xs.length - i /\ i <= xs.length /\ Hs.length = i /\ e.get 32 = .int .i64 i /\ e.get 31 = .int .i64 xs.length /\ e.get 30 = v /\ e.get 3 = .ptr b3 0 /\ e.get 5 = .ptr bp 0 /\ e.get 6 = .ptr b6 0 /\ PlB (fun _ => False) A1 B bp tp r b6 L Hs lv sv fl ft fh)
  (fun z e B => (Is z .ret /\ e.get 4 = .bool true) ∨ (Is z (.exit 0) /\ ∃ (L : List Bts) (Hs : List HdP) (lv sv : V) (fl ft fh : Option Nat), Hs.length <= 12 /\ e.get 3 = .ptr b3 0 /\ e.get 5 = .ptr bp 0 /\ e.get 6 = .ptr b6 0 /\ PlB (fun _ => False) A1 B bp tp r b6 L Hs lv sv fl ft fh))
  ⟨_, 0, [], [], .snil, .snil, none, ft, none, rfl, by omega, rfl, rfl, rfl, rfl, rfl, rfl, rfl, hP⟩ ?_ ?_
 . clear hP
   rintro z e B ⟨i, L, Hs, lv, sv, fl, ft, fh, rfl, hi, hHs, h32, h31, h30, h3, h5, h6, hP⟩
   simp only [RT, Q0, Q1, Q2, Q3, Q4, Q5, Q6, Q7, Q8, h32, h31]
   refine Aa1 (fun q1 => ?_) (fun q1 => ?_)
   rotate_left
   . simp only [RT, Q0, Q1, Q2, Q3, Q4, Q5, Q6, Q7, Q8]
     exact .inr ⟨rfl, L, Hs, lv, sv, fl, ft, fh, by omega, h3, h5, h6, hP⟩
   obtain ⟨x, hx⟩ := Ac7 (l := xs) (i := i) (by omega)
   have hmB := (hm.fr0 f1).fr0 hP.fr
   obtain ⟨b, o, c, y3, y4, y5⟩ := hl.at (P := Try.prog) (k := .i64) hmB Try.underlying22 AY1 A47 hx
   rw [AO4] at y5
   have hcl := fun B => y5.len (P := Try.prog) Try.underlying44 B
   have hcv := fun {B : AS} (q : m.on B) => AB9 (P := Try.prog) (A := B) (s := 44) (d := 9) (by decide) y5 q Try.underlying44 Try.underlying5 Try.underlying9
   by_cases d1 : (x.length : Int) > 4000
   . simp only [RT, Q0, Q1, Q2, Q3, Q4, Q5, Q6, Q7, Q8, h30, h32, y3, y4, hcl, decide_eq_true d1]
     exact .inl rfl
   have m6 : m b6 = none := (hm.fr0 f1).fresh hP.l4
   obtain ⟨lv', sv', C, D, E, fl', ft', fh', k5, j1, s1, s2, q3, q4, k6, fE, hP', _⟩ := hP.app w1 (fun f q => q.elim) (fun f _ q => q.elim) hmB m6 y5 (by omega) (by omega)
   have ldb := AX9 hP.bx
   have hll : ∀ X, evLen Try.prog 43 lv X = some (.int .i64 L.length) := fun X => hP.li.len (P := Try.prog) Try.underlying43 X
   obtain ⟨L', hL'⟩ : ∃ l, l = applyB L x := ⟨_, rfl⟩
   rw [<- hL'] at q3 k6 hP'
   have hlL := hP.bk.len
   have hlL' := hP'.bk.len
   have hwd : IntKind.i64.wrap ((L'.length : Int) - (L.length : Int)) = (L'.length : Int) - (L.length : Int) := Ac4 (by omega) (by omega)
   have hwi : IntKind.i64.wrap ((i : Int) + 1) = ((i + 1 : Nat) : Int) := by rw [Ad7 (by omega)]
   have ldD := AX9 s2
   have ldE := AX9 hP'.bx
   have ks := Ai1 hP'.bk.raw
   have kh := Ap7 hP'.bk.raw
   have hHs2 : (Hs ++ [hdOf Hs L']).length = i + 1 := by rw [List.length_append, hHs]; rfl
   rw [hHs2] at kh
   rw [hHs] at q4
   simp only [RT, Q0, Q1, Q2, Q3, Q4, Q5, Q6, Q7, Q8, h30, h32, y3, y4, hcl, decide_eq_false d1, h6, fa, ldb, hll, hcv hmB]
   refine Aa0 k5 ?_
   simp only [RT, Q0, Q1, Q2, Q3, Q4, Q5, Q6, Q7, Q8, h6, s1, Bs1, h5, fa, ldD, q3, hwd, Aa3]
   refine Aa0 k6 ?_
   simp only [RT, Q0, Q1, Q2, Q3, Q4, Q5, Q6, Q7, Q8, Aa3]
   refine ⟨Aa4 (ha := rfl) rfl ldE.1 rfl Aa3, ?_⟩
   simp only [RT, Q0, Q1, Q2, Q3, Q4, Q5, Q6, Q7, Q8, h5, h6, fa, ldE, q3, Aa3]
   refine Aa0 ks ?_
   simp only [RT, Q0, Q1, Q2, Q3, Q4, Q5, Q6, Q7, Q8, Aa3]
   refine ⟨AP5 (ha := rfl) rfl rfl rfl rfl ldE.1 rfl Aa3, ?_⟩
   simp only [RT, Q0, Q1, Q2, Q3, Q4, Q5, Q6, Q7, Q8, h5, h6, fa, ldE, q4, Aa3]
   refine Aa0 kh ?_
   simp only [RT, Q0, Q1, Q2, Q3, Q4, Q5, Q6, Q7, Q8, Aa3]
   refine ⟨AP5 (ha := rfl) rfl rfl rfl rfl ldE.2.1 rfl Aa3, ?_⟩
   simp only [RT, Q0, Q1, Q2, Q3, Q4, Q5, Q6, Q7, Q8, Aa3, h32, hwi]
   refine ⟨xs.length - (i + 1), by omega, i + 1, L', Hs ++ [hdOf Hs L'], lv', sv', fl', ft', fh', rfl, by omega, hHs2, ?_⟩
   and_intros <;> first | rfl | assumption
 clear hP
 rintro z e B hz (⟨rfl, h4⟩ | ⟨rfl, L, Hs, lv, sv, fl, ft, fh, hHs, h3, h5, h6, hP⟩)
 . simp only [RT, Q0, Q1, Q2, Q3, Q4, Q5, Q6, Q7, Q8, h4]
 have wB := hP.fr.wf w1
 obtain ⟨mm, hmm⟩ : ∃ x, x = qHp (bkX (fun _ => False) fl ft fh) B := ⟨_, rfl⟩
 have hmo : mm.on B := by rw [hmm]; exact AX8 _ _
 have hli := hP.li
 have hsi := hP.si
 rw [<- hmm] at hli hsi
 have hll : ∀ X, evLen Try.prog 43 lv X = some (.int .i64 L.length) := fun X => hli.len (P := Try.prog) Try.underlying43 X
 have hsz : (sizesH Hs).length = Hs.length := by unfold sizesH; rw [List.length_map]
 have hsl : ∀ X, evLen Try.prog 52 sv X = some (.int .i64 Hs.length) := fun X => by rw [<- hsz]; exact hsi.len (P := Try.prog) Try.underlying52 X
 have hlL := hP.bk.len
 have hxe : ∀ x ∈ L, x.length <= 1000000000 := fun x q => by have := AC9 (hP.bk.ent x q); omega
 simp only [RT, Q0, Q1, Q2, Q3, Q4, Q5, Q6, Q7, Q8, h6, fa, AX9 hP.bx, hll]
 refine Aa2 (fun z e C => ∃ (i : Nat), z = L.length - i /\ i <= L.length /\ e.get 75 = .int .i64 i /\ e.get 74 = .int .i64 L.length /\ e.get 73 = lv /\ e.get 3 = .ptr b3 0 /\ e.get 5 = .ptr bp 0 /\ e.get 6 = .ptr b6 0 /\ Fr S0 B C)
  (fun z e C => Is z (.exit 2) /\ e.get 3 = .ptr b3 0 /\ e.get 5 = .ptr bp 0 /\ e.get 6 = .ptr b6 0 /\ Fr S0 B C)
  ⟨_, 0, rfl, by omega, rfl, rfl, rfl, h3, h5, h6, .refl _ _⟩ ?_ ?_
 . clear h3 h5 h6
   rintro z e C ⟨i, rfl, hi, h75, h74, h73, h3, h5, h6, hf⟩
   simp only [RT, Q0, Q1, Q2, Q3, Q4, Q5, Q6, Q7, Q8, h75, h74]
   refine Aa1 (fun q1 => ?_) (fun q1 => ?_)
   rotate_left
   . simp only [RT, Q0, Q1, Q2, Q3, Q4, Q5, Q6, Q7, Q8]
     exact ⟨rfl, h3, h5, h6, hf⟩
   obtain ⟨s, hs⟩ := Ac7 (l := L) (i := i) (by omega)
   have hse := hP.bk.ent s (List.mem_of_getElem? hs)
   have hsl := AC9 hse
   obtain ⟨b, o, c, y3, y4, y5⟩ := hli.at (P := Try.prog) (k := .i64) (hmo.fr0 hf) Try.underlying43 sz9 ag9 hs
   rw [AW7.1 y5] at y4
   have wC := hf.wf wB
   obtain ⟨_, C1, p1, j1, hat⟩ := AD1 wC (hP.bk.raw.fr0 hf) hxe (i : Int)
   rcases hat with ⟨q, _⟩ | ⟨n, y, c, hn, hy, rfl, hc⟩
   . omega
   have hn : i = n := by omega
   subst hn
   rw [hs] at hy
   cases hy
   obtain ⟨_, C2, p2, j2, X, dv, iv, lw, rfl, z1, z2⟩ := As6 (b := s) (j1.wf wC) (by omega)
   have hX := z2 hse
   have hnm : (X.who, X.num) = nmOf s := by rw [hX]; rfl
   obtain ⟨C3, t1, t2, t3⟩ := Ap6 (A := C2) z1
   have ldm := ldM t3 z1.id
   have fam := faM C2.blk.length
   have j13 := (j1.then0 j2).then0 t2
   have fC3 := hf.then0 j13
   have kf := Ao3 (hP.bk.raw.fr0 fC3) X.who X.num
   rw [hnm, By3 hP.on hs] at kf
   have kf : EvF Try.prog HH 50 [.ptr bp 0, .int .i64 X.who, .int .i64 X.num] C3 (.tup [.int .i64 i, .int .i64 0]) C3 := kf
   have hmc := ((AP0 C.blk.length C1).fr0 j2).fr0 t2
   have hcv := AB9 (P := Try.prog) (A := C3) (s := 44) (d := 9) (by decide) hc hmc Try.underlying44 Try.underlying5 Try.underlying9
   have hwi : IntKind.i64.wrap ((i : Int) + 1) = ((i + 1 : Nat) : Int) := by rw [Ad7 (by omega)]
   simp only [RT, Q0, Q1, Q2, Q3, Q4, Q5, Q6, Q7, Q8, h73, h75, y3, y4, h5]
   refine Aa0 p1 ?_
   simp only [RT, Q0, Q1, Q2, Q3, Q4, Q5, Q6, Q7, Q8]
   refine Aa0 p2 ?_
   rw [hse]
   simp only [RT, Q0, Q1, Q2, Q3, Q4, Q5, Q6, Q7, Q8, zcM, t1, h5, fam, ldm]
   refine Aa0 kf ?_
   simp only [RT, Q0, Q1, Q2, Q3, Q4, Q5, Q6, Q7, Q8, hcv, h75, hwi]
   refine ⟨L.length - (i + 1), by omega, i + 1, rfl, by omega, ?_⟩
   and_intros <;> first | rfl | assumption
 clear h3 h5 h6
 rintro z e C hz ⟨rfl, h3, h5, h6, hf⟩
 have hPC := hP.fr0 hf
 simp only [RT, Q0, Q1, Q2, Q3, Q4, Q5, Q6, Q7, Q8, h6, fa, AX9 hPC.bx, hsl]
 refine Aa2 (fun z e D => ∃ (k : Nat), z = Hs.length - k /\ k <= Hs.length /\ e.get 121 = .int .i64 k /\ e.get 120 = .int .i64 Hs.length /\ e.get 119 = sv /\ e.get 3 = .ptr b3 0 /\ e.get 5 = .ptr bp 0 /\ e.get 6 = .ptr b6 0 /\ Fr S0 B D)
  (fun z e D => Is z (.exit 4) /\ e.get 3 = .ptr b3 0 /\ e.get 5 = .ptr bp 0 /\ e.get 6 = .ptr b6 0 /\ Fr S0 B D)
  ⟨_, 0, rfl, by omega, rfl, rfl, rfl, h3, h5, h6, hf⟩ ?_ ?_
 . clear h3 h5 h6
   rintro z e D ⟨k, rfl, hk, h121, h120, h119, h3, h5, h6, hf⟩
   simp only [RT, Q0, Q1, Q2, Q3, Q4, Q5, Q6, Q7, Q8, h121, h120]
   refine Aa1 (fun q1 => ?_) (fun q1 => ?_)
   rotate_left
   . simp only [RT, Q0, Q1, Q2, Q3, Q4, Q5, Q6, Q7, Q8]
     exact ⟨rfl, h3, h5, h6, hf⟩
   obtain ⟨x, hx⟩ := Ac7 (l := Hs) (i := k) (by omega)
   obtain ⟨hr, hx32⟩ := hP.ok x (List.mem_of_getElem? hx)
   have hnum := hP.nu k x hx
   have hs : (sizesH Hs)[k]? = some x.2.1 := by unfold sizesH; rw [List.getElem?_map, hx]; rfl
   obtain ⟨hr1, hr2, hr3⟩ := hr
   obtain ⟨n, hn⟩ := Int.eq_ofNat_of_zero_le hr1
   rw [hn] at hr2 hs
   rw [hn, Int.toNat_natCast] at hr3
   have hxx : x = (((k + 1 : Nat) : Int), (n : Int), x.2.2) := by rw [<- hnum, <- hn]
   obtain ⟨b, o, c, y3, y4, y5⟩ := hsi.at (P := Try.prog) (k := .i64) (hmo.fr0 hf) Try.underlying52 sz3 ag3 hs
   rw [Bw1.1 y5] at y4
   have wD := hf.wf wB
   obtain ⟨_, D1, p1, j1, hat⟩ := Ao4 wD (hP.bk.raw.fr0 hf) (by omega) ((k + 1 : Nat) : Int)
   have hh : headAt Hs ((k + 1 : Nat) : Int) = some x := by
    unfold headAt
    rw [if_neg (by omega), show (((k + 1 : Nat) : Int) - 1).toNat = k by omega, hx]
   rw [hh] at hat
   obtain ⟨rfl, _⟩ := hat
   obtain ⟨D2, t1, t2, t3⟩ := Be6 (A := D1) hx32
   obtain ⟨b20, hb20⟩ : ∃ b, b = D1.blk.length := ⟨_, rfl⟩
   rw [<- hb20] at t1 t3
   have fD2 := (hf.then0 j1).then0 t2
   have ldh := (Bn4 t3 hx32).2.2.2
   have rbD := AX9 ((hP.fr0 fD2).bx)
   obtain ⟨_, D3, p3, j3, rfl⟩ := AG1 (lv := lv) (sv := sv) (fD2.wf wB) (hmo.fr0 fD2) hli hxe (by omega) hli.one hsi.one (n := n) (by omega)
   have hroot : rootR ((L.take n).map leafH) = x.2.2 := by rw [<- hr3, List.map_take]
   rw [hroot] at p3
   have hwk : IntKind.i64.wrap ((k : Int) + 1) = ((k + 1 : Nat) : Int) := by rw [Ad7 (by omega)]
   have fD3 := fD2.then0 j3
   have hbld := Bf1 (a := ((k + 1 : Nat) : Int)) (s := (n : Int)) hx32
   rw [<- hxx] at hbld
   simp only [RT, Q0, Q1, Q2, Q3, Q4, Q5, Q6, Q7, Q8, h119, h121, y3, y4, h5, hwk]
   refine Aa0 p1 ?_
   simp only [RT, Q0, Q1, Q2, Q3, Q4, Q5, Q6, Q7, Q8, Bb7, <- hb20, t1, Bs2, ldh, h121, hwk, h6, rbD, Aa3]
   refine Aa0 p3 ?_
   simp only [RT, Q0, Q1, Q2, Q3, Q4, Q5, Q6, Q7, Q8, Aa3]
   refine ⟨AP5 (ha := rfl) rfl rfl rfl rfl ((Bn4 (j3.row0 t3) hx32).2.2.2) rfl Aa3, ?_⟩
   simp only [RT, Q0, Q1, Q2, Q3, Q4, Q5, Q6, Q7, Q8, hbld, AT2 hx32, h121, hwk, Aa3]
   refine ⟨Hs.length - (k + 1), by omega, k + 1, rfl, by omega, ?_⟩
   and_intros <;> first | rfl | assumption
 clear h3 h5 h6 hf hPC
 rintro z e D hz ⟨rfl, h3, h5, h6, hf⟩
 have hPD := hP.fr0 hf
 obtain ⟨_, E, k9, rfl⟩ := A98 (a0 := a0) (a1 := a1) (hf.wf wB) (hmo.fr0 hf) hPD.bk hli hsi hP.nu (by omega)
 simp only [RT, Q0, Q1, Q2, Q3, Q4, Q5, Q6, Q7, Q8, h5, h6, AX9 hPD.bx, h3, B53 (hPD.fr.row0 r1)]
 refine Aa0 k9 ?_
 simp only [RT, Q0, Q1, Q2, Q3, Q4, Q5, Q6, Q7, Q8]
end
end Go.Sv.Try
