/- AuditBook: two books, of which the one has some batches more; the longest list. -/
import Derived.Test.YtjhnciflgaijjaaBkD
import Derived.Test.YtjhnciflgaijjaaAuD
set_option linter.unusedSimpArgs false
set_option linter.unusedVariables false
open Nat renaming reduceLT → Q0, reduceBEq → Q1, reduceEqDiff → Q2, reduceAdd → Q3
open Int renaming reduceEq → Q4, reduceLT → Q5, reduceLE → Q6, reduceGT → Q7, reduceGE → Q8
namespace Go.Sv.Try
open Go Go.Proofs
def HdOk (L : List Bts) (Hs : List HdP) : Prop := ∀ h ∈ Hs, rightD L h /\ h.2.2.length = 32
theorem A15 {L : List Bts} {h : HdP} (t : List Bts) (q : rightD L h) : rightD (L ++ t) h := by
 obtain ⟨q1, q2, q3⟩ := q
 refine ⟨q1, by rw [List.length_append]; omega, ?_⟩
 rw [<- q3, List.map_append, List.take_append_of_le_length (by rw [List.length_map]; omega)]
theorem HdOk.app {L : List Bts} {Hs : List HdP} (h : HdOk L Hs) (t : List Bts) : HdOk (L ++ t) Hs := fun x q => ⟨A15 t (h x q).1, (h x q).2⟩
theorem HdOk.add {L : List Bts} {Hs : List HdP} (h : HdOk L Hs) : HdOk L (Hs ++ [hdOf Hs L]) := fun x q => by
 rcases List.mem_append.1 q with q | q
 . exact h x q
 . rw [List.mem_singleton.1 q]
   refine ⟨⟨by show (0 : Int) <= (L.length : Int); omega, by show (L.length : Int) <= _; omega, ?_⟩, Ae7 fun y hy => ?_⟩
   . show rootR ((L.map leafH).take (L.length : Int).toNat) = rootR (L.map leafH)
     rw [List.take_of_length_le (by rw [List.length_map]; omega)]
   . obtain ⟨b, _, rfl⟩ := List.mem_map.1 hy
     exact Aq2 b
theorem HdOk.apply {L : List Bts} {Hs : List HdP} (h : HdOk L Hs) (x : Bts) : HdOk (applyB L x) (Hs ++ [hdOf Hs (applyB L x)]) := by
 obtain ⟨t, ht⟩ := AK1 L x
 rw [ht]
 exact (h.app t).add
theorem A97 {L : List Bts} {Hs : List HdP} (h : HdOk L Hs) : badH L Hs = [] := by
 unfold badH
 rw [List.filter_eq_nil_iff]
 intro i hi
 unfold badP
 cases hq : Hs[i]? with
 | none => simp
 | some x => simp [(h x (List.mem_of_getElem? hq)).1]
def smallE (n : Nat) (L : List Bts) : Prop := ∀ x ∈ L, x.length <= n
theorem AA8 {n : Nat} : ∀ {l L : List Bts}, smallE n L -> smallE n l -> smallE n (l.foldl addE L)
 | [], L, h, _ => h
 | x :: l, L, h, hl => by
  refine AA8 (l := l) (L := addE L x) (fun y hy => ?_) fun y hy => hl y (by simp [hy])
  by_cases q : entC x = 0 /\ lookL (mapOf L) (nmOf x) = none /\ L.length < 1000
  . rw [Aw1 q.1 q.2.1 q.2.2] at hy
    rcases List.mem_append.1 hy with hy | hy
    . exact h y hy
    . rw [List.mem_singleton.1 hy]; exact hl x (by simp)
  . rw [At1 q] at hy; exact h y hy
theorem AO5 {n : Nat} {L : List Bts} (h : smallE n L) {b : Bts} (hb : b.length <= n) : smallE n (applyB L b) :=
 AA8 h fun y hy => by have := AB7 hy; omega
theorem AX5 {L : List Bts} (h : OnceN L) : NoDup L L.length := by
 intro i j n hij hj hi hk
 unfold nm at hi hk
 have hi' : i < L.length := by omega
 rw [List.getElem?_eq_getElem hi'] at hi
 rw [List.getElem?_eq_getElem hj] at hk
 simp only [Option.bind_some] at hi hk
 have := List.pairwise_iff_getElem.1 h i j (by rw [List.length_map]; exact hi') (by rw [List.length_map]; exact hj) hij
 rw [List.getElem_map, List.getElem_map] at this
 unfold nameOf at hi hk
 split at hi
 . split at hk
   . rw [<- hk] at hi
     exact this (Option.some.inj hi)
   . cases hk
 . cases hi
theorem Bj0 {L : List Bts} {a b : Int} {ok : Bool} (h : TwRes L a b ok) (ho : OnceN L) : ok = false := by
 rcases h with ⟨_, i, k, n, _, _, h1, h2, h3, _⟩ | ⟨h, _⟩
 . exact absurd h3 (AX5 ho i k n h1 (BD8 h3) h2)
 . exact h
section
variable {A B C : AS} {m : Hp}
set_option maxRecDepth 10000 in
theorem AH7 {v : V} {l : List (List Bts)} (hm : m.on A) (h : Slc (eSl (eSl eU8)) m v l) (hl : l.length <= 1000000) :
 ∃ w A', EvF Try.prog HH 32 [v] A w A' /\ A' = A /\ ∃ x, (x = [] ∨ x ∈ l) /\ Slc (eSl eU8) m w x /\ ∀ y ∈ l, y.length <= x.length := by
 refine Aa9 rfl Try.func32 (by unfold Try.f32; rfl) Try.ntmps32 (by unfold Try.f32; rfl) (by simp) ?_
 have hlen := fun B => h.len (P := Try.prog) Try.underlying26 B
 simp only [RT, Q0, Q1, Q2, Q3, Q4, Q5, Q6, Q7, Q8, hlen]
 refine Aa2 (fun z e B => B = A /\ ∃ (i : Nat) (x : List Bts) (w : V), z = l.length - i /\ i <= l.length /\ e.get 8 = .int .i64 i /\ e.get 7 = .int .i64 l.length /\ e.get 6 = v /\ e.get 3 = w /\ (x = [] ∨ x ∈ l) /\ Slc (eSl eU8) m w x /\ ∀ y ∈ l.take i, y.length <= x.length)
  (fun z e B => Is z (.exit 0) /\ B = A /\ ∃ (x : List Bts) (w : V), e.get 3 = w /\ (x = [] ∨ x ∈ l) /\ Slc (eSl eU8) m w x /\ ∀ y ∈ l, y.length <= x.length)
  ⟨_, rfl, 0, [], .snil, rfl, by omega, rfl, rfl, rfl, rfl, .inl rfl, .inl ⟨rfl, rfl⟩, by simp⟩ ?_ ?_
 . rintro z e B ⟨rfl, i, x, w, rfl, hi, h8, h7, h6, h3, hx, hw, hy⟩
   simp only [RT, Q0, Q1, Q2, Q3, Q4, Q5, Q6, Q7, Q8, h8, h7]
   refine Aa1 (fun q1 => ?_) (fun q1 => ?_)
   rotate_left
   . have : i = l.length := by omega
     subst this
     rw [List.take_length] at hy
     simp only [RT, Q0, Q1, Q2, Q3, Q4, Q5, Q6, Q7, Q8]
     exact ⟨rfl, x, w, h3, hx, hw, hy⟩
   obtain ⟨y, hy'⟩ := Ad6 (l := l) (i := i) (by omega)
   obtain ⟨b, o, c, g1, g2, g3⟩ := h.at (P := Try.prog) (k := .i64) hm Try.underlying26 Bs0 Bi8 hy'
   rw [Az3] at g3
   have g4 := fun B => g3.len (P := Try.prog) Try.underlying22 B
   have g5 := fun B => hw.len (P := Try.prog) Try.underlying22 B
   have wi : IntKind.i64.wrap ((i : Int) + 1) = ((i + 1 : Nat) : Int) := by rw [Af9 (by omega)]
   by_cases c1 : y.length > x.length
   . simp only [RT, Q0, Q1, Q2, Q3, Q4, Q5, Q6, Q7, Q8, h6, h8, g1, g2, g4, h3, g5, decide_eq_true (show (y.length : Int) > (x.length : Int) by omega), wi]
     have hz : ∀ z ∈ l.take (i + 1), z.length <= y.length := fun z hz => by
      rw [Ad8 hy'] at hz
      rcases List.mem_append.1 hz with hz | hz
      . have := hy z hz; omega
      . rw [List.mem_singleton.1 hz]; exact Nat.le_refl _
     have hin : y = [] ∨ y ∈ l := .inr (List.mem_of_getElem? hy')
     refine ⟨l.length - (i + 1), by omega, i + 1, y, c, rfl, by omega, ?_⟩
     and_intros <;> first | rfl | assumption
   . simp only [RT, Q0, Q1, Q2, Q3, Q4, Q5, Q6, Q7, Q8, h6, h8, g1, g2, g4, h3, g5, decide_eq_false (show ¬ (y.length : Int) > (x.length : Int) by omega), wi]
     have hz : ∀ z ∈ l.take (i + 1), z.length <= x.length := fun z hz => by
      rw [Ad8 hy'] at hz
      rcases List.mem_append.1 hz with hz | hz
      . exact hy z hz
      . rw [List.mem_singleton.1 hz]; omega
     refine ⟨l.length - (i + 1), by omega, i + 1, x, w, rfl, by omega, ?_⟩
     and_intros <;> first | rfl | assumption
 . rintro z e B hz ⟨rfl, rfl, x, w, h3, hx, hw, hy⟩
   simp only [RT, Q0, Q1, Q2, Q3, Q4, Q5, Q6, Q7, Q8, h3]
   exact ⟨x, hx, hw, hy⟩
def cells2 (k : Nat) (v w : V) : List V := if k = 0 then [v, w] else [w, v]
structure Wr (B0 B : AS) (b9 k : Nat) (v w : V) (l : List Bts) (fo : Option Nat) : Prop where
 fr : Fr (· = .row b9) B0 B
 bx : B.blk[b9]? = some ⟨cells2 k v w, .var⟩
 li : Lst (eSl eU8) (qHp (zOf fo) B) B v l fo
 lf : ∀ x, fo = some x -> B0.blk.length <= x
theorem Wr.fr0 {b9 k : Nat} {v w : V} {l : List Bts} {fo : Option Nat} (h : Wr A B b9 k v w l fo) (hf : Fr S0 B C) : Wr A C b9 k v w l fo :=
 ⟨h.fr.then0 hf, hf.row0 h.bx, (h.li.fr0 hf).mono (AA0 hf), h.lf⟩
theorem BD0 (b : Nat) {k : Nat} (hk : k < 2) : evIndexAddr Try.prog 89 (.ptr b 0) (.int .i64 (k : Int)) = some (.ptr b k) := by
 rw [An9 Try.underlying89 Bs0 hk]; simp
theorem BD1 {b9 k : Nat} {v w : V} (hk : k < 2) (h : B.blk[b9]? = some ⟨cells2 k v w, .var⟩) : evLoad Try.prog 22 (.ptr b9 k) B = some v := by
 rw [Am8 Bi8, AG6 h]
 match k, hk with
 | 0, _ => rfl
 | 1, _ => rfl
theorem BL7 {k : Nat} {v v' w : V} (hk : k < 2) : putAt (cells2 k v w) k [v'] = cells2 k v' w := by
 match k, hk with
 | 0, _ => rfl
 | 1, _ => rfl
theorem Wr.push {D : AS} {b9 k c N : Nat} {v w : V} {l : List Bts} {fo : Option Nat} {x : Bts} (hk : k < 2) (h : Wr A D b9 k v w l fo) (hw : WF A) (hf : Fr S0 D B) (hc : B.blk[c]? = some ⟨bc x, .arr N 0⟩) (hN : D.blk.length <= N) (hl : l.length <= 1000000) :
 ∃ v' C E fo', evAppend Try.prog 22 22 v (.sl B.blk.length 0 1 1) (B.push ⟨[.sl c 0 x.length 1], .arr B.blk.length 0⟩) = some (v', C) /\ evStore Try.prog 22 (.ptr b9 k) v' C = some E /\ Wr A E b9 k v' w (l ++ [x]) fo' := by
 have hB := h.fr0 hf
 have hwD := h.fr.wf hw
 have hwB := hB.fr.wf hw
 have hx : Slc eU8 (qHp (zOf fo) B) (.sl c 0 x.length 1) x := AH5 hc fun q => by have := h.li.famLt _ q; omega
 obtain ⟨v', C, fo', p1, p2, p3, p4⟩ := hB.li.push (P := Try.prog) (t := 22) (tx := 22) (n := 1) rfl BC8 Try.underlying22 hwB (y := x) (cs' := [.sl c 0 x.length 1]) ⟨_, rfl, hx⟩ (by omega) (by omega)
 have bC := p3.row _ _ hB.bx (Ab5 hB.bx)
 have hwC := p3.wf hwB
 obtain ⟨E, s1, s2, s3, s4⟩ := Ab6 (P := Try.prog) (t := 22) (o := k) (x := v') (cs := [v']) bC (one_cells p2.one) Bs0 (by
  match k, hk with
  | 0, _ => show 0 + 1 <= 2; omega
  | 1, _ => show 1 + 1 <= 2; omega) (by simp [p2.one])
 refine ⟨v', C, E, fo', p1, s1, ⟨?_, ?_, (p2.fr s2 (.box bC)).mono (Hp.le_trans (Am2 p3 (.famO fun f q => q) hwB fun f q => p4.or q) (Am2 s2 (.box bC) hwC fun f q => .inl q)), fun f q => ?_⟩⟩
 . refine (hB.fr.trans p3 fun z q => ?_).trans s2 fun z q => .inl q
   rcases Af4 hB.fr q with y | y
   . right
     cases fo with
     | none => exact y.elim
     | some f =>
      have := h.lf f rfl
      cases z with
      | row b => obtain ⟨k, base, z1, z2⟩ := y; have := hw b k _ base z1 z2; omega
      | fam g => show A.blk.length <= g; rw [show g = f from y]; exact this
      | map r => exact y.elim
      | loop r => exact y.elim
      | it r => exact y.elim
   . exact .inr y
 . rw [s3, BL7 hk]
 . rcases p4.or q with y | y
   . exact h.lf f y
   . have := hB.fr.len; omega
end
end Go.Sv.Try
namespace Go.Sv.Try
open Go Go.Proofs
section
variable {A B C : AS} {m : Hp}
theorem BD2 (a b : Nat) : evBuild Try.prog 90 [(0, .ptr a 0), (1, .ptr b 0)] = some (.agg [.ptr a 0, .ptr b 0]) := by kernel_rfl
theorem Bs3 {v w : V} (h : v = .snil ∨ ∃ b o n z, v = .sl b o n z) (h' : w = .snil ∨ ∃ b o n z, w = .sl b o n z) : bsl Try.prog 26 2 (some [(0, v), (1, w)]) = some (.newSl [v, w] 2 1) := by
 rcases h with rfl | ⟨_, _, _, _, rfl⟩ <;> rcases h' with rfl | ⟨_, _, _, _, rfl⟩ <;> kernel_rfl
theorem A16 {v w : V} {a b : List Bts} {bb : Nat} (hv : Slc (eSl eU8) m v a) (hw : Slc (eSl eU8) m w b) (hn : m bb = none) : Slc (eSl (eSl eU8)) (m.put bb [v, w]) (.sl bb 0 2 1) [a, b] :=
 BC5 (Hp.put_get _ _ _) rfl rfl fun i x hx => by
  match i, hx with
  | 0, hx => cases hx; exact ⟨_, rfl, hv.mono (Hp.le_put hn)⟩
  | 1, hx => cases hx; exact ⟨_, rfl, hw.mono (Hp.le_put hn)⟩
  | i + 2, hx => simp at hx
set_option maxRecDepth 10000 in
set_option maxHeartbeats 32000000 in
theorem auditBook_spec {v : V} {xs : List Bts} {fw : Int} (hw : WF A) (hm : m.on A) (hl : Slc (eSl eU8) m v xs) :
 ∃ w A', EvF Try.prog HH 9 [v, .int .i64 fw] A w A' /\ w = .bool true := by
 refine Aa9 rfl Try.func9 (by unfold Try.f9; rfl) Try.ntmps9 (by unfold Try.f9; rfl) (by simp) ?_
 obtain ⟨Av, ev, fv, rv, nv⟩ := Ab3 A [.bool false]
 obtain ⟨b4, hb4⟩ : ∃ b, b = A.blk.length := ⟨_, rfl⟩
 rw [<- hb4] at rv nv
 have hlen := fun B => hl.len (P := Try.prog) Try.underlying22 B
 have out : ∀ {B : AS} (b : Bool), B.blk[b4]? = some ⟨[.bool false], .var⟩ -> ∃ C, evStore Try.prog 4 (.ptr b4 0) (.bool b) B = some C /\ evLoad Try.prog 4 (.ptr b4 0) C = some (.bool b) := fun {B} b h => by
  obtain ⟨C, t1, t2, t3, t4⟩ := AN3 (P := Try.prog) (t := 4) (x := .bool b) h rfl sz4 rfl
  exact ⟨C, t1, Ae8 ag4 t3⟩
 obtain ⟨C0, o1, o2⟩ := out true rv
 simp only [RT, Q0, Q1, Q2, Q3, Q4, Q5, Q6, Q7, Q8, zc4, <- ev, <- hb4]
 refine Aa0 (A06 rfl) ?_
 by_cases c1 : (xs.length : Int) > 8
 . simp only [RT, Q0, Q1, Q2, Q3, Q4, Q5, Q6, Q7, Q8, hlen, decide_eq_true c1, o1, o2]
 by_cases c2 : fw < 0
 . simp only [RT, Q0, Q1, Q2, Q3, Q4, Q5, Q6, Q7, Q8, hlen, decide_eq_false c1, decide_eq_true c2, o1, o2]
 by_cases c3 : fw > (xs.length : Int)
 . simp only [RT, Q0, Q1, Q2, Q3, Q4, Q5, Q6, Q7, Q8, hlen, decide_eq_false c1, decide_eq_false c2, decide_eq_true c3, o1, o2]
 simp only [RT, Q0, Q1, Q2, Q3, Q4, Q5, Q6, Q7, Q8, hlen, decide_eq_false c1, decide_eq_false c2, decide_eq_false c3]
 clear o1 o2 C0
 have w1 := fv.wf hw
 obtain ⟨_, A2, k2, f2, bp, tp, r, fta, rfl, hA, hfa, g1, g2, g3⟩ := Au6 (Z := fun _ => False) w1
 have w2 := f2.wf w1
 refine Aa0 k2 ?_
 obtain ⟨_, A3, k3, f3, bq, tq, s, ftb, rfl, hB, hfb, g4, g5, g6⟩ := Au6 (Z := bkZ none fta none none) w2
 have w3 := f3.wf w2
 simp only [RT, Q0, Q1, Q2, Q3, Q4, Q5, Q6, Q7, Q8]
 refine Aa0 k3 ?_
 have l2 := f2.len
 have l2' := f2.mlen
 obtain ⟨a1, a2, a3, a4, a5⟩ := hA.raw.lt
 have a6 := hA.raw.rl
 have hT : TwoB Av A3 (bp, tp, r) (bq, tq, s) [] [] [] [] .snil [] none fta none none ftb none none := {
  a := hA.oth w2 f3 (fun q => q) (fun q => q) (fun q => q) .s0 (fun f q z => z) (fun f q => by
   rcases q with (q | q | q) | q
   . cases q
   . exact .inr (hfb f q)
   . cases q
   . cases q)
  b := hB
  t := .nil
  fr := f2.then0 f3
  d1 := fun f q z => by
   rcases q with q | q | q
   . cases q
   . rcases z with z | z | z
     . cases z
     . have := a4 f q; have := hfb f z; omega
     . cases z
   . cases q
  d2 := fun f q z => by cases z
  d3 := fun f q z => by cases z
  l1 := fun f q => by
   rcases q with q | q | q
   . cases q
   . have := hfa f q; omega
   . cases q
  l2 := fun f q => by
   rcases q with q | q | q
   . cases q
   . have := hfb f q; omega
   . cases q
  l3 := fun f q => by cases q
  b1 := ⟨by show Av.blk.length <= bp; omega, by show Av.blk.length <= tp; omega, by show Av.maps.length <= r; omega⟩
  b2 := ⟨by show Av.blk.length <= bq; omega, by show Av.blk.length <= tq; omega, by show Av.maps.length <= s; omega⟩
  ne := ⟨by show bp ≠ bq; omega, by show bp ≠ tq; omega, by show tp ≠ bq; omega, by show tp ≠ tq; omega, by show r ≠ s; omega⟩ }
 simp only [RT, Q0, Q1, Q2, Q3, Q4, Q5, Q6, Q7, Q8, BN4, hlen]
 refine Aa2 (fun z e B => ∃ (i : Nat) (L1 L2 : List Bts) (H1 H2 : List HdP) (fl ft fh fl' ft' fh' : Option Nat), z = xs.length - i /\ i <= xs.length /\ H1.length = i /\ H2.length <= i /\ ((i : Int) <= xs.length - fw -> L1 = L2) /\ (∃ t, L1 = L2 ++ t) /\ OnceN L1 /\ HdOk L2 H2 /\ smallE 3000 L1 /\ e.get 46 = .int .i64 i /\ e.get 45 = .int .i64 xs.length /\ e.get 44 = v /\ e.get 0 = v /\ e.get 1 = .int .i64 fw /\ e.get 4 = .ptr b4 0 /\ e.get 5 = .ptr bp 0 /\ e.get 6 = .ptr bq 0 /\ TwoB Av B (bp, tp, r) (bq, tq, s) L1 H1 L2 H2 .snil [] fl ft fh fl' ft' fh' none)
  (fun z e B => (Is z .ret /\ e.get 4 = .ptr b4 0 /\ evLoad Try.prog 4 (.ptr b4 0) B = some (.bool true)) ∨ (Is z (.exit 0) /\ ∃ (L1 L2 : List Bts) (H1 H2 : List HdP) (fl ft fh fl' ft' fh' : Option Nat), H2.length <= 8 /\ (∃ t, L1 = L2 ++ t) /\ OnceN L1 /\ HdOk L2 H2 /\ smallE 3000 L1 /\ e.get 4 = .ptr b4 0 /\ e.get 5 = .ptr bp 0 /\ e.get 6 = .ptr bq 0 /\ TwoB Av B (bp, tp, r) (bq, tq, s) L1 H1 L2 H2 .snil [] fl ft fh fl' ft' fh' none))
  ⟨_, 0, [], [], [], [], _, _, _, _, _, _, rfl, by omega, rfl, Nat.le_refl _, fun _ => rfl, ⟨[], rfl⟩, List.nodup_nil, fun x q => (by cases q), fun x q => (by cases q), rfl, rfl, rfl, rfl, rfl, by rw [hb4]; rfl, rfl, rfl, hT⟩ ?_ ?_
 . clear hT
   rintro z e B ⟨i, L1, L2, H1, H2, fl, ft, fh, fl', ft', fh', rfl, hi, hH1, hH2, heq, hpre, hO, hok, hsm, h46, h45, h44, h0, h1, h4, h5, h6, hT⟩
   simp only [RT, Q0, Q1, Q2, Q3, Q4, Q5, Q6, Q7, Q8, h46, h45]
   refine Aa1 (fun q1 => ?_) (fun q1 => ?_)
   rotate_left
   . simp only [RT, Q0, Q1, Q2, Q3, Q4, Q5, Q6, Q7, Q8]
     refine .inr ⟨rfl, L1, L2, H1, H2, fl, ft, fh, fl', ft', fh', by omega, ?_⟩
     and_intros <;> first | rfl | assumption
   obtain ⟨x, hx⟩ := Ad6 (l := xs) (i := i) (by omega)
   have hmB := (hm.fr0 fv).fr0 hT.fr
   obtain ⟨b, o, c, y3, y4, y5⟩ := hl.at (P := Try.prog) (k := .i64) hmB Try.underlying22 A14 A95 hx
   rw [Az3] at y5
   have hcl := fun B => y5.len (P := Try.prog) Try.underlying44 B
   obtain ⟨C0, o1, o2⟩ := out true (hT.fr.row0 rv)
   by_cases d1 : (x.length : Int) > 3000
   . simp only [RT, Q0, Q1, Q2, Q3, Q4, Q5, Q6, Q7, Q8, h44, h46, y3, y4, hcl, decide_eq_true d1, h4, o1]
     exact .inl ⟨rfl, o2⟩
   obtain ⟨C, fl2, ft2, fh2, p1, hT1⟩ := hT.app w1 hmB y5 (by omega) (by omega)
   have hwf : IntKind.i64.wrap ((xs.length : Int) - fw) = (xs.length : Int) - fw := Ae9 (by omega) (by omega)
   have hwi : IntKind.i64.wrap ((i : Int) + 1) = ((i + 1 : Nat) : Int) := by rw [Af9 (by omega)]
   have hO' := AZ5 hO x
   have hsm' := AO5 hsm (b := x) (by omega)
   obtain ⟨tl, htl⟩ := AK1 L1 x
   simp only [RT, Q0, Q1, Q2, Q3, Q4, Q5, Q6, Q7, Q8, h44, h46, y3, y4, hcl, decide_eq_false d1, h5]
   refine Aa0 p1 ?_
   by_cases d2 : (i : Int) < (xs.length : Int) - fw
   . have := heq (by omega)
     subst this
     obtain ⟨D, fl3, ft3, fh3, p2, hT2⟩ := hT1.swap.app w1 ((hm.fr0 fv).fr0 hT1.fr) y5 (by omega) (by omega)
     have hT2 := hT2.swap
     have hok' := hok.apply x
     simp only [RT, Q0, Q1, Q2, Q3, Q4, Q5, Q6, Q7, Q8, h46, h0, hlen, h1, hwf, decide_eq_true d2, h6]
     refine Aa0 p2 ?_
     simp only [RT, Q0, Q1, Q2, Q3, Q4, Q5, Q6, Q7, Q8, hwi, h46]
     refine ⟨xs.length - (i + 1), by omega, i + 1, applyB L1 x, applyB L1 x, H1 ++ [hdOf H1 (applyB L1 x)], H2 ++ [hdOf H2 (applyB L1 x)], fl2, ft2, fh2, fl3, ft3, fh3, rfl, by omega, by simp [hH1], by simp; omega, fun _ => rfl, ⟨[], by simp⟩, ?_⟩
     and_intros <;> first | rfl | assumption
   . simp only [RT, Q0, Q1, Q2, Q3, Q4, Q5, Q6, Q7, Q8, h46, h0, hlen, h1, hwf, decide_eq_false d2, hwi]
     obtain ⟨t0, ht0⟩ := hpre
     refine ⟨xs.length - (i + 1), by omega, i + 1, applyB L1 x, L2, H1 ++ [hdOf H1 (applyB L1 x)], H2, fl2, ft2, fh2, fl', ft', fh', rfl, by omega, by simp [hH1], by omega, fun q => absurd q (by omega), ⟨t0 ++ tl, by rw [htl, ht0, List.append_assoc]⟩, ?_⟩
     and_intros <;> first | rfl | assumption
 clear hT
 rintro z e B hz (⟨rfl, h4, o⟩ | ⟨rfl, L1, L2, H1, H2, fl, ft, fh, fl', ft', fh', hH2, ⟨tl, htl⟩, hO, hok, hsm, h4, h5, h6, hT⟩)
 . simp only [RT, Q0, Q1, Q2, Q3, Q4, Q5, Q6, Q7, Q8, h4, o]
 have wB := hT.fr.wf w1
 obtain ⟨B0, e0, f0, r9, n9⟩ := Ab3 B [.snil, .snil]
 obtain ⟨b9, hb9⟩ : ∃ b, b = B.blk.length := ⟨_, rfl⟩
 rw [<- hb9] at r9 n9
 have w0 := f0.wf wB
 have hT0 := hT.fr0 f0
 have lp := hT.a.raw.lt
 have lq := hT.b.raw.lt
 have lb4 := Ac5 (hT.fr.row0 rv)
 have lv : b4 ≠ b9 := by omega
 have hsm2 : smallE 3000 L2 := fun x q => hsm x (by rw [htl]; exact List.mem_append_left _ q)
 have hll1 := hT.a.len
 have hll2 := hT.b.len
 simp only [RT, Q0, Q1, Q2, Q3, Q4, Q5, Q6, Q7, Q8, BO9, <- e0, <- hb9, h5, h6, BD2]
 have hbook : ∀ k : Nat, k < 2 -> ∃ (pk : Nat) (Lk : List Bts), [V.ptr bp 0, V.ptr bq 0][k]? = some (.ptr pk 0) /\ (k = 0 -> Lk = L1) /\ (k = 1 -> Lk = L2) /\ smallE 3000 Lk /\ Lk.length <= 1000 /\ ∃ Z tk rk M N Hk f1 f2 f3, BkR Z B0 pk tk rk M N Lk Hk f1 f2 f3 /\ b9 ≠ pk /\ b9 ≠ tk := fun k hk => by
  match k, hk with
  | 0, _ => exact ⟨bp, L1, rfl, fun _ => rfl, fun q => (by cases q), hsm, hll1, _, _, _, _, _, _, _, _, _, hT0.a.raw, by have := lp.1; omega, by have := lp.2.1; omega⟩
  | 1, _ => exact ⟨bq, L2, rfl, fun q => (by cases q), fun _ => rfl, hsm2, hll2, _, _, _, _, _, _, _, _, _, hT0.b.raw, by have := lq.1; omega, by have := lq.2.1; omega⟩
 refine Aa2 (fun z e B => ∃ (k : Nat) (v0 v1 : V), z = 2 - k /\ k <= 2 /\ e.get 70 = .int .i64 k /\ e.get 69 = .agg [.ptr bp 0, .ptr bq 0] /\ e.get 9 = .ptr b9 0 /\ e.get 4 = .ptr b4 0 /\ e.get 6 = .ptr bq 0 /\ e.get 10 = .snil /\ Fr (· = .row b9) B0 B /\ B.blk[b9]? = some ⟨[v0, v1], .var⟩ /\ (k = 0 -> v0 = .snil) /\ (k <= 1 -> v1 = .snil) /\ (1 <= k -> Slc (eSl eU8) (arrHp B) v0 L1) /\ (2 <= k -> Slc (eSl eU8) (arrHp B) v1 L2))
  (fun z e B => Is z (.exit 2) /\ ∃ (v0 v1 : V), e.get 9 = .ptr b9 0 /\ e.get 4 = .ptr b4 0 /\ e.get 6 = .ptr bq 0 /\ e.get 10 = .snil /\ Fr (· = .row b9) B0 B /\ B.blk[b9]? = some ⟨[v0, v1], .var⟩ /\ Slc (eSl eU8) (arrHp B) v0 L1 /\ Slc (eSl eU8) (arrHp B) v1 L2)
  ⟨_, 0, .snil, .snil, rfl, by omega, rfl, rfl, by rw [hb9]; rfl, h4, h6, rfl, .refl _ _, r9, fun _ => rfl, fun _ => rfl, fun q => absurd q (by omega), fun q => absurd q (by omega)⟩ ?_ ?_
 . clear h4 h5 h6
   rintro z e C ⟨k, v0, v1, rfl, hk2, h70, h69, h9, h4, h6, h10, hfC, rC, z0, z1, z2, z3⟩
   simp only [RT, Q0, Q1, Q2, Q3, Q4, Q5, Q6, Q7, Q8, h70]
   refine Aa1 (fun q1 => ?_) (fun q1 => ?_)
   rotate_left
   . simp only [RT, Q0, Q1, Q2, Q3, Q4, Q5, Q6, Q7, Q8]
     refine ⟨rfl, v0, v1, h9, h4, h6, h10, hfC, rC, z2 (by omega), z3 (by omega)⟩
   have hk : k < 2 := by omega
   obtain ⟨pk, Lk, hp0, hp1, hp2, hs1, hln, Z, tk, rk, M, N, Hk, f1, f2, f3, hbk, hn1, hn2⟩ := hbook k hk
   have wC := hfC.wf w0
   have hbC : BkR Z C pk tk rk M N Lk Hk f1 f2 f3 := hbk.row w0 hfC r9 hn1 hn2
   have hix : evIndex Try.prog 90 (.agg [.ptr bp 0, .ptr bq 0]) (.int .i64 (k : Int)) = some (.ptr pk 0) := by rw [Bi6 Try.underlying90 BO8 BL5 hk, hp0]
   have hwr : ∃ w, Wr C C b9 k .snil w [] none /\ w = (if k = 0 then v1 else v0) := by
    refine ⟨_, ⟨.refl _ _, ?_, .nil, fun x q => (by cases q)⟩, rfl⟩
    rw [rC]
    match k, hk, z0, z1 with
    | 0, _, z0, _ => rw [z0 rfl]; rfl
    | 1, _, _, z1 => rw [z1 (by omega)]; rfl
   obtain ⟨w, hwr, hwv⟩ := hwr
   simp only [RT, Q0, Q1, Q2, Q3, Q4, Q5, Q6, Q7, Q8, h70, h69, hix]
   refine Aa2 (fun z e D => ∃ (j : Nat) (vk : V) (fo : Option Nat), z = Lk.length - j /\ j <= Lk.length /\ e.get 13 = .int .i64 j /\ e.get 12 = .ptr pk 0 /\ e.get 11 = .int .i64 k /\ e.get 70 = .int .i64 k /\ e.get 69 = .agg [.ptr bp 0, .ptr bq 0] /\ e.get 9 = .ptr b9 0 /\ e.get 4 = .ptr b4 0 /\ e.get 6 = .ptr bq 0 /\ e.get 10 = .snil /\ Wr C D b9 k vk w (Lk.take j) fo)
    (fun z e D => Is z (.exit 4) /\ ∃ (vk : V) (fo : Option Nat), e.get 70 = .int .i64 k /\ e.get 69 = .agg [.ptr bp 0, .ptr bq 0] /\ e.get 9 = .ptr b9 0 /\ e.get 4 = .ptr b4 0 /\ e.get 6 = .ptr bq 0 /\ e.get 10 = .snil /\ Wr C D b9 k vk w Lk fo)
    ⟨_, 0, .snil, none, rfl, by omega, rfl, rfl, rfl, h70, h69, h9, h4, h6, h10, hwr⟩ ?_ ?_
   . clear h70 h69 h9 h4 h6 h10
     rintro z e D ⟨j, vk, fo, rfl, hj, h13, h12, h11, h70, h69, h9, h4, h6, h10, hwr⟩
     have wD := hwr.fr.wf wC
     have hbD : BkR Z D pk tk rk M N Lk Hk f1 f2 f3 := hbC.row wC hwr.fr rC hn1 hn2
     have ks := Aq3 hbD
     simp only [RT, Q0, Q1, Q2, Q3, Q4, Q5, Q6, Q7, Q8, h13, h12]
     refine Aa0 ks ?_
     simp only [RT, Q0, Q1, Q2, Q3, Q4, Q5, Q6, Q7, Q8]
     refine Aa1 (fun q2 => ?_) (fun q2 => ?_)
     rotate_left
     . have : j = Lk.length := by omega
       subst this
       rw [List.take_length] at hwr
       simp only [RT, Q0, Q1, Q2, Q3, Q4, Q5, Q6, Q7, Q8]
       exact ⟨rfl, vk, fo, h70, h69, h9, h4, h6, h10, hwr⟩
     obtain ⟨_, E, p1, j1, hat⟩ := AJ9 wD hbD (fun x hx => by have := hs1 x hx; omega) (j : Int)
     rcases hat with ⟨q, _⟩ | ⟨n, y, c, hn, hy, rfl, hc, hcl⟩
     . omega
     have hn : j = n := by omega
     subst hn
     have l1 := hwr.fr.len
     obtain ⟨vk', F, G, fo', a1, a2, a3⟩ := hwr.push hk wC j1 hc (Nat.le_refl _) (by rw [List.length_take]; omega)
     rw [<- Ad8 hy] at a3
     have hwj : IntKind.i64.wrap ((j : Int) + 1) = ((j + 1 : Nat) : Int) := by rw [Af9 (by omega)]
     have hld := BD1 hk (j1.row0 hwr.bx)
     simp only [RT, Q0, Q1, Q2, Q3, Q4, Q5, Q6, Q7, Q8, h12, h13]
     refine Aa0 p1 ?_
     simp only [RT, Q0, Q1, Q2, Q3, Q4, Q5, Q6, Q7, Q8, h11, h9, BD0 b9 hk, hld, Bl0 (.inr ⟨_, _, _, _, rfl⟩), a1, a2, h13, hwj]
     refine ⟨Lk.length - (j + 1), by omega, j + 1, vk', fo', rfl, by omega, ?_⟩
     and_intros <;> first | rfl | assumption
   . clear h70 h69 h9 h4 h6 h10
     rintro z e D hz ⟨rfl, vk, fo, h70, h69, h9, h4, h6, h10, hwr⟩
     have hwk : IntKind.i64.wrap ((k : Int) + 1) = ((k + 1 : Nat) : Int) := by rw [Af9 (by omega)]
     have hfD : Fr (· = .row b9) B0 D := hfC.thn hwr.fr
     have hsl := hwr.li.slcArr (A86 _ _)
     have hle : (arrHp C).le (arrHp D) := Aw7 hwr.fr fun b q => by cases q; exact Az9 rC
     have hbx := hwr.bx
     simp only [RT, Q0, Q1, Q2, Q3, Q4, Q5, Q6, Q7, Q8, h70, hwk]
     match k, hk, hwv, hp1, hp2, hbx, z1, z2 with
     | 0, _, hwv, hp1, hp2, hbx, z1, z2 =>
      have e1 := hp1 rfl
      subst e1
      have e2 : w = .snil := by rw [hwv]; exact z1 (by omega)
      subst e2
      exact ⟨1, by omega, 1, vk, .snil, rfl, by omega, rfl, h69, h9, h4, h6, h10, hfD, hbx, fun q => absurd q (by omega), fun _ => rfl, fun _ => hsl, fun q => absurd q (by omega)⟩
     | 1, _, hwv, hp1, hp2, hbx, z1, z2 =>
      have e1 := hp2 rfl
      subst e1
      have e2 : w = v0 := hwv
      subst e2
      exact ⟨0, by omega, 2, w, vk, rfl, by omega, rfl, h69, h9, h4, h6, h10, hfD, hbx, fun q => absurd q (by omega), fun q => absurd q (by omega), fun _ => (z2 (by omega)).mono hle, fun _ => hsl⟩
 clear h4 h5 h6
 rintro z e C hz ⟨rfl, v0, v1, h9, h4, h6, h10, hfC, rC, hs1, hs2⟩
 have wC := hfC.wf w0
 have hbq : BkR (bkZ fl ft fh none) C bq tq s (mapOf L2) (L2.map leafH) L2 H2 fl' ft' fh' := hT0.b.raw.row w0 hfC r9 (by have := lq.1; omega) (by have := lq.2.1; omega)
 have r4 := hfC.row _ _ (hT0.fr.row0 rv) (fun q => by cases q; exact lv rfl)
 simp only [RT, Q0, Q1, Q2, Q3, Q4, Q5, Q6, Q7, Q8]
 refine Aa2 (fun z e D => ∃ (j : Nat) (hv : V) (fo : Option Nat), z = H2.length - j /\ j <= H2.length /\ e.get 16 = .int .i64 ((j + 1 : Nat) : Int) /\ e.get 10 = hv /\ e.get 9 = .ptr b9 0 /\ e.get 4 = .ptr b4 0 /\ e.get 6 = .ptr bq 0 /\ Fr S0 C D /\ Lst eHd Hp.emp D hv (H2.take j) fo /\ ∀ f, fo = some f -> C.blk.length <= f)
  (fun z e D => Is z (.exit 6) /\ ∃ (hv : V) (fo : Option Nat), e.get 10 = hv /\ e.get 9 = .ptr b9 0 /\ e.get 4 = .ptr b4 0 /\ Fr S0 C D /\ Lst eHd Hp.emp D hv H2 fo)
  ⟨_, 0, .snil, none, rfl, by omega, rfl, h10, h9, h4, h6, .refl _ _, .nil, fun f q => by cases q⟩ ?_ ?_
 . clear h9 h4 h6 h10
   rintro z e D ⟨j, hv, fo, rfl, hj, h16, h10, h9, h4, h6, hfD, hL, hfo⟩
   have wD := hfD.wf wC
   have hbD := hbq.fr0 hfD
   have kh := Ax4 hbD
   simp only [RT, Q0, Q1, Q2, Q3, Q4, Q5, Q6, Q7, Q8, h16, h6]
   refine Aa0 kh ?_
   simp only [RT, Q0, Q1, Q2, Q3, Q4, Q5, Q6, Q7, Q8]
   refine Aa1 (fun q1 => ?_) (fun q1 => ?_)
   rotate_left
   . have : j = H2.length := by omega
     subst this
     rw [List.take_length] at hL
     simp only [RT, Q0, Q1, Q2, Q3, Q4, Q5, Q6, Q7, Q8]
     exact ⟨rfl, hv, fo, h10, h9, h4, hfD, hL⟩
   obtain ⟨_, E, p1, j1, hat⟩ := AE5 wD hbD (by omega) ((j + 1 : Nat) : Int)
   obtain ⟨x, hx⟩ := Ad6 (l := H2) (i := j) (by omega)
   have hh : headAt H2 ((j + 1 : Nat) : Int) = some x := by
    unfold headAt
    rw [if_neg (by omega), show (((j + 1 : Nat) : Int) - 1).toNat = j by omega, hx]
   rw [hh] at hat
   obtain ⟨rfl, hx32⟩ := hat
   obtain ⟨F, t1, t2, t3⟩ := Bu6 (A := E) hx32
   obtain ⟨b17, hb17⟩ : ∃ b, b = E.blk.length := ⟨_, rfl⟩
   rw [<- hb17] at t1 t3
   have jF := j1.then0 t2
   have ld := (BC7 t3 hx32).2.2.2
   have wF := jF.wf wD
   obtain ⟨hv', G, fo', p2, p3, p4, p5⟩ := (hL.fr0 jF).push (P := Try.prog) (t := 23) (tx := 23) (n := 34) rfl BL6 Try.underlying23 wF (y := x) (cs' := hdC x) ⟨[.int .i64 x.1], .int .i64 x.2.1 :: bc x.2.2, rfl, rfl, [.int .i64 x.2.1], bc x.2.2, rfl, rfl, rfl, hx32⟩ (by rw [List.length_take]; omega) (by rw [List.length_take]; omega)
   rw [<- Ad8 hx] at p3
   have hwj : IntKind.i64.wrap (((j + 1 : Nat) : Int) + 1) = ((j + 1 + 1 : Nat) : Int) := by rw [Ae9 (by omega) (by omega)]; omega
   have hfG : Fr S0 C G := (hfD.then0 jF).newFam wC p4 hfo
   have hfo' : ∀ f, fo' = some f -> C.blk.length <= f := fun f q => by
    rcases p5.or q with y | y
    . exact hfo f y
    . have := (hfD.then0 jF).len; omega
   simp only [RT, Q0, Q1, Q2, Q3, Q4, Q5, Q6, Q7, Q8, h6, h16]
   refine Aa0 p1 ?_
   simp only [RT, Q0, Q1, Q2, Q3, Q4, Q5, Q6, Q7, Q8, Bk5, <- hb17, t1, ld, h10, BF2 hx32, p2, h16, hwj]
   refine ⟨H2.length - (j + 1), by omega, j + 1, hv', fo', rfl, by omega, ?_⟩
   and_intros <;> first | rfl | assumption
 clear h9 h4 h6 h10
 rintro z e D hz ⟨rfl, hv, fo, h10, h9, h4, hfD, hL⟩
 have wD := hfD.wf wC
 have r9D := hfD.row0 rC
 have r4D := hfD.row0 r4
 have hleD := fun {E : AS} (q : Fr S0 C E) => Aw7 q fun b q => q.elim
 have lds : ∀ {E : AS}, Fr S0 C E -> evLoad Try.prog 22 (.ptr b9 0) E = some v0 /\ evLoad Try.prog 22 (.ptr b9 1) E = some v1 := fun q => ⟨BD1 (k := 0) (by decide) (q.row0 rC), BD1 (k := 1) (by decide) (q.row0 rC)⟩
 have ia : evIndexAddr Try.prog 89 (.ptr b9 0) (.int .i64 0) = some (.ptr b9 0) := BD0 b9 (k := 0) (by decide)
 have ib : evIndexAddr Try.prog 89 (.ptr b9 0) (.int .i64 1) = some (.ptr b9 1) := BD0 b9 (k := 1) (by decide)
 obtain ⟨b10, hb10⟩ : ∃ b, b = D.blk.length := ⟨_, rfl⟩
 obtain ⟨D1, e1⟩ : ∃ B, B = D.push ⟨[v0, v1], .arr b10 0⟩ := ⟨_, rfl⟩
 have f1 : Fr S0 D D1 := by rw [e1, hb10]; exact Fr.pushArr D _
 have r10 : D1.blk[b10]? = some ⟨[v0, v1], .arr b10 0⟩ := by rw [e1, hb10]; exact Ab2 D _
 have hn10 : arrHp C b10 = none := (Aj2 C).fresh (by have := hfD.len; omega)
 have hS2 := A16 hs1 hs2 hn10
 have onS : ((arrHp C).put b10 [v0, v1]).on D1 := ((Aj2 C).fr0 (hfD.then0 f1)).put r10
 obtain ⟨_, D2, k2', rfl, f2', r2⟩ := Bb2 (A := D1) hS2.one
 have hpr : Pref L1 [L1, L2] := fun x q => by
  rcases List.mem_cons.1 q with rfl | q
  . exact ⟨x.length, by rw [List.take_length]⟩
  . rw [List.mem_singleton.1 q]; exact ⟨L2.length, by rw [htl, List.take_left]⟩
 simp only [RT, Q0, Q1, Q2, Q3, Q4, Q5, Q6, Q7, Q8, h9, ia, ib, (lds hfD).1, (lds hfD).2, Bs3 (An4 hs1) (An4 hs2), <- hb10, <- e1]
 refine Aa0 k2' ?_
 simp only [RT, Q0, Q1, Q2, Q3, Q4, Q5, Q6, Q7, Q8]
 refine AV2 (AR := argN) rfl ?_ Try.func9 Try.ntmps9 (by simp) ?_
 . intro A0 hf0
   exact AP8 ((onS.fr0 f2').fr0 hf0) (hf0.row0 r2) hS2 (by simp) (by omega) hpr
 intro E hE
 have fE : Fr S0 C E := ((hfD.then0 f1).then0 f2').then0 hE
 have wE := fE.wf wC
 obtain ⟨_, E1, k3', rfl, f3', r3, r3'⟩ := AZ0 (A := E) (v := v0) (u := hv) hs1.one hL.one
 have hLE := ((hL.fr0 ((f1.then0 f2').then0 hE))).slcArr (fun _ _ q => by cases q)
 have hsE := hs1.mono (hleD fE)
 simp only [RT, Q0, Q1, Q2, Q3, Q4, Q5, Q6, Q7, Q8, h9, ia, (lds fE).1, h10]
 refine Aa0 k3' ?_
 simp only [RT, Q0, Q1, Q2, Q3, Q4, Q5, Q6, Q7, Q8]
 refine AV2 (AR := argN) rfl ?_ Try.func9 Try.ntmps9 (by simp) ?_
 . intro A0 hf0
   have := AP7 (S := orLoop S0 E1.loops.length) ((f3'.then0 hf0).wf wE) (((Aj2 E).fr0 f3').fr0 hf0) (fun b q => q.elim (fun q => q.elim) fun q => by cases q) (hf0.row0 r3) (hf0.row0 r3') hsE hLE (by omega) (fun x q => by have := hsm x q; omega) (by omega)
   rw [A97 (L := L1) (by rw [htl]; exact hok.app tl)] at this
   exact this
 intro F hF
 have fF : Fr S0 C F := (fE.then0 f3').then0 hF
 have wF := fF.wf wC
 have hsF := hs1.mono (hleD fF)
 obtain ⟨_, G, k4, f4, a, b, ok, rfl, ht⟩ := AY7 wF (Aj2 F) hsF (by omega) (fun x q => by have := hsm x q; omega)
 have hok := Bj0 ht hO
 subst hok
 obtain ⟨G1, s1, f5, _, _⟩ := Ai2 (P := Try.prog) G (z := [.int .i64 0, .int .i64 0, .int .i64 0]) (t := 57) (x := .agg [.int .i64 a, .int .i64 b, .int .i64 0]) (cs := [.int .i64 a, .int .i64 b, .int .i64 0]) rfl BI5 rfl rfl
 have fG := (fF.then0 f4).then0 f5
 obtain ⟨b11, hb11⟩ : ∃ b, b = G1.blk.length := ⟨_, rfl⟩
 obtain ⟨G2, e2⟩ : ∃ B, B = G1.push ⟨[v1, v0], .arr b11 0⟩ := ⟨_, rfl⟩
 have f6 : Fr S0 G1 G2 := by rw [e2, hb11]; exact Fr.pushArr G1 _
 have r11 : G2.blk[b11]? = some ⟨[v1, v0], .arr b11 0⟩ := by rw [e2, hb11]; exact Ab2 G1 _
 have fG2 := fG.then0 f6
 have hn11 : arrHp C b11 = none := (Aj2 C).fresh (by have := fG.len; omega)
 have hS3 := A16 hs2 hs1 hn11
 have onS3 : ((arrHp C).put b11 [v1, v0]).on G2 := ((Aj2 C).fr0 fG2).put r11
 obtain ⟨w, _, k5, rfl, x, hx, hwx, hmx⟩ := AH7 onS3 hS3 (by simp)
 have hxl : x.length = L1.length := by
  have h1 := hmx L1 (by simp)
  rcases hx with rfl | hx
  . simp at h1; simp [h1]
  . rcases List.mem_cons.1 hx with rfl | hx
    . rw [htl, List.length_append] at h1 ⊢; omega
    . rw [List.mem_singleton.1 hx]
 have hlw := fun B => hwx.len (P := Try.prog) Try.underlying22 B
 have hl1 := fun B => hs1.len (P := Try.prog) Try.underlying22 B
 obtain ⟨C0, o1, o2⟩ := out true (fG2.row0 r4)
 simp only [RT, Q0, Q1, Q2, Q3, Q4, Q5, Q6, Q7, Q8, h9, ia, (lds fF).1]
 refine Aa0 k4 ?_
 simp only [RT, Q0, Q1, Q2, Q3, Q4, Q5, Q6, Q7, Q8, BL4, s1, Br4, h9, ia, ib, (lds fG).1, (lds fG).2, (lds fG2).1, Bs3 (An4 hs2) (An4 hs1), <- hb11, <- e2, hl1, Aa4]
 refine Aa0 k5 ?_
 simp only [RT, Q0, Q1, Q2, Q3, Q4, Q5, Q6, Q7, Q8, hlw, Aa4]
 refine ⟨AX3 (ha := rfl) rfl rfl rfl rfl (lds fG2).1 rfl Aa4, ?_⟩
 simp only [RT, Q0, Q1, Q2, Q3, Q4, Q5, Q6, Q7, Q8, hxl, h4, o1, o2, Aa4]
end
end Go.Sv.Try
