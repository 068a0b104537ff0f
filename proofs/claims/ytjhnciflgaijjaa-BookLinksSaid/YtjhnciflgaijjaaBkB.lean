/- Books: what they answer. -/
import Derived.Test.YtjhnciflgaijjaaBkA
set_option linter.unusedSimpArgs false
set_option linter.unusedVariables false
open Nat renaming reduceLT → Q0, reduceBEq → Q1, reduceEqDiff → Q2, reduceAdd → Q3
open Int renaming reduceEq → Q4, reduceLT → Q5, reduceLE → Q6, reduceGT → Q7, reduceGE → Q8
namespace Go.Sv.Try
open Go Go.Proofs
section
variable {A B C : AS} {m : Hp} {Z Z' : Nat -> Prop} {bp tp r : Nat} {M : List ((Int × Int) × Nat)} {N L : List Bts} {Hs : List HdP} {fl ft fh : Option Nat} {S : Loc -> Prop}
theorem AL6 (h : BkR Z A bp tp r M N L Hs fl ft fh) (who num : Int) :
 EvF Try.prog HH 50 [.ptr bp 0, .int .i64 who, .int .i64 num] A (match lookL M (who, num) with | some i => .tup [.int .i64 (i : Int), .int .i64 0] | none => .tup [.int .i64 0, .int .i64 4]) A := by
 obtain ⟨lv, hv, b1, b2, b3⟩ := h.ex
 have hlk := h.mp.look (P := Try.prog) kNm mtB zIB (who, num) true
 have key : ∃ w A', EvF Try.prog HH 50 [.ptr bp 0, .int .i64 who, .int .i64 num] A w A' /\ w = (match lookL M (who, num) with | some i => .tup [.int .i64 (i : Int), .int .i64 0] | none => .tup [.int .i64 0, .int .i64 4]) /\ A' = A := by
  refine Aa6 rfl Try.func50 (by unfold Try.f50; rfl) Try.ntmps50 (by unfold Try.f50; rfl) (by simp) ?_
  cases hq : lookL M (who, num) with
  | some i =>
   rw [hq] at hlk; simp only [if_true] at hlk
   simp only [RT, Q0, Q1, Q2, Q3, Q4, Q5, Q6, Q7, Q8, Bl7, Ak2 b1, Bw0, hlk]
  | none =>
   rw [hq] at hlk; simp only [if_true] at hlk
   simp only [RT, Q0, Q1, Q2, Q3, Q4, Q5, Q6, Q7, Q8, Bl7, Ak2 b1, Bw0, hlk]
 obtain ⟨_, _, k, rfl, rfl⟩ := key
 exact k
theorem Bd3 : evBuild Try.prog 34 [] = some (.agg (hdC hd0)) := by kernel_rfl
theorem AY7 : hd0.2.2.length = 32 := rfl
theorem BG5 {b : Nat} {x y : HdP} (h : A.blk[b]? = some ⟨hdC x, .var⟩) (hx : x.2.2.length = 32) (hy : y.2.2.length = 32) : ∃ A', evStore Try.prog 34 (.ptr b 0) (.agg (hdC y)) A = some A' /\ Fr (· = .row b) A A' /\ A'.blk[b]? = some ⟨hdC y, .var⟩ := by
 obtain ⟨A', s1, s2, s3, s4⟩ := Ab7 (P := Try.prog) (t := 34) (o := 0) (x := .agg (hdC y)) (cs := hdC y) h rfl (by rw [Ao1 hy]; exact BD7) (by rw [Ao1 hy, Ao1 hx]; decide) (Bc8 y)
 rw [Ab2 (by rw [Ao1 hy, Ao1 hx])] at s3
 exact ⟨A', s1, s2, s3⟩
def headAt (Hs : List HdP) (k : Int) : Option HdP := if k < 1 then none else Hs[(k - 1).toNat]?
set_option maxRecDepth 10000 in
theorem At8 (hw : WF A) (h : BkR Z A bp tp r M N L Hs fl ft fh) (hH : Hs.length <= 1000000) (k : Int) :
 ∃ w A', EvF Try.prog HH 48 [.ptr bp 0, .int .i64 k] A w A' /\ Fr S0 A A' /\ (match headAt Hs k with | some x => w = .tup [.agg (hdC x), .int .i64 0] /\ x.2.2.length = 32 | none => w = .tup [.agg (hdC hd0), .int .i64 4]) := by
 refine Aa6 rfl Try.func48 (by unfold Try.f48; rfl) Try.ntmps48 (by unfold Try.f48; rfl) (by simp) ?_
 obtain ⟨A1, e1, f1, r1, n1⟩ := Aa9 A (hdC hd0)
 obtain ⟨b4, hb4⟩ : ∃ b, b = A.blk.length := ⟨_, rfl⟩
 rw [<- hb4] at r1
 have h1 := h.fr0 f1
 obtain ⟨lv, hv, b1, b2, b3⟩ := h1.ex
 have hlen := fun B => b3.len (P := Try.prog) Try.underlying23 B
 have fin : ∀ {x : HdP}, x.2.2.length = 32 -> ∃ C, evStore Try.prog 34 (.ptr b4 0) (.agg (hdC x)) A1 = some C /\ evLoad Try.prog 34 (.ptr b4 0) C = some (.agg (hdC x)) /\ Fr S0 A C := fun {x} hx => by
  obtain ⟨C, s1, s2, s3⟩ := BG5 r1 AY7 hx
  exact ⟨C, s1, (Bu1 s3 hx).2.2.2, f1.row_ s2 (by omega)⟩
 by_cases c1 : k < 1
 . have e : headAt Hs k = none := if_pos c1
   obtain ⟨C, s1, s2, s3⟩ := fin AY7
   simp only [RT, Q0, Q1, Q2, Q3, Q4, Q5, Q6, Q7, Q8, Bv9, <- e1, <- hb4, decide_eq_true c1, Bd3, s1, s2]
   rw [e]; exact ⟨s3, trivial⟩
 have e : headAt Hs k = Hs[(k - 1).toNat]? := if_neg c1
 by_cases c2 : k > Hs.length
 . have e2 : Hs[(k - 1).toNat]? = none := List.getElem?_eq_none (by omega)
   obtain ⟨C, s1, s2, s3⟩ := fin AY7
   simp only [RT, Q0, Q1, Q2, Q3, Q4, Q5, Q6, Q7, Q8, Bv9, <- e1, <- hb4, decide_eq_false c1, Bl7, Ak2 b1, hlen, decide_eq_true c2, Bd3, s1, s2]
   rw [e, e2]; exact ⟨s3, trivial⟩
 obtain ⟨x, hx⟩ := Ad0 (l := Hs) (i := (k - 1).toNat) (by omega)
 obtain ⟨b, o, c, g3, g4, g5⟩ := b3.at (P := Try.prog) (k := .i64) (Hp.on_emp A1) Try.underlying23 BD7 BY0 hx
 obtain ⟨rfl, hx32⟩ := BQ6 g5
 obtain ⟨C, s1, s2, s3⟩ := fin hx32
 have hwk : IntKind.i64.wrap (k - 1) = (((k - 1).toNat : Nat) : Int) := by rw [Ac6 (by omega) (by omega)]; omega
 simp only [RT, Q0, Q1, Q2, Q3, Q4, Q5, Q6, Q7, Q8, Bv9, <- e1, <- hb4, decide_eq_false c1, Bl7, Ak2 b1, hlen, decide_eq_false c2, hwk, g3, g4, s1, s2]
 rw [e, hx]; exact ⟨s3, rfl, hx32⟩
set_option maxRecDepth 10000 in
theorem AD0 (hw : WF A) (h : BkR Z A bp tp r M N L Hs fl ft fh) (hl : ∀ x ∈ L, x.length <= 1000000000) (hL : L.length <= 1000000) (i : Int) :
 ∃ w A', EvF Try.prog HH 53 [.ptr bp 0, .int .i64 i] A w A' /\ Fr S0 A A' /\ ((i < 0 ∨ (L.length : Int) < i) /\ w = .tup [.snil, .int .i64 1] ∨ ∃ n c fo, i = ((n : Nat) : Int) /\ n <= L.length /\ w = .tup [c, .int .i64 0] /\ Lst eI Hp.emp A' c ((L.take n).map leafH) fo /\ ∀ f, fo = some f -> A.blk.length <= f) := by
 refine Aa6 rfl Try.func53 (by unfold Try.f53; rfl) Try.ntmps53 (by unfold Try.f53; rfl) (by simp) ?_
 obtain ⟨lv, hv, b1, b2, b3⟩ := h.ex
 have hlen := fun B => b2.len (P := Try.prog) Try.underlying22 B
 by_cases c1 : i < 0
 . simp only [RT, Q0, Q1, Q2, Q3, Q4, Q5, Q6, Q7, Q8, decide_eq_true c1]
   exact ⟨.refl _ _, .inl (.inl c1)⟩
 by_cases c2 : i > L.length
 . simp only [RT, Q0, Q1, Q2, Q3, Q4, Q5, Q6, Q7, Q8, decide_eq_false c1, Bl7, Ak2 b1, hlen, decide_eq_true c2]
   exact ⟨.refl _ _, .inl (.inr c2)⟩
 obtain ⟨n, rfl⟩ := Int.eq_ofNat_of_zero_le (show 0 <= i by omega)
 obtain ⟨wt, t1, t2⟩ := b2.toN (P := Try.prog) (t := 22) Try.underlying22 A28 (hi := n) (by omega) (kh := .i64) A
 have t2 := t2.slcArr (Bj0 _ _)
 obtain ⟨_, B, k1, f1, fo, q1, q2⟩ := Ay7 hw (Af0 A) t2 (by rw [List.length_take]; omega) (fun x q => by have := hl x (List.mem_of_mem_take q); omega)
 simp only [RT, Q0, Q1, Q2, Q3, Q4, Q5, Q6, Q7, Q8, decide_eq_false c1, Bl7, Ak2 b1, hlen, decide_eq_false c2, t1]
 refine Aa0 k1 ?_
 simp only [RT, Q0, Q1, Q2, Q3, Q4, Q5, Q6, Q7, Q8]
 exact ⟨f1, .inr ⟨n, _, fo, rfl, by omega, rfl, q1, q2⟩⟩
end
end Go.Sv.Try
namespace Go.Sv.Try
open Go Go.Proofs
theorem AI3 {w n : Int} {x : Bts} (h1 : 0 <= w /\ w <= 1099511627776) (h2 : 0 <= n /\ n <= 1099511627776) (h3 : x.length <= 131072) : checkM (entM w n x) = 0 := by
 unfold checkM
 rw [if_neg (by simp [entM, msg0]), if_neg ?_, if_neg ?_]
 . simp [entM, msg0, lens, sumOf]; omega
 . simp [entM, msg0, M.nums, numBad]; omega
theorem A39 {w n : Int} {x : Bts} (h : checkM (entM w n x) = 0) : readMsg (writeB (entM w n x)) = entM w n x /\ readErr (writeB (entM w n x)) = 0 :=
 Bl1 (AH1 (AG7 h) ⟨rfl, by simp [entM, msg0]⟩)
theorem A40 {w n : Int} {x : Bts} (h : checkM (entM w n x) = 0) (h1 : w <= 15) (h2 : 1 <= n) (h3 : x.length <= 256) : entC (writeB (entM w n x)) = 0 := by
 obtain ⟨e1, e2⟩ := A39 h
 refine AY0 e2 ?_ ?_
 . rw [e1]
   rintro (q | q | q | q | q | q | q | q | q)
   . exact q rfl
   . have : n < 1 := q; omega
   . have : w > 15 := q; omega
   . exact q rfl
   . exact q rfl
   . exact q rfl
   . exact q rfl
   . simp [entM, msg0] at q
   . simp [entM, msg0] at q
 . rw [e1]; show ¬ x.length > 256; omega
theorem Bd4 {w n : Int} {x : Bts} (h1 : 0 <= w /\ w <= 15) (h2 : 1 <= n /\ n <= 1099511627776) (h3 : x.length <= 256) : entryE w n x = 0 := by
 have h := AI3 (w := w) (n := n) (x := x) ⟨h1.1, by omega⟩ ⟨by omega, h2.2⟩ (by omega)
 unfold entryE
 rw [if_neg (by simpa using h)]
 exact A40 h h1.2 h2.1 h3
theorem Bl8 {w n : Int} {x : Bts} (h : checkM (entM w n x) = 0) : nmOf (writeB (entM w n x)) = (w, n) := by
 unfold nmOf; rw [(A39 h).1]; rfl
theorem AI4 {l : List Bts} (h1 : l.length <= 64) (h2 : lens l <= 131072) : checkM (batM l) = 0 := by
 unfold checkM
 rw [if_neg (by simp [batM, msg0]), if_neg ?_, if_neg ?_]
 . simp [batM, msg0]; omega
 . simp [batM, msg0, M.nums, numBad]
theorem Bl9 {l : List Bts} (h1 : l.length <= 8) (h2 : lens l <= 131072) : joinE l = 0 := by
 unfold joinE
 rw [if_neg (by omega)]
 exact AI4 (by omega) h2
theorem AR6 {l : List Bts} (h1 : l.length <= 8) (h : checkM (batM l) = 0) : splitB (writeB (batM l)) = l := by
 obtain ⟨e1, e2⟩ := Bl1 (AH1 (AG7 h) ⟨rfl, by simp [batM, msg0]⟩)
 unfold splitB
 rw [e1, e2, if_neg]
 . rfl
 . rintro (q | q | q)
   . exact q rfl
   . exact q rfl
   . have : l.length > 8 := q; omega
def kTxt : Bts := [116, 101, 120, 116]
def kEnt : Bts := writeB (entM 3 7 kTxt)
def kEntC : Bts := [1, 1, 0, 0, 1, 3, 5, 0, 0, 1, 7, 7, 0, 0, 4, 116, 101, 120, 116]
theorem Bd5 : kEnt = kEntC := by
 have d3 : digits 3 = [3] := by rw [Ae8 (by decide)]; show digits 0 ++ _ = _; rw [Ac2]; rfl
 have d7 : digits 7 = [7] := by rw [Ae8 (by decide)]; show digits 0 ++ _ = _; rw [Ac2]; rfl
 unfold kEnt writeB fieldList P9
 simp only [entM, msg0, kTxt]
 show _ = _
 rw [show (3 : Int).toNat = 3 from rfl, show (7 : Int).toNat = 7 from rfl, show (0 : Int).toNat = 0 from rfl, d3, d7, Ac2]
 decide +kernel
theorem BR4 : (leafH kEntC).head? = some 0 -> False := by
 have : (leafH kEntC).head? ≠ some 0 := by decide +kernel
 exact this
theorem BR5 : rootR ([kEnt].map leafH) ≠ z32s := by
 rw [Bd5]
 intro q
 have q : leafH kEntC = z32s := q
 exact BR4 (by rw [q]; rfl)
end Go.Sv.Try
namespace Go.Sv.Try
open Go Go.Proofs
section
variable {A B C : AS} {m : Hp} {Z Z' : Nat -> Prop} {bp tp r : Nat} {M : List ((Int × Int) × Nat)} {N L : List Bts} {Hs : List HdP} {fl ft fh : Option Nat} {S : Loc -> Prop}
theorem AY8 {fo : Option Nat} (hw : WF A) (hf : Fr S0 A B) (h : ∀ f, fo = some f -> A.blk.length <= f) {z : Loc} (hz : inFamO B fo z) : z.newTo A := by
 rcases Ad9 hf hz with q | q
 . cases fo with
   | none => exact q.elim
   | some f =>
    have hlo := h f rfl
    cases z with
    | row b => obtain ⟨k, base, z1, z2⟩ := q; have := hw b k _ base z1 z2; omega
    | fam g => show A.blk.length <= g; rw [show g = f from q]; exact hlo
    | map r => exact q.elim
    | loop r => exact q.elim
    | it r => exact q.elim
 . exact q
theorem AD1 (hw : WF A) (hf : Fr S0 A B) (h1 : A.blk.length <= bp) (h2 : A.blk.length <= tp) (h3 : A.maps.length <= r) (a1 : ∀ f, fl = some f -> A.blk.length <= f) (a2 : ∀ f, ft = some f -> A.blk.length <= f) (a3 : ∀ f, fh = some f -> A.blk.length <= f) :
 ∀ z, bkS B bp tp r fl ft fh z -> z.newTo A := by
 rintro z (q | q | q | q | q | q)
 . subst q; exact h1
 . subst q; exact h2
 . subst q; exact h3
 . exact AY8 hw hf a1 q
 . exact AY8 hw hf a2 q
 . exact AY8 hw hf a3 q
theorem Gr.ge {A : AS} {fo fo' : Option Nat} {n : Nat} (h : Gr A fo fo') (hn : n <= A.blk.length) (h0 : ∀ f, fo = some f -> n <= f) : ∀ f, fo' = some f -> n <= f := fun f q => by
 rcases h.or q with y | y
 . exact h0 f y
 . omega
theorem BG6 : bsl Try.prog 44 4 (some [(0, .int .u8 116), (1, .int .u8 101), (2, .int .u8 120), (3, .int .u8 116)]) = some (.newSl (bc kTxt) 4 1) := by kernel_rfl
theorem BR6 {v w : V} (h : v = .snil ∨ ∃ b o n z, v = .sl b o n z) (h' : w = .snil ∨ ∃ b o n z, w = .sl b o n z) : bsl Try.prog 22 2 (some [(0, v), (1, w)]) = some (.newSl [v, w] 2 1) := by
 rcases h with rfl | ⟨_, _, _, _, rfl⟩ <;> rcases h' with rfl | ⟨_, _, _, _, rfl⟩ <;> kernel_rfl
theorem Bm0 {P : Program} {t e : TypeId} {b o n f base : Nat} {cs : List V} {A : AS} (hu : P.underlying t = some (.slice e)) (he : P.underlying e = some (.int .u8)) (hb : A.blk[b]? = some ⟨cs, .arr f base⟩) : cnv P t t (some (.sl b o (n + 1) 1)) A = some (.val (.sl b o (n + 1) 1)) := by
 unfold cnv
 rw [if_pos rfl]
 simp only [Option.bind_some, evSame, if_true, hu, he, hb, Option.map_some]
theorem AA9 : kEnt.length = 19 := by rw [Bd5]; rfl
theorem BX4 : checkM (entM 3 7 kTxt) = 0 := AI3 ⟨by decide, by decide⟩ ⟨by decide, by decide⟩ (by decide)
theorem BG7 : entryE 3 7 kTxt = 0 := Bd4 ⟨by decide, by decide⟩ ⟨by decide, by decide⟩ (by decide)
theorem BG8 : entC kEnt = 0 := A40 BX4 (by decide) (by decide) (by decide)
theorem Bw3 : nmOf kEnt = (3, 7) := Bl8 BX4
theorem BR7 : checkM (batM [kEnt, kEnt]) = 0 := AI4 (by simp) (by simp [lens, sumOf, AA9])
theorem BG9 : joinE [kEnt, kEnt] = 0 := Bl9 (by simp) (by simp [lens, sumOf, AA9])
theorem BR8 : addE [kEnt] kEnt = [kEnt] := Ao2 fun q => by
 have q := q.2.1
 rw [Bw3] at q
 simp [mapOf, lookL, Bw3] at q
theorem B05 : applyB [] (writeB (batM [kEnt, kEnt])) = [kEnt] := by
 unfold applyB
 rw [AR6 (by simp) BR7]
 show addE (addE [] kEnt) kEnt = _
 have e : addE [] kEnt = [kEnt] := At7 BG8 rfl (by decide)
 rw [e, BR8]
theorem B06 : applyB [kEnt] (writeB (batM [kEnt, kEnt])) = [kEnt] := by
 unfold applyB
 rw [AR6 (by simp) BR7]
 show addE (addE [kEnt] kEnt) kEnt = _
 rw [BR8, BR8]
theorem BR9 : lookL (mapOf [kEnt]) (3, 7) = some 0 := by simp [mapOf, lookL, Bw3]
end
end Go.Sv.Try
namespace Go.Sv.Try
open Go Go.Proofs
section
variable {A B C : AS} {m : Hp} {Z Z' : Nat -> Prop} {bp tp r : Nat} {M : List ((Int × Int) × Nat)} {N L : List Bts} {Hs : List HdP} {fl ft fh : Option Nat} {S : Loc -> Prop}
theorem BX5 (b : Nat) : evEq Try.prog 84 (.ptr b 0) .pnil = some false := by kernel_rfl
set_option maxRecDepth 10000 in
set_option maxHeartbeats 32000000 in
theorem AF8 (hw : WF A) : ∃ w A', EvF Try.prog HH 33 [] A w A' /\ w = .bool true /\ Fr S0 A A' := by
 refine Aa6 rfl Try.func33 (by unfold Try.f33; rfl) Try.ntmps33 (by unfold Try.f33; rfl) (by simp) ?_
 obtain ⟨A1, e1⟩ : ∃ B, B = A.push ⟨bc kTxt, .arr A.blk.length 0⟩ := ⟨_, rfl⟩
 have f1 : Fr S0 A A1 := by rw [e1]; exact Fr.pushArr A _
 have s1 := Ay0 A kTxt (sz := 1) rfl
 rw [<- e1] at s1
 obtain ⟨b1, hb1⟩ : ∃ b, b = A.blk.length := ⟨_, rfl⟩
 rw [<- hb1] at s1 e1
 have r1 : A1.blk[b1]? = some ⟨bc kTxt, .arr b1 0⟩ := by rw [e1, hb1]; exact Ab3 A _
 obtain ⟨_, A2, k2, f2, u, rfl, u0, u1⟩ := A80 (who := 3) (num := 7) (f1.wf hw) (Af0 A1) s1 (by decide)
 rw [BG7] at k2
 have own := u1 BG7
 have w2 := f2.wf (f1.wf hw)
 have hc1 : cnv Try.prog 44 44 (some (.sl b1 0 4 1)) A1 = some (.val (.sl b1 0 4 1)) := Bm0 (n := 3) Try.underlying44 Try.underlying5 r1
 simp only [RT, Q0, Q1, Q2, Q3, Q4, Q5, Q6, Q7, Q8, BG6, <- hb1, <- e1, hc1]
 refine Aa0 k2 ?_
 obtain ⟨A3, e3⟩ : ∃ B, B = A2.push ⟨[u, u], .arr A2.blk.length 0⟩ := ⟨_, rfl⟩
 obtain ⟨b3, hb3⟩ : ∃ b, b = A2.blk.length := ⟨_, rfl⟩
 rw [<- hb3] at e3
 have f3 : Fr S0 A2 A3 := by rw [e3, hb3]; exact Fr.pushArr A2 _
 have r3 : A3.blk[b3]? = some ⟨[u, u], .arr b3 0⟩ := by rw [e3, hb3]; exact Ab3 A2 _
 have hu3 := (own.fr0 f3).arrBts
 have s3 : Slc (eSl eU8) (arrHp A3) (.sl b3 0 2 1) [kEnt, kEnt] := BO5 (by unfold arrHp; rw [r3]) rfl rfl fun i x hx => by
  match i, hx with
  | 0, hx => cases hx; exact ⟨_, rfl, hu3⟩
  | 1, hx => cases hx; exact ⟨_, rfl, hu3⟩
  | i + 2, hx => simp at hx
 have w3 := f3.wf w2
 obtain ⟨_, A4, k4, f4, v, rfl, v0, v1⟩ := Bd1 w3 (Af0 A3) s3 (by simp) (fun b hb => by simp at hb; rw [hb, AA9]; decide)
 rw [BG9] at k4
 have ownB := v1 BG9
 have w4 := f4.wf w3
 simp only [RT, Q0, Q1, Q2, Q3, Q4, Q5, Q6, Q7, Q8, BR6 own.form own.form, <- hb3, <- e3]
 refine Aa0 k4 ?_
 obtain ⟨_, A5, k5, f5, bp, tp, r, ft, rfl, hB, hft, g1, g2, g3⟩ := Ay8 (Z := fun _ => False) w4
 simp only [RT, Q0, Q1, Q2, Q3, Q4, Q5, Q6, Q7, Q8]
 refine Aa0 k5 ?_
 have w5 := f5.wf w4
 have hbat := ownB.arrBts
 have hbl : (writeB (batM [kEnt, kEnt])).length <= 1800091 := AH9 (Bd0 s3) (AG7 BR7)
 obtain ⟨_, A6, k6, rfl, f6, fl1, ft1, fh1, hB6, a1, a2, a3⟩ := Am0 w5 (fun f q => q.elim) hB ((Af0 A4).fr0 f5) hbat (by omega) (by simp)
 have z1 : ∀ f, (none : Option Nat) = some f -> A4.blk.length <= f := fun f q => by cases q
 have f46 : Fr S0 A4 A6 := f5.trans f6 fun z q => .inr (AD1 w4 f5 g1 g2 g3 z1 hft z1 z q)
 rw [B05] at hB6 k6
 have w6 := f46.wf w4
 obtain ⟨_, A7, k7, rfl, f7, fl2, ft2, fh2, hB7, b1', b2', b3'⟩ := Am0 w6 (fun f q => q.elim) hB6 ((Af0 A4).fr0 f46) hbat (by omega) (by simp)
 have l5 := f5.len
 have l6 := f46.len
 have f47 : Fr S0 A4 A7 := f46.trans f7 fun z q => .inr (AD1 w4 f46 g1 g2 g3 (Gr.ge a1 l5 z1) (Gr.ge a2 l5 hft) (Gr.ge a3 l5 z1) z q)
 rw [B06] at hB7 k7
 have w7 := f47.wf w4
 have hul := fun B => own.len (P := Try.prog) Try.underlying44 B
 rw [show (writeB (entM 3 7 kTxt)).length = 19 from AA9] at hul
 have v1' : (V.int .i64 ((([kEnt] : List Bts).length : Int) - (([] : List Bts).length : Int))) = .int .i64 1 := rfl
 have v2' : (V.int .i64 ((([kEnt] : List Bts).length : Int) - (([kEnt] : List Bts).length : Int))) = .int .i64 0 := rfl
 rw [v1'] at k6
 rw [v2'] at k7
 simp only [RT, Q0, Q1, Q2, Q3, Q4, Q5, Q6, Q7, Q8, hul, BX5, decide_eq_false (show ¬ (((19 : Nat) : Int) = 0) by decide)]
 refine Aa0 k6 ?_
 simp only [RT, Q0, Q1, Q2, Q3, Q4, Q5, Q6, Q7, Q8]
 refine Aa0 k7 ?_
 simp only [RT, Q0, Q1, Q2, Q3, Q4, Q5, Q6, Q7, Q8]
 have k8 := AL6 hB7.raw 3 7
 rw [BR9] at k8
 have k8 : EvF Try.prog HH 50 [.ptr bp 0, .int .i64 3, .int .i64 7] A7 (.tup [.int .i64 0, .int .i64 0]) A7 := k8
 refine Aa0 k8 ?_
 obtain ⟨_, A8, k9, f8, y9⟩ := At8 w7 hB7.raw (by simp) 2
 obtain ⟨rfl, h32⟩ : _ = V.tup [.agg (hdC (2, 1, rootR ([kEnt].map leafH))), .int .i64 0] /\ (rootR ([kEnt].map leafH)).length = 32 := y9
 have k10 := Ag3 (hB7.raw.fr0 f8)
 simp only [RT, Q0, Q1, Q2, Q3, Q4, Q5, Q6, Q7, Q8]
 refine Aa0 k9 ?_
 obtain ⟨A9, t1, f9, t3⟩ := BF8 (A := A8) (x := (2, 1, rootR ([kEnt].map leafH))) h32
 obtain ⟨b8, hb8⟩ : ∃ b, b = A8.blk.length := ⟨_, rfl⟩
 rw [<- hb8] at t1 t3
 have f79 := f8.then0 f9
 have k10 : EvF Try.prog HH 45 [.ptr bp 0] A9 (.int .i64 1) A9 := Ag3 (hB7.raw.fr0 f79)
 have k11 : EvF Try.prog HH 47 [.ptr bp 0] A9 (.int .i64 2) A9 := Ap2 (hB7.raw.fr0 f79)
 have ld := Bu1 t3 h32
 have fa := BO7 b8
 simp only [RT, Q0, Q1, Q2, Q3, Q4, Q5, Q6, Q7, Q8, Bv9, <- hb8, t1]
 refine Aa0 k10 ?_
 simp only [RT, Q0, Q1, Q2, Q3, Q4, Q5, Q6, Q7, Q8]
 refine Aa0 k11 ?_
 simp only [RT, Q0, Q1, Q2, Q3, Q4, Q5, Q6, Q7, Q8, fa, ld, BQ0, BZ9 h32 (show z32s.length = 32 from rfl), BR5]
 exact (((f1.then0 f2).then0 f3).then0 f4).then0 (f47.then0 f79)
end
end Go.Sv.Try
namespace Go.Sv.Try
open Go Go.Proofs
section
variable {A B C : AS} {m : Hp}
theorem ld2 {b : Nat} {x y : Int} {k : BK} (h : A.blk[b]? = some ⟨[.int .i64 x, .int .i64 y], k⟩) : evLoad Try.prog 3 (.ptr b 0) A = some (.int .i64 x) /\ evLoad Try.prog 3 (.ptr b 1) A = some (.int .i64 y) :=
 ⟨by rw [Ab9 ag3 h]; rfl, by rw [Ab9 ag3 h]; rfl⟩
end
end Go.Sv.Try
