/- Parts of writing messages: what they come to. -/
import Derived.Test.YtjhnciflgaijjaaSvBase
import Derived.Test.YtjhnciflgaijjaaAu0
import Derived.Test.YtjhnciflgaijjaaSv4
set_option linter.unusedSimpArgs false
set_option linter.unusedVariables false
open Nat renaming reduceLT → Q0, reduceBEq → Q1, reduceEqDiff → Q2, reduceAdd → Q3
open Int renaming reduceEq → Q4, reduceLT → Q5, reduceLE → Q6, reduceGT → Q7, reduceGE → Q8
namespace Go.Sv.Try
open Go Go.Proofs
theorem faM (b : Nat) : evFieldAddr Try.prog 70 (.ptr b 0) 0 = some (.ptr b 0) /\ evFieldAddr Try.prog 70 (.ptr b 0) 1 = some (.ptr b 1) /\ evFieldAddr Try.prog 70 (.ptr b 0) 2 = some (.ptr b 2) /\ evFieldAddr Try.prog 70 (.ptr b 0) 3 = some (.ptr b 3) /\ evFieldAddr Try.prog 70 (.ptr b 0) 4 = some (.ptr b 4)
 /\ evFieldAddr Try.prog 70 (.ptr b 0) 5 = some (.ptr b 5) /\ evFieldAddr Try.prog 70 (.ptr b 0) 6 = some (.ptr b 6) /\ evFieldAddr Try.prog 70 (.ptr b 0) 7 = some (.ptr b 38) /\ evFieldAddr Try.prog 70 (.ptr b 0) 8 = some (.ptr b 39) /\ evFieldAddr Try.prog 70 (.ptr b 0) 9 = some (.ptr b 40) :=
 ⟨by kernel_rfl, by kernel_rfl, by kernel_rfl, by kernel_rfl, by kernel_rfl, by kernel_rfl, by kernel_rfl, by kernel_rfl, by kernel_rfl, by kernel_rfl⟩
theorem BD4 {x : M} {dv iv lv : V} (h : x.id.length = 32) : (mc x dv iv lv)[38]? = some dv /\ (mc x dv iv lv)[39]? = some iv /\ (mc x dv iv lv)[40]? = some lv := by
 have e : (bc x.id).length = 32 := by rw [Ab0, h]
 have key : ∀ j, (mc x dv iv lv)[38 + j]? = [dv, iv, lv][j]? := fun j => by
  have : 38 + j = (32 + j) + 6 := by omega
  rw [this]
  show (bc x.id ++ [dv, iv, lv])[32 + j]? = _
  rw [List.getElem?_append_right (by omega), e]; congr 1; omega
 exact ⟨key 0, key 1, key 2⟩
theorem ldM {x : M} {dv iv lv : V} {A : AS} {b : Nat} {k : BK} (hb : A.blk[b]? = some ⟨mc x dv iv lv, k⟩) (h : x.id.length = 32) :
 evLoad Try.prog 3 (.ptr b 0) A = some (.int .i64 x.kind) /\ evLoad Try.prog 3 (.ptr b 1) A = some (.int .i64 x.who) /\ evLoad Try.prog 3 (.ptr b 2) A = some (.int .i64 x.height) /\ evLoad Try.prog 3 (.ptr b 3) A = some (.int .i64 x.round)
 /\ evLoad Try.prog 3 (.ptr b 4) A = some (.int .i64 x.valid) /\ evLoad Try.prog 3 (.ptr b 5) A = some (.int .i64 x.num) /\ evLoad Try.prog 32 (.ptr b 6) A = some (.agg (bc x.id)) /\ evLoad Try.prog 44 (.ptr b 38) A = some dv
 /\ evLoad Try.prog 36 (.ptr b 39) A = some iv /\ evLoad Try.prog 22 (.ptr b 40) A = some lv /\ evLoad Try.prog 70 (.ptr b 0) A = some (.agg (mc x dv iv lv)) := by
 have hl := Ag1 (dv := dv) (iv := iv) (lv := lv) h
 obtain ⟨e1, e2, e3⟩ := BD4 (dv := dv) (iv := iv) (lv := lv) h
 refine ⟨?_, ?_, ?_, ?_, ?_, ?_, ?_, ?_, ?_, ?_, ?_⟩
 . rw [Ab9 ag3 hb]; rfl
 . rw [Ab9 ag3 hb]; rfl
 . rw [Ab9 ag3 hb]; rfl
 . rw [Ab9 ag3 hb]; rfl
 . rw [Ab9 ag3 hb]; rfl
 . rw [Ab9 ag3 hb]; rfl
 . rw [Al9 A96 AO4]
   unfold AS.range
   rw [hb]
   simp only [hl]
   rw [if_pos (by decide)]
   have : (List.drop 6 (mc x dv iv lv)).take 32 = bc x.id := by
    show (bc x.id ++ [dv, iv, lv]).take 32 = _
    rw [List.take_left' (by rw [Ab0, h])]
   rw [this]; rfl
 . rw [Ab9 A95 hb, e1]
 . rw [Ab9 BL1 hb, e2]
 . rw [Ab9 Bi8 hb, e3]
 . rw [Al9 BO7 Bh0]
   unfold AS.range
   rw [hb]
   simp only [hl]
   rw [if_pos (by decide)]
   rw [List.drop_zero, List.take_of_length_le (by rw [hl]; decide)]; rfl
theorem BL8 (a b c d e : Int) : evBuild Try.prog 203 [(0, .int .i64 a), (1, .int .i64 b), (2, .int .i64 c), (3, .int .i64 d), (4, .int .i64 e)] = some (.agg [.int .i64 a, .int .i64 b, .int .i64 c, .int .i64 d, .int .i64 e]) := by kernel_rfl
set_option maxRecDepth 10000 in
set_option maxHeartbeats 8000000 in
theorem AY5 {m : Hp} {A : AS} {x : M} {dv iv lv : V} (hm : m.on A) (h : MsgIn m x dv iv lv) (hl : x.ids.length <= 9223372036854775807) (hd : x.data.length <= 9223372036854775807) (hll : x.list.length <= 9223372036854775807) (hb : ∀ b ∈ x.list, b.length <= 9223372036854775807) :
 ∃ w A', EvF Try.prog HH 92 [.agg (mc x dv iv lv)] A w A' /\ w = .int .i64 (checkM x) /\ Fr S0 A A' := by
 refine Aa9 rfl Try.func92 (by unfold Try.f92; rfl) Try.ntmps92 (by unfold Try.f92; rfl) (by simp) ?_
 simp only [RT, Q0, Q1, Q2, Q3, Q4, Q5, Q6, Q7, Q8]
 obtain ⟨A1, e1, f1, r1, n1⟩ := Ab3 A (mc x dv iv lv)
 rw [<- e1]
 have ld := ldM r1 h.id
 have fa := faM A.blk.length
 have hm1 := hm.fr0 f1
 have dlen := fun B => h.data.len (P := Try.prog) Try.underlying44 B
 have ilen := fun B => h.ids.len (P := Try.prog) Try.underlying36 B
 have llen := fun B => h.list.len (P := Try.prog) Try.underlying22 B
 simp only [RT, Q0, Q1, Q2, Q3, Q4, Q5, Q6, Q7, Q8, ld, fa]
 refine Ad9 (fun g1 => ?_) (fun g1 => ?_)
 . simp only [RT, Q0, Q1, Q2, Q3, Q4, Q5, Q6, Q7, Q8, g1]
   exact ⟨by unfold checkM; rw [if_pos (.inl g1)], f1⟩
 simp only [RT, Q0, Q1, Q2, Q3, Q4, Q5, Q6, Q7, Q8, ld, fa, g1]
 refine Aa1 (fun g2 => ?_) (fun g2 => ?_)
 . simp only [RT, Q0, Q1, Q2, Q3, Q4, Q5, Q6, Q7, Q8]
   exact ⟨by unfold checkM; rw [if_pos (.inr g2)], f1⟩
 simp only [RT, Q0, Q1, Q2, Q3, Q4, Q5, Q6, Q7, Q8, ld, fa, BL8]
 have hk : ¬ (x.kind < 1 ∨ x.kind > 31) := by omega
 refine Aa2 (fun n e B => B = A1 /\ ∃ i : Nat, n = 5 - i /\ i <= 5 /\ e.get 27 = .int .i64 i /\ e.get 26 = .agg (x.nums.map (.int .i64 ·)) /\ e.get 1 = .ptr A.blk.length 0 /\ ∀ n ∈ x.nums.take i, numBad n = false)
  (fun z e B => B = A1 /\ e.get 1 = .ptr A.blk.length 0 /\ ((Is z (.exit 0) /\ ∀ n ∈ x.nums, numBad n = false) ∨ (Is z .ret /\ e.get 2 = .int .i64 1 /\ checkM x = 1)))
  ⟨_, rfl, 0, rfl, by simp, rfl, rfl, rfl, by simp⟩ ?_ ?_
 . rintro n e B ⟨rfl, i, rfl, hi, h27, h26, h1, hall⟩
   simp only [RT, Q0, Q1, Q2, Q3, Q4, Q5, Q6, Q7, Q8, h27]
   refine Aa1 (fun g3 => ?_) (fun g3 => ?_)
   . obtain ⟨n, hn⟩ := Ad6 (l := x.nums) (i := i) (by simp only [M.nums, List.length_cons, List.length_nil]; omega)
     have hat := Bi6 (P := Try.prog) (t := 203) (k := .i64) (cs := x.nums.map (.int .i64 ·)) (i := i) Try.underlying203 sz3 ag3 (by omega)
     rw [List.getElem?_map, hn, Option.map_some] at hat
     simp only [RT, Q0, Q1, Q2, Q3, Q4, Q5, Q6, Q7, Q8, h27, h26, hat]
     have isBad : numBad n = true -> checkM x = 1 := fun q => by
      unfold checkM
      rw [if_neg hk, if_pos (List.any_eq_true.2 ⟨n, List.mem_of_getElem? hn, q⟩)]
     refine Ad9 (fun g4 => ?_) (fun g4 => ?_)
     . simp only [RT, Q0, Q1, Q2, Q3, Q4, Q5, Q6, Q7, Q8, g4, h1]
       exact .inr ⟨rfl, isBad (by simp [numBad, g4])⟩
     . simp only [RT, Q0, Q1, Q2, Q3, Q4, Q5, Q6, Q7, Q8, g4]
       refine Aa1 (fun g5 => ?_) (fun g5 => ?_)
       . simp only [RT, Q0, Q1, Q2, Q3, Q4, Q5, Q6, Q7, Q8, h1]
         exact .inr ⟨rfl, isBad (by simp [numBad, g5])⟩
       . simp only [RT, Q0, Q1, Q2, Q3, Q4, Q5, Q6, Q7, Q8, h27]
         refine ⟨5 - (i + 1), by omega, i + 1, rfl, by omega, by rw [Af9 (by omega)], h26, h1, fun z hz => ?_⟩
         rcases AH1 hn hz with q | rfl
         . exact hall z q
         . simp only [numBad, Bool.or_eq_false_iff, decide_eq_false_iff_not]; exact ⟨g4, g5⟩
   . simp only [RT, Q0, Q1, Q2, Q3, Q4, Q5, Q6, Q7, Q8, h1]
     refine .inl ⟨rfl, fun n hn => hall n ?_⟩
     rw [List.take_of_length_le (by simp only [M.nums, List.length_cons, List.length_nil]; omega)]; exact hn
 rintro z e B hz ⟨rfl, h1, ⟨rfl, hall⟩ | ⟨rfl, h2, hc⟩⟩
 rotate_left
 . simp only [RT, Q0, Q1, Q2, Q3, Q4, Q5, Q6, Q7, Q8, h2]
   exact ⟨by rw [hc], f1⟩
 have hn : ¬ (x.nums.any numBad = true) := fun q => by
  obtain ⟨n, hn, hb⟩ := List.any_eq_true.1 q
  rw [hall n hn] at hb; simp at hb
 have c2 : x.ids.length > 64 ∨ x.list.length > 64 ∨ x.data.length + lens x.list > 131072 -> checkM x = 2 := fun q => by
  unfold checkM; rw [if_neg hk, if_neg hn, if_pos q]
 have c0 : ¬ (x.ids.length > 64 ∨ x.list.length > 64 ∨ x.data.length + lens x.list > 131072) -> checkM x = 0 := fun q => by
  unfold checkM; rw [if_neg hk, if_neg hn, if_neg q]
 simp only [RT, Q0, Q1, Q2, Q3, Q4, Q5, Q6, Q7, Q8, h1, ld, fa, dlen, ilen]
 refine Ad9 (fun g1 => ?_) (fun g1 => ?_)
 . simp only [RT, Q0, Q1, Q2, Q3, Q4, Q5, Q6, Q7, Q8, g1]
   exact ⟨by rw [c2 (.inl (by omega))], f1⟩
 simp only [RT, Q0, Q1, Q2, Q3, Q4, Q5, Q6, Q7, Q8, h1, ld, fa, g1, llen]
 refine Ad9 (fun g2 => ?_) (fun g2 => ?_)
 . simp only [RT, Q0, Q1, Q2, Q3, Q4, Q5, Q6, Q7, Q8, g2]
   exact ⟨by rw [c2 (.inr (.inl (by omega)))], f1⟩
 simp only [RT, Q0, Q1, Q2, Q3, Q4, Q5, Q6, Q7, Q8, g2]
 refine Aa1 (fun g3 => ?_) (fun g3 => ?_)
 . simp only [RT, Q0, Q1, Q2, Q3, Q4, Q5, Q6, Q7, Q8]
   exact ⟨by rw [c2 (.inr (.inr (by omega)))], f1⟩
 simp only [RT, Q0, Q1, Q2, Q3, Q4, Q5, Q6, Q7, Q8, h1, ld, fa, llen]
 refine Aa2 (fun n e C => C = B /\ ∃ i : Nat, n = x.list.length - i /\ i <= x.list.length /\ e.get 57 = .int .i64 i /\ e.get 55 = lv /\ e.get 56 = .int .i64 x.list.length /\ e.get 5 = .int .i64 (x.data.length + lens (x.list.take i) : Nat) /\ x.data.length + lens (x.list.take i) <= 131072)
  (fun z e C => C = B /\ ((Is z (.exit 2) /\ checkM x = 0) ∨ (Is z .ret /\ e.get 2 = .int .i64 2 /\ checkM x = 2)))
  ⟨_, rfl, 0, rfl, by simp, rfl, rfl, rfl, by simp [lens, sumOf, Env.get], by simp [lens, sumOf]; omega⟩ ?_ ?_
 . rintro n e C ⟨rfl, i, rfl, hi, h57, h55, h56, h5, hle⟩
   simp only [RT, Q0, Q1, Q2, Q3, Q4, Q5, Q6, Q7, Q8, h57, h56]
   refine Aa1 (fun g4 => ?_) (fun g4 => ?_)
   . obtain ⟨y, hy⟩ := Ad6 (l := x.list) (i := i) (by omega)
     obtain ⟨b, o, c, q1, q2, q3⟩ := h.list.at (P := Try.prog) (k := .i64) hm1 Try.underlying22 A14 A95 hy
     rw [Az3] at q3
     have q4 := fun B => q3.len (P := Try.prog) Try.underlying44 B
     have hyl := hb y (List.mem_of_getElem? hy)
     have hs := A18 hy
     have hle2 := AH8 x.list (i + 1)
     simp only [RT, Q0, Q1, Q2, Q3, Q4, Q5, Q6, Q7, Q8, h57, h55, q1, q2, h5, q4]
     refine Ad9 (fun g5 => ?_) (fun g5 => ?_)
     . simp only [RT, Q0, Q1, Q2, Q3, Q4, Q5, Q6, Q7, Q8, g5]
       exact .inr ⟨rfl, c2 (.inr (.inr (by omega)))⟩
     . have hw : IntKind.i64.wrap (((x.data.length + lens (x.list.take i) : Nat) : Int) + y.length) = ((x.data.length + lens (x.list.take (i + 1)) : Nat) : Int) := by
        rw [AF4 (by omega) (by omega), hs]; omega
       rw [hw]
       simp only [RT, Q0, Q1, Q2, Q3, Q4, Q5, Q6, Q7, Q8, g5]
       refine Aa1 (fun g6 => ?_) (fun g6 => ?_)
       . simp only [RT, Q0, Q1, Q2, Q3, Q4, Q5, Q6, Q7, Q8]
         exact .inr ⟨rfl, c2 (.inr (.inr (by omega)))⟩
       . simp only [RT, Q0, Q1, Q2, Q3, Q4, Q5, Q6, Q7, Q8, h57]
         exact ⟨x.list.length - (i + 1), by omega, i + 1, rfl, by omega, by rw [Af9 (by omega)], h55, h56, rfl, by omega⟩
   . simp only [RT, Q0, Q1, Q2, Q3, Q4, Q5, Q6, Q7, Q8]
     rw [List.take_of_length_le (by omega)] at hle
     exact .inl ⟨rfl, c0 (by omega)⟩
 . rintro z e C hz ⟨rfl, ⟨rfl, hc⟩ | ⟨rfl, h2, hc⟩⟩
   . simp only [RT, Q0, Q1, Q2, Q3, Q4, Q5, Q6, Q7, Q8]
     exact ⟨by rw [hc], f1⟩
   . simp only [RT, Q0, Q1, Q2, Q3, Q4, Q5, Q6, Q7, Q8, h2]
     exact ⟨by rw [hc], f1⟩
end Go.Sv.Try
namespace Go.Sv.Try
open Go Go.Proofs
end Go.Sv.Try
namespace Go.Sv.Try
open Go Go.Proofs
theorem BK0 : evBuild Try.prog 32 [] = some (.agg (bc zero32)) := by kernel_rfl
theorem eqI {l r : Bts} (hl : l.length = 32) (hr : r.length = 32) : evEq Try.prog 32 (.agg (bc l)) (.agg (bc r)) = some (decide (l = r)) :=
 AX1 (n := 32) (by kernel_rfl) A96 (by kernel_rfl) hl hr
theorem zcI : (zeroT Try.prog 32).bind V.cells = some (bc zero32) := by kernel_rfl
theorem Bj6 {x : M} (h : OkM x) (hid : x.id.length = 32) (hids : ∀ b ∈ x.ids, b.length = 32) : ∀ b ∈ P9 x, b.length <= 200000 := by
 have hs := h.size
 have hd : ∀ n ∈ x.nums, (digits n.toNat).length <= 6 := fun n hn => AX7 _ 6 (by have := h.nums n hn; omega)
 simp only [M.nums, List.mem_cons, List.mem_nil_iff, or_false, forall_eq_or_imp, forall_eq] at hd
 obtain ⟨d1, d2, d3, d4, d5⟩ := hd
 have hf := Au2 x.ids hids
 have hl := Am0 x.list
 have h1 := h.ids; have h2 := h.list
 intro b hb
 simp only [P9, List.mem_cons, List.mem_nil_iff, or_false] at hb
 rcases hb with rfl | rfl | rfl | rfl | rfl | rfl | rfl | rfl | rfl
 . omega
 . omega
 . omega
 . omega
 . omega
 . split
   . simp
   . omega
 . omega
 . omega
 . omega
theorem Bj7 {m : Hp} {v : V} {l : List Bts} (h : Slc eId m v l) : ∀ b ∈ l, b.length = 32 := by
 intro b hb
 obtain ⟨i, hi⟩ := List.mem_iff_getElem?.1 hb
 obtain ⟨cs, h1, h2⟩ := h.get hi
 exact h2
def RJ (S : Loc -> Prop) (A : AS) (lo bx : Nat) (J D : Nat -> AS -> Prop) (x : M) (j : Nat) (z : Ex) (e : Env) (B : AS) : Prop :=
 Fr S A B /\ ((z = .normal /\ e.get 0 = .yield lo /\ e.get 1 = .ptr bx 0 /\ J (optAll 1 ((P9 x).take j)).length B) ∨ (z = .ret /\ ∃ i, i < (fieldList x).length /\ D i B))
theorem RJ.ok {S : Loc -> Prop} {A : AS} {lo bx : Nat} {J D : Nat -> AS -> Prop} {x : M} {j : Nat} {e : Env} {B : AS} (h1 : Fr S A B) (h2 : e.get 0 = .yield lo) (h3 : e.get 1 = .ptr bx 0) (h4 : J (optAll 1 ((P9 x).take j)).length B) : RJ S A lo bx J D x j .normal e B := ⟨h1, .inl ⟨rfl, h2, h3, h4⟩⟩
theorem RJ.stop {S : Loc -> Prop} {A : AS} {lo bx : Nat} {J D : Nat -> AS -> Prop} {x : M} {j : Nat} {e : Env} {B : AS} (h1 : Fr S A B) (h2 : ∃ i, i < (fieldList x).length /\ D i B) : RJ S A lo bx J D x j .ret e B := ⟨h1, .inr ⟨rfl, h2⟩⟩
end Go.Sv.Try
namespace Go.Sv.Try
open Go Go.Proofs
structure Sized (x : M) : Prop where
 ids : x.ids.length <= 9223372036854775807
 data : x.data.length <= 9223372036854775807
 list : x.list.length <= 9223372036854775807
 each : ∀ b ∈ x.list, b.length <= 9223372036854775807
end Go.Sv.Try
namespace Go.Sv.Try
open Go Go.Proofs
end Go.Sv.Try
namespace Go.Sv.Try
open Go Go.Proofs
theorem Ax1 : ∀ (l : List Bts) (t : Nat), (∀ b ∈ l, b.length <= 200000) -> ((optAll t l).flatMap fieldB).length <= l.length * 200010
 | [], t, _ => by simp [optAll]
 | b :: l, t, hl => by
  have h1 := Ax1 l (t + 1) (fun c hc => hl c (List.mem_cons_of_mem _ hc))
  have h2 := hl b (List.mem_cons_self)
  simp only [optAll, List.flatMap_append, List.length_append, List.length_cons, Nat.succ_mul, opt1]
  split
  . rw [List.flatMap_nil, List.length_nil]; omega
  . rw [List.flatMap_cons, List.flatMap_nil, List.append_nil]
    have : (fieldB (t, b)).length = b.length + 4 := by simp [fieldB, AE0]
    omega
end Go.Sv.Try
namespace Go.Sv.Try
open Go Go.Proofs
theorem Reads.bytes (n : Nat) (hn : 0 < n) : Reads (eB n hn) (.arr n (.int .u8) 1) (fun _ => True) (fun _ => 1) := by
 intro A d cs h
 cases h with
 | @arr n sz e l vs hl hv hh =>
  obtain ⟨r, h1, h2⟩ := Ap8 (R := fun i (d : Dat) (x : UInt8) => cs[i]? = some (.int .u8 x.toNat)) l 0 fun i d q => by
   obtain ⟨x, q1, _⟩ := Reads.u8 A d _ (hh i d q)
   refine ⟨x, ?_⟩
   have q1 : (cs.drop (i * 1)).take 1 = [.int .u8 x.toNat] := q1
   rw [Nat.mul_one, List.take_one, List.head?_drop] at q1
   rw [Nat.zero_add]
   cases hc : cs[i]? with
   | none => rw [hc] at q1; simp at q1
   | some c => rw [hc] at q1; simpa using q1
  refine ⟨r, ⟨AW6 (by rw [Ab0]; omega) fun i x hx => ?_, by omega⟩, trivial, by simp [Dat.bulk]⟩
  rw [AN9] at hx
  cases hr : r[i]? with
  | none => rw [hr] at hx; simp at hx
  | some y =>
   rw [hr] at hx; simp at hx; subst hx
   have hi := (List.getElem?_eq_some_iff.1 hr).1
   have := h2 i l[i] y (List.getElem?_eq_getElem (by omega)) hr
   rwa [Nat.zero_add] at this
end Go.Sv.Try
namespace Go.Sv.Try
open Go Go.Proofs
theorem faR (b : Nat) : evFieldAddr Try.prog 178 (.ptr b 0) 0 = some (.ptr b 0) /\ evFieldAddr Try.prog 178 (.ptr b 0) 1 = some (.ptr b 1) := ⟨by kernel_rfl, by kernel_rfl⟩
theorem ldR {A : AS} {b : Nat} {rv : V} {bad : Int} {k : BK} (h : A.blk[b]? = some ⟨[rv, .int .i64 bad], k⟩) : evLoad Try.prog 44 (.ptr b 0) A = some rv /\ evLoad Try.prog 45 (.ptr b 1) A = some (.int .i64 bad) :=
 ⟨by rw [Ab9 A95 h]; rfl, by rw [Ab9 BL3 h]; rfl⟩
theorem AI5 {A : AS} {b : Nat} {rv : V} {bad n : Int} (h : A.blk[b]? = some ⟨[rv, .int .i64 bad], .var⟩) : ∃ A', evStore Try.prog 45 (.ptr b 1) (.int .i64 n) A = some A' /\ Fr (· = .row b) A A' /\ A'.blk[b]? = some ⟨[rv, .int .i64 n], .var⟩ := by
 obtain ⟨A', h1, h2, h3, _⟩ := Ab6 (P := Try.prog) (t := 45) (o := 1) (x := .int .i64 n) h rfl BL2 (by simp) rfl
 exact ⟨A', h1, h2, h3⟩
theorem A28 {A : AS} {b : Nat} {rv w : V} {bad : Int} (h : A.blk[b]? = some ⟨[rv, .int .i64 bad], .var⟩) (hw : w.one = true) : ∃ A', evStore Try.prog 44 (.ptr b 0) w A = some A' /\ Fr (· = .row b) A A' /\ A'.blk[b]? = some ⟨[w, .int .i64 bad], .var⟩ := by
 obtain ⟨A', h1, h2, h3, _⟩ := Ab6 (P := Try.prog) (t := 44) (o := 0) (x := w) h (one_cells hw) A14 (by simp) (by simp [hw])
 exact ⟨A', h1, h2, h3⟩
theorem Bj8 (u : UInt8) (A : AS) : cnv Try.prog 5 3 (some (.int .u8 (u.toNat : Int))) A = some (.val (.int .i64 (u.toNat : Int))) := by
 rw [Au0 (by decide) Try.underlying5 Try.underlying3, BI3]
theorem Am3 {m : Hp} {A : AS} {v : V} {l : Bts} (h : Slc eU8 m v l) (hm : m.on A) {i : Nat} {x : UInt8} (hx : l[i]? = some x) : ∃ b o, evIndexAddr Try.prog 44 v (.int .i64 (i : Int)) = some (.ptr b o) /\ evLoad Try.prog 5 (.ptr b o) A = some (.int .u8 x.toNat) := by
 obtain ⟨b, o, w, h1, h2, h3⟩ := h.at (P := Try.prog) (k := .i64) hm Try.underlying44 sz5 ag5 hx
 rw [BF8] at h3
 subst h3
 exact ⟨b, o, h1, h2⟩
set_option maxRecDepth 10000 in
set_option maxHeartbeats 8000000 in
theorem AI6 {m : Hp} {A : AS} {br : Nat} {rv : V} {s : Bts} (hm : m.on A) (hb : m br = none) (hr : A.blk[br]? = some ⟨[rv, .int .i64 0], .var⟩) (h : Slc eU8 m rv s) (hs : s.length <= 9223372036854775807) :
 ∃ w A', EvF Try.prog HH 100 [.ptr br 0] A w A' /\ Fr (· = .row br) A A' /\ ((takeB s = none /\ w = .snil /\ A'.blk[br]? = some ⟨[rv, .int .i64 20], .var⟩) ∨
  ∃ x r rv', takeB s = some (x, r) /\ Slc eU8 m w x /\ A'.blk[br]? = some ⟨[rv', .int .i64 0], .var⟩ /\ Slc eU8 m rv' r) := by
 refine Aa9 rfl Try.func100 (by unfold Try.f100; rfl) Try.ntmps100 (by unfold Try.f100; rfl) (by simp) ?_
 have fa := faR br
 have ld := ldR hr
 have hlen := fun B => h.len (P := Try.prog) Try.underlying44 B
 obtain ⟨A1, s1, s2, s3⟩ := AI5 (n := 20) hr
 have ld1 := ldR s3
 simp only [RT, Q0, Q1, Q2, Q3, Q4, Q5, Q6, Q7, Q8, fa, ld, hlen]
 refine Aa1 (fun g => ?_) (fun g => ?_)
 . have ht : takeB s = none := by
    match s, g with
    | [], _ => rfl
    | [a], _ => rfl
    | [a, b], _ => rfl
    | a :: b :: c :: q, g => simp at g; omega
   simp only [RT, Q0, Q1, Q2, Q3, Q4, Q5, Q6, Q7, Q8, fa, s1, ld1]
   exact ⟨s2, .inl ⟨ht, s3⟩⟩
 . match s, g, h, hs with
   | [], g, _, _ => simp at g
   | [a], g, _, _ => simp at g
   | [a, b], g, _, _ => simp at g
   | a :: b :: c :: q, g, h, hs =>
    clear g
    have ha := a.toNat_lt; have hbb := b.toNat_lt; have hc := c.toNat_lt
    obtain ⟨b0, o0, x0, y0⟩ := Am3 h hm (i := 0) rfl
    obtain ⟨b1, o1, x1, y1⟩ := Am3 h hm (i := 1) rfl
    obtain ⟨b2, o2, x2, y2⟩ := Am3 h hm (i := 2) rfl
    have x0 : evIndexAddr Try.prog 44 rv (.int .i64 0) = some (.ptr b0 o0) := x0
    have x1 : evIndexAddr Try.prog 44 rv (.int .i64 1) = some (.ptr b1 o1) := x1
    have x2 : evIndexAddr Try.prog 44 rv (.int .i64 2) = some (.ptr b2 o2) := x2
    obtain ⟨n, hn⟩ : ∃ n, n = a.toNat * 65536 + b.toNat * 256 + c.toNat := ⟨_, rfl⟩
    have hnn : n < 16777216 := by omega
    have sh16 : evShift .shl .i64 (a.toNat : Int) 16 = some (.int .i64 ((a.toNat * 65536 : Nat) : Int)) := by
     rw [show (16 : Int) = ((16 : Nat) : Int) from rfl, AT8 _ _ (by decide), A75 (by omega)]
    have sh8 : evShift .shl .i64 (b.toNat : Int) 8 = some (.int .i64 ((b.toNat * 256 : Nat) : Int)) := by
     rw [show (8 : Int) = ((8 : Nat) : Int) from rfl, AT8 _ _ (by decide), A75 (by omega)]
    have or1 : evBits .or .i64 ((a.toNat * 65536 : Nat) : Int) ((b.toNat * 256 : Nat) : Int) = some (.int .i64 ((a.toNat * 65536 + b.toNat * 256 : Nat) : Int)) := by
     rw [A83 (by omega) (by omega)]
     have := A84 (n := a.toNat) (i := 16) (b := b.toNat * 256) (by omega)
     rw [show a.toNat * 65536 = a.toNat * 2 ^ 16 from rfl, this]
    have or2 : evBits .or .i64 ((a.toNat * 65536 + b.toNat * 256 : Nat) : Int) (c.toNat : Int) = some (.int .i64 (n : Int)) := by
     rw [hn, A83 (by omega) (by omega)]
     have := A84 (n := a.toNat * 256 + b.toNat) (i := 8) (b := c.toNat) (by omega)
     rw [show a.toNat * 65536 + b.toNat * 256 = (a.toNat * 256 + b.toNat) * 2 ^ 8 by omega, this]
    simp only [RT, Q0, Q1, Q2, Q3, Q4, Q5, Q6, Q7, Q8, fa, ld]
    rw [Bg6, Aa7 (by rfl)]
    simp only [RT, Q0, Q1, Q2, Q3, Q4, Q5, Q6, Q7, Q8, fa, ld, x0, x1, x2, y0, y1, y2, Bj8, sh16, sh8, or1, or2, hlen]
    simp only [takeB, <- hn]
    have hw3 : IntKind.i64.wrap (((a :: b :: c :: q).length : Int) - 3) = (q.length : Int) := by
     rw [Ae9 (by omega) (by simp only [List.length_cons] at hs ⊢; omega)]; simp only [List.length_cons]; omega
    rw [hw3]
    refine Aa1 (fun g => ?_) (fun g => ?_)
    . simp only [RT, Q0, Q1, Q2, Q3, Q4, Q5, Q6, Q7, Q8, fa, s1]
      rw [if_pos (by omega)]
      simp only [true_and]
      exact ⟨s2, .inl s3⟩
    . have hw4 : IntKind.i64.wrap (3 + (n : Int)) = ((3 + n : Nat) : Int) := by rw [Ae9 (by omega) (by omega)]; omega
      have hql : 3 + n <= (a :: b :: c :: q).length := by simp only [List.length_cons]; omega
      obtain ⟨w, u1, u2⟩ := h.sub (P := Try.prog) (t := 44) (lo := 3) (hi := 3 + n) (kl := .i64) (kh := .i64) Try.underlying44 sz5 (by omega) hql A
      have u1 : evSlice Try.prog 44 rv (some (.int .i64 3)) (some (.int .i64 ((3 + n : Nat) : Int))) none A = some w := u1
      obtain ⟨w2, v1, v2⟩ := h.subFrom (P := Try.prog) (t := 44) (lo := 3 + n) (kl := .i64) Try.underlying44 sz5 hql A
      obtain ⟨A2, t1, t2, t3⟩ := A28 hr v2.one
      simp only [RT, Q0, Q1, Q2, Q3, Q4, Q5, Q6, Q7, Q8, fa, ld, hw4, u1, v1, t1]
      rw [if_neg (by omega)]
      have e1 : ((a :: b :: c :: q).take (3 + n)).drop 3 = q.take n := by rw [show 3 + n = n + 3 by omega]; rfl
      have e2 : (a :: b :: c :: q).drop (3 + n) = q.drop n := by rw [show 3 + n = n + 3 by omega]; rfl
      rw [e1] at u2; rw [e2] at v2
      exact ⟨t2, .inr ⟨_, _, w2, rfl, u2, t3, v2⟩⟩
set_option maxRecDepth 10000 in
set_option maxHeartbeats 8000000 in
theorem AI7 {m : Hp} {A : AS} {br : Nat} {rv xv : V} {s : Bts} (hm : m.on A) (hb : m br = none) (hr : A.blk[br]? = some ⟨[rv, .int .i64 0], .var⟩) (h : Slc eU8 m xv s) (hs : s.length <= 16777215) (hne : s ≠ []) :
 ∃ w A', EvF Try.prog HH 99 [.ptr br 0, xv] A w A' /\ ((numOf s = none /\ Fr (· = .row br) A A' /\ A'.blk[br]? = some ⟨[rv, .int .i64 23], .var⟩ /\ ∃ n : Int, w = .int .i64 n) ∨
  ∃ n : Nat, numOf s = some n /\ w = .int .i64 n /\ A' = A) := by
 refine Aa9 rfl Try.func99 (by unfold Try.f99; rfl) Try.ntmps99 (by unfold Try.f99; rfl) (by simp) ?_
 have fa := faR br
 have hlen := fun B => h.len (P := Try.prog) Try.underlying44 B
 obtain ⟨A1, s1, s2, s3⟩ := AI5 (n := 23) hr
 obtain ⟨z, hz⟩ := Ad6 (l := s) (i := 0) (by have : s.length ≠ 0 := fun q => hne (List.eq_nil_of_length_eq_zero q); omega)
 obtain ⟨b0, o0, x0, y0⟩ := Am3 h hm hz
 have x0 : evIndexAddr Try.prog 44 xv (.int .i64 0) = some (.ptr b0 o0) := x0
 have hzt := z.toNat_lt
 simp only [RT, Q0, Q1, Q2, Q3, Q4, Q5, Q6, Q7, Q8, hlen]
 refine Aa2 (fun k e B => B = A /\ e.get 0 = .ptr br 0 /\ e.get 1 = xv /\ e.get 8 = xv /\ e.get 9 = .int .i64 s.length /\ ∃ i : Nat, k = s.length - i /\ i <= s.length /\ i <= 6 /\ (i = 0 ∨ z ≠ 0) /\ e.get 10 = .int .i64 i /\ e.get 5 = .int .i64 (valOf (s.take i) : Nat))
  (fun x e B => B = A /\ Is x (.exit 0) /\ e.get 0 = .ptr br 0 /\ e.get 1 = xv /\ ∃ n : Nat, e.get 5 = .int .i64 n /\ n < 281474976710656 /\ (z ≠ 0 -> s.length <= 6 -> n = valOf s))
  ⟨_, rfl, rfl, rfl, rfl, rfl, 0, rfl, by simp, by simp, .inl rfl, rfl, by simp [valOf, Env.get]⟩ ?_ ?_
 . rintro k e B ⟨rfl, h0, h1, h8, h9, i, rfl, hi, hi6, hzi, h10, h5⟩
   have hv := A99 (s.take i)
   have hv2 : valOf (s.take i) < 281474976710656 := Nat.lt_of_lt_of_le hv (by
    have : (256 : Nat) ^ (s.take i).length <= 256 ^ 6 := Nat.pow_le_pow_right (by decide) (by rw [List.length_take]; omega)
    omega)
   simp only [RT, Q0, Q1, Q2, Q3, Q4, Q5, Q6, Q7, Q8, h10, h9]
   refine Aa1 (fun g => ?_) (fun g => ?_)
   . obtain ⟨x, hx⟩ := Ad6 (l := s) (i := i) (by omega)
     obtain ⟨b1, o1, x1, y1⟩ := Am3 h hm hx
     have hxt := x.toNat_lt
     simp only [RT, Q0, Q1, Q2, Q3, Q4, Q5, Q6, Q7, Q8, h10, h8, x1, y1]
     refine Ad9 (fun g1 => ?_) (fun g1 => ?_)
     . simp only [RT, Q0, Q1, Q2, Q3, Q4, Q5, Q6, Q7, Q8, g1, h0, h1]
       exact ⟨rfl, _, h5, hv2, fun _ _ => by omega⟩
     . simp only [RT, Q0, Q1, Q2, Q3, Q4, Q5, Q6, Q7, Q8, g1, h1, x0, y0]
       refine Aa1 (fun g2 => ?_) (fun g2 => ?_)
       . simp only [RT, Q0, Q1, Q2, Q3, Q4, Q5, Q6, Q7, Q8, h0, h1]
         refine ⟨rfl, _, h5, hv2, fun q => ?_⟩
         exact absurd (UInt8.toNat_inj.1 (by simpa using g2)) q
       . have hz0 : z ≠ 0 := fun q => g2 (by rw [q]; rfl)
         have hv3 : valOf (s.take i) < 1099511627776 := Nat.lt_of_lt_of_le hv (by
          have : (256 : Nat) ^ (s.take i).length <= 256 ^ 5 := Nat.pow_le_pow_right (by decide) (by rw [List.length_take]; omega)
          omega)
         have sh8 : evShift .shl .i64 ((valOf (s.take i) : Nat) : Int) 8 = some (.int .i64 ((valOf (s.take i) * 256 : Nat) : Int)) := by
          rw [show (8 : Int) = ((8 : Nat) : Int) from rfl, AT8 _ _ (by decide), A75 (by omega)]
         have or1 : evBits .or .i64 ((valOf (s.take i) * 256 : Nat) : Int) (x.toNat : Int) = some (.int .i64 ((valOf (s.take (i + 1)) : Nat) : Int)) := by
          rw [A83 (by omega) (by omega), AX8 hx]
          have := A84 (n := valOf (s.take i)) (i := 8) (b := x.toNat) (by omega)
          rw [show valOf (s.take i) * 256 = valOf (s.take i) * 2 ^ 8 from rfl, this]
         simp only [RT, Q0, Q1, Q2, Q3, Q4, Q5, Q6, Q7, Q8, h5, sh8, Bj8, or1, h10]
         exact ⟨s.length - (i + 1), by omega, h0, h1, h8, h9, i + 1, rfl, by omega, by omega, .inr hz0, by rw [Af9 (by omega)], rfl⟩
   . have : i = s.length := by omega
     subst this
     simp only [RT, Q0, Q1, Q2, Q3, Q4, Q5, Q6, Q7, Q8, h0, h1]
     exact ⟨rfl, _, h5, hv2, fun _ _ => by rw [List.take_length]⟩
 rintro x e B hx ⟨rfl, rfl, h0, h1, n, h5, hn, hval⟩
 have hl0 : ¬ ((s.length : Int) = 0) := by have : s.length ≠ 0 := fun q => hne (List.eq_nil_of_length_eq_zero q); omega
 simp only [RT, Q0, Q1, Q2, Q3, Q4, Q5, Q6, Q7, Q8, h1, hlen, hl0, x0, y0]
 have bad : numOf s = none -> (numOf s = none /\ Fr (· = .row br) B A1 /\ A1.blk[br]? = some ⟨[rv, .int .i64 23], .var⟩ /\ ∃ k : Int, V.int .i64 (n : Int) = .int .i64 k) := fun q => ⟨q, s2, s3, _, rfl⟩
 have z0 : s[0]? = some 0 ↔ z = 0 := by rw [hz]; simp
 refine Ad9 (fun g1 => ?_) (fun g1 => ?_)
 . simp only [RT, Q0, Q1, Q2, Q3, Q4, Q5, Q6, Q7, Q8, g1, h0, h5, fa, s1]
   have : z = 0 := UInt8.toNat_inj.1 (by simpa using g1)
   exact .inl (bad (by unfold numOf; rw [if_pos (.inr (.inl (z0.2 this)))]))
 . have hz0 : z ≠ 0 := fun q => g1 (by rw [q]; rfl)
   simp only [RT, Q0, Q1, Q2, Q3, Q4, Q5, Q6, Q7, Q8, g1, h1, hlen]
   refine Ad9 (fun g2 => ?_) (fun g2 => ?_)
   . simp only [RT, Q0, Q1, Q2, Q3, Q4, Q5, Q6, Q7, Q8, g2, h0, h5, fa, s1]
     exact .inl (bad (by unfold numOf; rw [if_pos (.inr (.inr (.inl (by omega))))]))
   . have hnv := hval hz0 (by omega)
     simp only [RT, Q0, Q1, Q2, Q3, Q4, Q5, Q6, Q7, Q8, g2, h5]
     refine Aa1 (fun g3 => ?_) (fun g3 => ?_)
     . simp only [RT, Q0, Q1, Q2, Q3, Q4, Q5, Q6, Q7, Q8, h0, h5, fa, s1]
       exact .inl (bad (by unfold numOf; rw [if_pos (.inr (.inr (.inr (by omega))))]))
     . simp only [RT, Q0, Q1, Q2, Q3, Q4, Q5, Q6, Q7, Q8, h5]
       refine .inr ⟨n, ?_, rfl⟩
       unfold numOf
       rw [if_neg, hnv]
       rintro (q | q | q | q)
       . exact hne q
       . exact hz0 (z0.1 q)
       . omega
       . omega
end Go.Sv.Try
namespace Go.Sv.Try
open Go Go.Proofs
def argI (m : Hp) (_ : AS) (args : List V) (f : Nat × Bts) : Prop := ∃ xv, args = [.int .u8 (f.1 : Int), xv] /\ Slc eU8 m xv f.2 /\ f.2.length <= 16777215 /\ 1 <= f.1 /\ f.1 <= 9
def rowR (br : Nat) (c : Int) (B : AS) : Prop := ∃ rv, B.blk[br]? = some ⟨[rv, .int .i64 c], .var⟩
theorem Ba3 {A : AS} {br : Nat} : ∃ w A', EvF Try.prog HH 98 [.ptr br 0] A w A' /\ w = .fn 115 [] [.ptr A.blk.length 0] /\ Fr S0 A A' /\ A'.blk[A.blk.length]? = some ⟨[.ptr br 0], .var⟩ := by
 refine Aa9 rfl Try.func98 (by unfold Try.f98; rfl) Try.ntmps98 (by unfold Try.f98; rfl) (by simp) ?_
 simp only [RT, Q0, Q1, Q2, Q3, Q4, Q5, Q6, Q7, Q8]
 exact ⟨Fr.pushVar A _, Ab2 A _⟩
set_option maxRecDepth 10000 in
set_option maxHeartbeats 16000000 in
theorem A29 {m : Hp} {A : AS} {br bx : Nat} {rv : V} {s : Bts} {S : Loc -> Prop} (hm : m.on A) (hS : ∀ b, S (.row b) -> m b = none /\ b ≠ bx) (hSr : S (.row br)) (hb : A.blk[bx]? = some ⟨[.ptr br 0], .var⟩) (hr : A.blk[br]? = some ⟨[rv, .int .i64 0], .var⟩)
 (h : Slc eU8 m rv s) (hs : s.length <= 9223372036854775807) : GoesG Try.prog HH 115 [] [.ptr bx 0] A S (· = .row br) (· = br) (rowR br 0) (rowR br (items 0 s).2) (argI m) (items 0 s).1 := by
 intro lo J D hJ hD hstep hJ0
 refine Aa9 rfl Try.func115 (by unfold Try.f115; rfl) Try.ntmps115 (by unfold Try.f115; rfl) (by simp) ?_
 have fa := faR br
 have hmbr : m br = none := (hS br hSr).1
 have hld : ∀ {B}, Fr S A B -> evLoad Try.prog 176 (.ptr bx 0) B = some (.ptr br 0) := fun q => Ae8 Bh1 (q.row _ _ hb fun w => (hS _ w).2 rfl)
 have hmB : ∀ {B}, Fr S A B -> m.on B := fun q => hm.fr q fun b w => (hS b w).1
 have inS : ∀ {B C : AS}, Fr (· = .row br) B C -> Fr S B C := fun q => q.mono fun x w => by subst w; exact hSr
 simp only [RT, Q0, Q1, Q2, Q3, Q4, Q5, Q6, Q7, Q8]
 refine Aa2 (fun n e B => Fr S A B /\ e.get 0 = .yield lo /\ e.get 1 = .ptr bx 0 /\ ∃ (done : List (Nat × Bts)) (last : Nat) (rest : Bts) (rv' : V), n = rest.length /\ e.get 3 = .int .u8 (last : Int) /\ B.blk[br]? = some ⟨[rv', .int .i64 0], .var⟩ /\ Slc eU8 m rv' rest /\ rest.length <= 9223372036854775807 /\
  J done.length B /\ (items 0 s).1 = done ++ (items last rest).1 /\ (items 0 s).2 = (items last rest).2)
  (fun z e B => Fr S A B /\ (Is z (.exit 0) ∨ Is z .ret) /\ ((J (items 0 s).1.length B /\ rowR br (items 0 s).2 B) ∨ ∃ i, i < (items 0 s).1.length /\ D i B))
  ⟨_, .refl S A, rfl, rfl, [], 0, s, rv, rfl, rfl, hr, h, hs, hJ0, rfl, rfl⟩ ?_ ?_
 rotate_left
 . rintro z e B hz ⟨hf, rfl | rfl, hd⟩
   . simp only [RT, Q0, Q1, Q2, Q3, Q4, Q5, Q6, Q7, Q8]
     exact ⟨hf, hd⟩
   . simp only [RT, Q0, Q1, Q2, Q3, Q4, Q5, Q6, Q7, Q8]
     exact ⟨hf, hd⟩
 rintro n e B ⟨hf, h0, h1, done, last, rest, rv', rfl, h3, row, hsl, hl, hj, e1, e2⟩
 have ld := ldR row
 have hlen := fun B => hsl.len (P := Try.prog) Try.underlying44 B
 simp only [RT, Q0, Q1, Q2, Q3, Q4, Q5, Q6, Q7, Q8, h1, hld hf, fa, ld, hlen]
 refine Ad9 (fun g => ?_) (fun g => ?_)
 rotate_left
 . simp only [RT, Q0, Q1, Q2, Q3, Q4, Q5, Q6, Q7, Q8, g]
   have : rest = [] := List.eq_nil_of_length_eq_zero (by omega)
   subst this
   rw [Ad2] at e1 e2
   refine ⟨hf, .inl rfl, .inl ⟨?_, _, by rw [e2]; exact row⟩⟩
   rw [e1, List.append_nil]; exact hj
 match rest, hsl, hl, e1, e2, hlen, g with
 | [], _, _, _, _, _, g => simp at g
 | t :: r, hsl, hl, e1, e2, hlen, g =>
  obtain ⟨b0, o0, x0, y0⟩ := Am3 hsl (hmB hf) (i := 0) rfl
  have x0 : evIndexAddr Try.prog 44 rv' (.int .i64 0) = some (.ptr b0 o0) := x0
  obtain ⟨w1, u1, u2⟩ := hsl.subFrom (P := Try.prog) (t := 44) (lo := 1) (kl := .i64) Try.underlying44 sz5 (by simp) B
  have u1 : evSlice Try.prog 44 rv' (some (.int .i64 1)) none none B = some w1 := u1
  have u2 : Slc eU8 m w1 r := u2
  obtain ⟨B1, s1, s2, s3⟩ := A28 row u2.one
  have hf1 := hf.thn (inS s2)
  have ld1 := ldR s3
  simp only [RT, Q0, Q1, Q2, Q3, Q4, Q5, Q6, Q7, Q8, g, h1, hld hf, fa, ld, x0, y0]
  rw [Bg9, Aa7 (by rfl)]
  simp only [RT, Q0, Q1, Q2, Q3, Q4, Q5, Q6, Q7, Q8, h1, hld hf, fa, ld, x0, y0, u1, s1, h3]
  obtain ⟨B2, t1, t2, t3⟩ := AI5 (n := 21) s3
  have hbadtag : (t.toNat <= last ∨ t.toNat > 9) -> (Fr S A B2 /\ ((J (items 0 s).1.length B2 /\ rowR br (items 0 s).2 B2) ∨ ∃ i, i < (items 0 s).1.length /\ D i B2)) := fun q => by
   rw [Aj9 q] at e1 e2
   refine ⟨hf1.thn (inS t2), .inl ⟨?_, _, by rw [e2]; exact t3⟩⟩
   rw [e1, List.append_nil]; exact hJ _ _ _ (hJ _ _ _ hj s2) t2
  refine Ad9 (fun g1 => ?_) (fun g1 => ?_)
  . simp only [RT, Q0, Q1, Q2, Q3, Q4, Q5, Q6, Q7, Q8, g1, h1, hld hf1, fa, t1]
    obtain ⟨q1, q2⟩ := hbadtag (.inl (by omega))
    exact ⟨q1, .inr rfl, q2⟩
  . simp only [RT, Q0, Q1, Q2, Q3, Q4, Q5, Q6, Q7, Q8, g1]
    refine Aa1 (fun g2 => ?_) (fun g2 => ?_)
    . simp only [RT, Q0, Q1, Q2, Q3, Q4, Q5, Q6, Q7, Q8, h1, hld hf1, fa, t1]
      obtain ⟨q1, q2⟩ := hbadtag (.inr (by omega))
      exact ⟨q1, .inr rfl, q2⟩
    have hgood : ¬ (t.toNat <= last ∨ t.toNat > 9) := by omega
    simp only [RT, Q0, Q1, Q2, Q3, Q4, Q5, Q6, Q7, Q8, h1, hld hf1]
    obtain ⟨w, B3, k1, k2, k3⟩ := AI6 (hmB hf1) hmbr s3 u2 (by simp only [List.length_cons] at hl; omega)
    refine Aa0 k1 ?_
    have hf3 := hf1.thn (inS k2)
    have hj3 := hJ _ _ _ (hJ _ _ _ hj s2) k2
    rcases k3 with ⟨k3, rfl, k4⟩ | ⟨x, r', rv3, k3, k4, k5, k6⟩
    . have ld3 := ldR k4
      simp only [RT, Q0, Q1, Q2, Q3, Q4, Q5, Q6, Q7, Q8, h1, hld hf3, fa, ld3]
      rw [Af0 hgood k3] at e1 e2
      refine ⟨hf3, .inr rfl, .inl ⟨?_, _, by rw [e2]; exact k4⟩⟩
      rw [e1, List.append_nil]; exact hj3
    . have ld3 := ldR k5
      simp only [RT, Q0, Q1, Q2, Q3, Q4, Q5, Q6, Q7, Q8, h1, h0, hld hf3, fa, ld3]
      rw [Ag9 hgood k3] at e1 e2
      have hx := Ad1 k3
      have hat : (items 0 s).1[done.length]? = some (t.toNat, x) := by rw [e1]; simp
      obtain ⟨b, B4, y1, y2, y3, y4⟩ := hstep _ _ B3 _ hat hj3 hf3 ⟨_, k5⟩ ⟨w, rfl, k4, hx.2, by simp only []; omega, by simp only []; omega⟩
      refine ⟨_, B4, y1, ?_⟩
      simp only [RT, Q0, Q1, Q2, Q3, Q4, Q5, Q6, Q7, Q8]
      cases b with
      | true =>
       simp only [RT, Q0, Q1, Q2, Q3, Q4, Q5, Q6, Q7, Q8]
       obtain ⟨z1, z2⟩ := y3 rfl
       exact ⟨r'.length, by simp only [List.length_cons]; omega, hf3.thn y2, h0, h1, done ++ [(t.toNat, x)], t.toNat, r', rv3, rfl, rfl, by rw [z2 br rfl]; exact k5, k6, by simp only [List.length_cons] at hl; omega, by simpa using z1, by rw [e1]; simp, e2⟩
      | false =>
       simp only [RT, Q0, Q1, Q2, Q3, Q4, Q5, Q6, Q7, Q8]
       exact ⟨hf3.thn y2, .inr rfl, .inr ⟨_, (List.getElem?_eq_some_iff.1 hat).1, y4 rfl⟩⟩
end Go.Sv.Try
namespace Go.Sv.Try
open Go Go.Proofs
abbrev mcZ : List V := mc (msg0 0) .snil .snil .snil
theorem zcM : (zeroT Try.prog 70).bind V.cells = some mcZ := by kernel_rfl
theorem As8 : evBuild Try.prog 70 [] = some (.agg mcZ) := by kernel_rfl
theorem BD5 (k : Int) : evBuild Try.prog 70 [(0, .int .i64 k)] = some (.agg (mc (msg0 k) .snil .snil .snil)) := by kernel_rfl
theorem Ba4 : evBuild Try.prog 178 [(0, .snil)] = some (.agg [.snil, .int .i64 0]) := by kernel_rfl
theorem Bj9 (b o n z : Nat) : evBuild Try.prog 178 [(0, .sl b o n z)] = some (.agg [.sl b o n z, .int .i64 0]) := by kernel_rfl
theorem BK1 {v : V} (h : v = .snil ∨ ∃ b o n z, v = .sl b o n z) : evBuild Try.prog 178 [(0, v)] = some (.agg [v, .int .i64 0]) := by
 rcases h with rfl | ⟨b, o, n, z, rfl⟩
 . exact Ba4
 . exact Bj9 b o n z
abbrev ptrs (b : Nat) : List V := [.ptr b 1, .ptr b 2, .ptr b 3, .ptr b 4, .ptr b 5]
theorem BD6 (b : Nat) : evBuild Try.prog 180 [(0, .ptr b 1), (1, .ptr b 2), (2, .ptr b 3), (3, .ptr b 4), (4, .ptr b 5)] = some (.agg (ptrs b)) := by kernel_rfl
theorem BK2 : bsl Try.prog 44 0 (some []) = some (.newSl [] 0 1) := by kernel_rfl
theorem Ba5 : bsl Try.prog 22 1 (some [(0, .snil)]) = some (.newSl [.snil] 1 1) := by kernel_rfl
theorem Bk0 (b o n z : Nat) : bsl Try.prog 22 1 (some [(0, .sl b o n z)]) = some (.newSl [.sl b o n z] 1 1) := by kernel_rfl
theorem BL9 {v : V} (h : v = .snil ∨ ∃ b o n z, v = .sl b o n z) : bsl Try.prog 22 1 (some [(0, v)]) = some (.newSl [v] 1 1) := by
 rcases h with rfl | ⟨b, o, n, z, rfl⟩
 . exact Ba5
 . exact Bk0 b o n z
theorem BM0 {y : Bts} (h : y.length = 32) : bsl Try.prog 36 1 (some [(0, .agg (bc y))]) = some (.newSl (bc y) 1 32) :=
 AH2 Try.underlying36 AO4 zcI rfl (by rw [Ab0, h]) (by decide)
theorem A30 {m : Hp} {k : Int} : MsgIn m (msg0 k) .snil .snil .snil := ⟨rfl, .inl ⟨rfl, rfl⟩, .inl ⟨rfl, rfl⟩, .inl ⟨rfl, rfl⟩⟩
theorem Bh7 {x : M} {dv iv lv : V} {t : Nat} (h1 : 1 <= t) (h2 : t < 6) (n : Int) : putAt (mc x dv iv lv) t [.int .i64 n] = mc (setNum x t n) dv iv lv := by
 match t, h1, h2 with
 | 1, _, _ => rfl
 | 2, _, _ => rfl
 | 3, _, _ => rfl
 | 4, _, _ => rfl
 | 5, _, _ => rfl
theorem BD7 {x : M} {dv iv lv : V} {y : Bts} (hx : x.id.length = 32) (hy : y.length = 32) : putAt (mc x dv iv lv) 6 (bc y) = mc { x with id := y } dv iv lv := by
 unfold putAt mc
 rw [Ab0, hy]
 show _ ++ _ ++ List.drop 32 (bc x.id ++ [dv, iv, lv]) = _
 rw [List.drop_left' (by rw [Ab0, hx])]
 simp
theorem AP1 {x : M} {dv iv lv : V} (hx : x.id.length = 32) (j : Nat) (hj : j < 3) (w : V) : putAt (mc x dv iv lv) (38 + j) [w] = (.int .i64 x.kind :: .int .i64 x.who :: .int .i64 x.height :: .int .i64 x.round :: .int .i64 x.valid :: .int .i64 x.num :: (bc x.id ++ putAt [dv, iv, lv] j [w])) := by
 have e : (bc x.id).length = 32 := by rw [Ab0, hx]
 unfold putAt mc
 rw [show 38 + j = (32 + j) + 6 by omega]
 simp only [List.length_singleton]
 rw [show 32 + j + 6 + 1 = (32 + (j + 1)) + 6 by omega]
 simp only [List.take_succ_cons, List.drop_succ_cons, List.cons_append]
 rw [List.take_append, List.drop_append, e, List.take_of_length_le (by rw [e]; omega), List.drop_eq_nil_of_le (by rw [e]; omega), show 32 + j - 32 = j by omega, show 32 + (j + 1) - 32 = j + 1 by omega]
 simp
theorem Bk1 {x : M} {dv iv lv w : V} (hx : x.id.length = 32) (y : Bts) : putAt (mc x dv iv lv) 38 [w] = mc { x with data := y } w iv lv := by rw [AP1 hx 0 (by decide)]; rfl
theorem Bt0 {x : M} {dv iv lv w : V} (hx : x.id.length = 32) (y : List Bts) : putAt (mc x dv iv lv) 39 [w] = mc { x with ids := y } dv w lv := by rw [AP1 hx 1 (by decide)]; rfl
theorem Bk2 {x : M} {dv iv lv w : V} (hx : x.id.length = 32) (y : List Bts) : putAt (mc x dv iv lv) 40 [w] = mc { x with list := y } dv iv w := by rw [AP1 hx 2 (by decide)]; rfl
theorem AI8 (x : M) (t : Nat) (n : Int) : (setNum x t n).id = x.id /\ (setNum x t n).data = x.data /\ (setNum x t n).ids = x.ids /\ (setNum x t n).list = x.list := by
 unfold setNum; split <;> exact ⟨rfl, rfl, rfl, rfl⟩
def cellsAllB (l : List Bts) : List V := l.flatMap bc
theorem AI9 {l : List Bts} (h : ∀ b ∈ l, b.length = 32) : ∀ (i : Nat) x, l[i]? = some x -> ((cellsAllB l).drop (i * 32)).take 32 = bc x := by
 induction l with
 | nil => intro i x q; simp at q
 | cons y l ih =>
  intro i x q
  have hy : (bc y).length = 32 := by rw [Ab0]; exact h y (by simp)
  unfold cellsAllB
  rw [List.flatMap_cons]
  cases i with
  | zero => simp at q; subst q; rw [Nat.zero_mul, List.drop_zero, List.take_left' hy]
  | succ i =>
   have := ih (fun b hb => h b (by simp [hb])) i x (by simpa using q)
   rw [show (i + 1) * 32 = (bc y).length + i * 32 by rw [hy]; omega, List.drop_append, List.drop_eq_nil_of_le (by omega), List.nil_append, show (bc y).length + i * 32 - (bc y).length = i * 32 by omega]
   exact this
theorem A12 {A : AS} {b o : Nat} {x : M} {dv iv lv : V} {t : TypeId} {w : V} {cs : List V} (h : A.blk[b]? = some ⟨mc x dv iv lv, .var⟩) (hx : x.id.length = 32) (hw : w.cells = some cs) (hs : szT Try.prog t = some cs.length) (ho : o + cs.length <= 41) (h1 : cs.all V.one = true) :
 ∃ A', evStore Try.prog t (.ptr b o) w A = some A' /\ Fr (· = .row b) A A' /\ A'.blk[b]? = some ⟨putAt (mc x dv iv lv) o cs, .var⟩ := by
 obtain ⟨A', h1, h2, h3, _⟩ := Ab6 (P := Try.prog) (t := t) (o := o) (x := w) h hw hs (by rw [Ag1 hx]; exact ho) h1
 exact ⟨A', h1, h2, h3⟩
theorem AJ0 {m : Hp} {A : AS} {v : V} {l : Bts} (h : Slc eU8 m v l) (hm : m.on A) (hl : l.length = 32) : ∃ b o, evS2ap Try.prog 32 v = some (.ptr b o) /\ evLoad Try.prog 32 (.ptr b o) A = some (.agg (bc l)) := by
 rcases h.bytes with ⟨rfl, rfl⟩ | ⟨b, o, cs, rfl, h2, h3, h4⟩
 . simp at hl
 . refine ⟨b, o, ?_, ?_⟩
   . rw [hl]
     unfold evS2ap
     simp only [Try.underlying32]
     rfl
   . rw [Al9 A96 AO4, hm.range h2 (by omega)]
     rw [hl] at h4
     rw [h4]; rfl
structure CB (N b2 b5 b6 br bm : Nat) (m : Hp) (B : AS) : Prop where
 r2 : B.blk[b2]? = some ⟨mcZ, .var⟩
 r5 : B.blk[b5]? = some ⟨[.ptr br 0], .var⟩
 r6 : B.blk[b6]? = some ⟨ptrs bm, .var⟩
 on : m.on B
 wf : WF B
 len : N <= B.blk.length
theorem CB.fr {N b2 b5 b6 br bm : Nat} {m : Hp} {S : Loc -> Prop} {B C : AS} (h : CB N b2 b5 b6 br bm m B) (hf : Fr S B C) (h1 : ∀ b, S (.row b) -> b ≠ b2 /\ b ≠ b5 /\ b ≠ b6 /\ m b = none) : CB N b2 b5 b6 br bm m C :=
 ⟨hf.row _ _ h.r2 fun q => (h1 _ q).1 rfl, hf.row _ _ h.r5 fun q => (h1 _ q).2.1 rfl, hf.row _ _ h.r6 fun q => (h1 _ q).2.2.1 rfl, h.on.fr hf fun b q => (h1 b q).2.2.2, hf.wf h.wf, by have := hf.len; have := h.len; omega⟩
def RdJ (N bm br : Nat) (k : Int) (xs : List (Nat × Bts)) (i : Nat) (B : AS) : Prop := ∃ (M : Go.Sv.M) (dv iv lv : V), B.blk[bm]? = some ⟨mc M dv iv lv, .var⟩ /\ (∃ cs, B.blk[br]? = some ⟨cs, .var⟩) /\ putAll (msg0 k) (xs.take i) = .ok M /\ MsgIn (arrHq N B) M dv iv lv /\
 ∀ f, xs[i]? = some f -> (f.1 <= 8 -> iv = .snil /\ M.ids = []) /\ lv = .snil /\ M.list = []
def RdE (N bm br : Nat) (k : Int) (s : Bts) (B : AS) : Prop := (∃ rv c, c ≠ 0 /\ B.blk[br]? = some ⟨[rv, .int .i64 c], .var⟩ /\ restM (msg0 k) 0 s = .error c /\ ∃ (M : Go.Sv.M) (dv iv lv : V), B.blk[bm]? = some ⟨mc M dv iv lv, .var⟩ /\ M.id.length = 32) ∨
 ∃ (rv : V) (M : Go.Sv.M) (dv iv lv : V), B.blk[br]? = some ⟨[rv, .int .i64 0], .var⟩ /\ restM (msg0 k) 0 s = .ok M /\ B.blk[bm]? = some ⟨mc M dv iv lv, .var⟩ /\ MsgIn (arrHq N B) M dv iv lv
theorem RdJ.fr {N bm br : Nat} {k : Int} {xs : List (Nat × Bts)} {i : Nat} {S : Loc -> Prop} {B C : AS} (h : RdJ N bm br k xs i B) (hf : Fr S B C) (h1 : ∀ b, S (.row b) -> b = br) (hne : bm ≠ br) : RdJ N bm br k xs i C := by
 obtain ⟨M, dv, iv, lv, q1, ⟨cs, q2⟩, q3, q4, q5⟩ := h
 obtain ⟨cs', z1, _⟩ := hf.kind br _ q2
 exact ⟨M, dv, iv, lv, hf.row _ _ q1 fun z => hne (h1 _ z), ⟨cs', z1⟩, q3, q4.mono (Ab7 hf fun b z => by rw [h1 b z]; exact Ac2 q2), q5⟩
theorem RdE.fr {N bm br : Nat} {k : Int} {s : Bts} {S : Loc -> Prop} {B C : AS} (h : RdE N bm br k s B) (hf : Fr S B C) (h1 : ∀ b, ¬ S (.row b)) : RdE N bm br k s C := by
 rcases h with ⟨rv, c, q1, q2, q3, M, dv, iv, lv, q4, q5⟩ | ⟨rv, M, dv, iv, lv, q1, q2, q3, q4⟩
 . exact .inl ⟨rv, c, q1, hf.row _ _ q2 (h1 _), q3, M, dv, iv, lv, hf.row _ _ q4 (h1 _), q5⟩
 . exact .inr ⟨rv, M, dv, iv, lv, hf.row _ _ q1 (h1 _), q2, hf.row _ _ q3 (h1 _), q4.mono (Ab7 hf fun b z => absurd z (h1 b))⟩
theorem RdJ.step {N bm br : Nat} {k : Int} {s : Bts} {i : Nat} {f : Nat × Bts} {C : AS} {M M' : Go.Sv.M} {iv lv dv' iv' lv' : V} (hi : (items 0 s).1[i]? = some f) (h3 : putAll (msg0 k) ((items 0 s).1.take i) = .ok M)
 (h5 : (f.1 <= 8 -> iv = .snil /\ M.ids = []) /\ lv = .snil /\ M.list = []) (hp : putM M f.1 f.2 = .ok M') (hc : C.blk[bm]? = some ⟨mc M' dv' iv' lv', .var⟩) (hbr : ∃ cs, C.blk[br]? = some ⟨cs, .var⟩) (hM : MsgIn (arrHq N C) M' dv' iv' lv')
 (hiv : f.1 < 8 -> iv' = iv /\ M'.ids = M.ids) (hlv : f.1 < 9 -> lv' = lv /\ M'.list = M.list) : RdJ N bm br k (items 0 s).1 (i + 1) C := by
 refine ⟨M', dv', iv', lv', hc, hbr, AO6 h3 hi hp, hM, fun g hg => ?_⟩
 have h1 := AX9 s.length s 0 i f g (Nat.le_refl _) hi hg
 have h2 := AU4 s.length s 0 (Nat.le_refl _) g (List.mem_of_getElem? hg)
 refine ⟨fun q => ?_, ?_⟩
 . obtain ⟨z1, z2⟩ := hiv (by omega)
   obtain ⟨z3, z4⟩ := h5.1 (by omega)
   exact ⟨z1.trans z3, z2.trans z4⟩
 . obtain ⟨z1, z2⟩ := hlv (by omega)
   exact ⟨z1.trans h5.2.1, z2.trans h5.2.2⟩
end Go.Sv.Try
namespace Go.Sv.Try
open Go Go.Proofs
def RdOutN (N : Nat) (b : Bts) (w : V) (B : AS) : Prop := ∃ dv iv lv, w = .tup [.agg (mc (readMsg b) dv iv lv), .int .i64 (readErr b)] /\ MsgIn (arrHq N B) (readMsg b) dv iv lv
def RdOut (b : Bts) (w : V) (B : AS) : Prop := ∃ dv iv lv, w = .tup [.agg (mc (readMsg b) dv iv lv), .int .i64 (readErr b)] /\ MsgIn (arrHp B) (readMsg b) dv iv lv
theorem An3 {N : Nat} {b : Bts} {e : Int} {B : AS} (h : readM b = .error e) : RdOutN N b (.tup [.agg mcZ, .int .i64 e]) B := by
 refine ⟨.snil, .snil, .snil, ?_, ?_⟩
 . unfold readMsg readErr; rw [h]
 . unfold readMsg; rw [h]; exact A30
theorem A31 {N : Nat} {b : Bts} {x : M} {dv iv lv : V} {B : AS} (h : readM b = .ok x) (hm : MsgIn (arrHq N B) x dv iv lv) : RdOutN N b (.tup [.agg (mc x dv iv lv), .int .i64 0]) B := by
 refine ⟨dv, iv, lv, ?_, ?_⟩
 . unfold readMsg readErr; rw [h]
 . unfold readMsg; rw [h]; exact hm
set_option maxRecDepth 10000 in
set_option maxHeartbeats 32000000 in
theorem AB2 {m : Hp} {A : AS} {v : V} {b : Bts} (hw : WF A) (hm : m.on A) (h : Slc eU8 m v b) (hb : b.length <= 1000000000000) :
 ∃ w A', EvF Try.prog HH 73 [v] A w A' /\ Fr S0 A A' /\ RdOutN A.blk.length b w A' := by
 refine Aa9 rfl Try.func73 (by unfold Try.f73; rfl) Try.ntmps73 (by unfold Try.f73; rfl) (by simp) ?_
 have hlen := fun B => h.len (P := Try.prog) Try.underlying44 B
 simp only [RT, Q0, Q1, Q2, Q3, Q4, Q5, Q6, Q7, Q8, zcM]
 obtain ⟨A1, e1, f1, r1, n1⟩ := Ab3 A mcZ
 rw [<- e1]
 have zid : (msg0 0).id.length = 32 := rfl
 obtain ⟨A2, s1, s2, s3⟩ := A12 (o := 0) (t := 70) (w := .agg mcZ) (cs := mcZ) r1 zid rfl Bh0 (by decide) rfl
 rw [Ac6 rfl] at s3
 have f2 : Fr S0 A A2 := f1.row_ s2 (Nat.le_refl _)
 have ld2 := (ldM s3 zid).2.2.2.2.2.2.2.2.2.2
 simp only [RT, Q0, Q1, Q2, Q3, Q4, Q5, Q6, Q7, Q8, hlen]
 refine Aa1 (fun g => ?_) (fun g => ?_)
 . simp only [RT, Q0, Q1, Q2, Q3, Q4, Q5, Q6, Q7, Q8, As8, s1, ld2]
   have : b = [] := List.eq_nil_of_length_eq_zero (by omega)
   subst this
   exact ⟨f2, An3 rfl⟩
 match b, h, hb, hlen, g with
 | [], _, _, _, g => simp at g
 | kk :: s, h, hb, hlen, _ =>
  simp only [List.length_cons] at hb
  have hk := kk.toNat_lt
  obtain ⟨b0, o0, x0, y0⟩ := Am3 h (hm.fr0 f1) (i := 0) rfl
  have x0 : evIndexAddr Try.prog 44 v (.int .i64 0) = some (.ptr b0 o0) := x0
  simp only [RT, Q0, Q1, Q2, Q3, Q4, Q5, Q6, Q7, Q8, x0, y0]
  refine Ad9 (fun g1 => ?_) (fun g1 => ?_)
  . simp only [RT, Q0, Q1, Q2, Q3, Q4, Q5, Q6, Q7, Q8, g1, As8, s1, ld2]
    exact ⟨f2, An3 (by unfold readM; simp only []; rw [if_pos (.inl (by omega))])⟩
  simp only [RT, Q0, Q1, Q2, Q3, Q4, Q5, Q6, Q7, Q8, g1, x0, y0]
  refine Aa1 (fun g2 => ?_) (fun g2 => ?_)
  . simp only [RT, Q0, Q1, Q2, Q3, Q4, Q5, Q6, Q7, Q8, As8, s1, ld2]
    exact ⟨f2, An3 (by unfold readM; simp only []; rw [if_pos (.inr (by omega))])⟩
  have hread : readM (kk :: s) = match restM (msg0 kk.toNat) 0 s with | .error e => .error e | .ok m => if checkM m ≠ 0 then .error (checkM m) else .ok m := by
   conv => lhs; unfold readM
   simp only []
   rw [if_neg (by omega)]
   try (cases restM (msg0 kk.toNat) 0 s <;> rfl)
  clear s1 s2 s3 f2 ld2 g1 g2 A2
  simp only [RT, Q0, Q1, Q2, Q3, Q4, Q5, Q6, Q7, Q8, x0, y0, Bj8, BD5, zcM]
  obtain ⟨A2, s1, s2, s3, s4⟩ := Ai2 (P := Try.prog) A1 (z := mcZ) (t := 70) (x := .agg (mc (msg0 kk.toNat) .snil .snil .snil)) (cs := mc (msg0 kk.toNat) .snil .snil .snil) rfl Bh0 rfl rfl
  obtain ⟨w1, u1, u2⟩ := h.subFrom (P := Try.prog) (t := 44) (lo := 1) (kl := .i64) Try.underlying44 sz5 (by simp) A2
  have u1 : evSlice Try.prog 44 v (some (.int .i64 1)) none none A2 = some w1 := u1
  have u2 : Slc eU8 m w1 s := u2
  simp only [RT, Q0, Q1, Q2, Q3, Q4, Q5, Q6, Q7, Q8, s1, u1, BK1 u2.form, BI9]
  obtain ⟨A3, e3, f3, r3, n3⟩ := Ab3 A2 [w1, .int .i64 0]
  rw [<- e3]
  obtain ⟨A4, t1, t2, t3, t4⟩ := Ai2 (P := Try.prog) A3 (z := [.pnil]) (t := 176) (x := .ptr A2.blk.length 0) (cs := [.ptr A2.blk.length 0]) rfl BI8 rfl rfl
  have fa := faM A1.blk.length
  simp only [RT, Q0, Q1, Q2, Q3, Q4, Q5, Q6, Q7, Q8, t1, fa, BD6, BJ3]
  obtain ⟨A5, p1, p2, p3, p4⟩ := Ai2 (P := Try.prog) A4 (z := [.pnil, .pnil, .pnil, .pnil, .pnil]) (t := 180) (x := .agg (ptrs A1.blk.length)) (cs := ptrs A1.blk.length) rfl BJ2 rfl rfl
  have ldp := Ae8 (P := Try.prog) Bh1 (p2.row0 t3)
  simp only [RT, Q0, Q1, Q2, Q3, Q4, Q5, Q6, Q7, Q8, p1, ldp]
  obtain ⟨_, A6, q1, rfl, q2, q3⟩ := Ba3 (A := A5) (br := A2.blk.length)
  refine Aa0 q1 ?_
  obtain ⟨b2, hb2⟩ : ∃ x, x = A.blk.length := ⟨_, rfl⟩
  obtain ⟨bm, hbm⟩ : ∃ x, x = A1.blk.length := ⟨_, rfl⟩
  obtain ⟨br, hbr⟩ : ∃ x, x = A2.blk.length := ⟨_, rfl⟩
  obtain ⟨b5, hb5⟩ : ∃ x, x = A3.blk.length := ⟨_, rfl⟩
  obtain ⟨b6, hb6⟩ : ∃ x, x = A4.blk.length := ⟨_, rfl⟩
  obtain ⟨bx, hbx⟩ : ∃ x, x = A5.blk.length := ⟨_, rfl⟩
  have fA6 : Fr S0 A A6 := ((((f1.then0 s2).then0 f3).then0 t2).then0 p2).then0 q2
  have fm : ∀ {B}, Fr S0 A B -> ∀ b, A.blk.length <= b -> m b = none := fun _ b hb => hm.fresh hb
  have hno : ∀ b, A.blk.length <= b -> m b = none := fun b hb => hm.fresh hb
  have cb : CB A.blk.length b2 b5 b6 br bm m A6 := by
   subst hb2 hbm hbr hb5 hb6
   exact ⟨q2.row0 (p2.row0 (t2.row0 (f3.row0 (s2.row0 r1)))), q2.row0 (p2.row0 t3), q2.row0 p3, hm.fr0 fA6, fA6.wf hw, fA6.len⟩
  have rbm : A6.blk[bm]? = some ⟨mc (msg0 kk.toNat) .snil .snil .snil, .var⟩ := by subst hbm; exact q2.row0 (p2.row0 (t2.row0 (f3.row0 s3)))
  have rbr : A6.blk[br]? = some ⟨[w1, .int .i64 0], .var⟩ := by subst hbr; exact q2.row0 (p2.row0 (t2.row0 r3))
  have rbx : A6.blk[bx]? = some ⟨[.ptr br 0], .var⟩ := by subst hbx hbr; exact q3
  rw [<- hb2, <- hbm, <- hbr, <- hb5, <- hb6, <- hbx]
  have o1 : b2 < bm /\ bm < br /\ br < b5 /\ b5 < b6 /\ b6 < bx := by omega
  have hN : A.blk.length = b2 := hb2.symm
  rw [hN] at hno cb
  clear q1 p1 t1 s1 u1 e3 e1 q3 p3 t3 r3 s3 fa ldp s4 t4 p4 n1 n3 x0 y0 hb2 hbm hbr hb5 hb6 hbx r1 f1 s2 f3 t2 p2 q2 fm
  simp only [RT, Q0, Q1, Q2, Q3, Q4, Q5, Q6, Q7, Q8]
  have hmul : ∀ (x : Nat), x <= 9 -> x = x := fun _ _ => rfl
  refine AO0 (S := fun l => l = .row bm ∨ l = .row br ∨ famsFrom b2 l) (T := (· = .row br)) (K := (· = br)) (Pre := rowR br 0) (Fin := rowR br (items 0 s).2) (AR := argI m) (xs := (items 0 s).1)
   (fun i B => CB b2 b2 b5 b6 br bm m B /\ RdJ b2 bm br kk.toNat (items 0 s).1 i B) (fun B => CB b2 b2 b5 b6 br bm m B /\ RdE b2 bm br kk.toNat s B)
   rfl (fun q => by rcases q with q | q | q <;> cases q) (fun q => by cases q) ?_ ⟨cb, _, _, _, _, rbm, ⟨_, rbr⟩, rfl, A30, fun f hf => ⟨fun _ => ⟨rfl, rfl⟩, rfl, rfl⟩⟩ ?_ ?_
   Try.func73 Try.ntmps73 (by simp) ?_ ?_ ?_
  . intro A0 hf0
    refine A29 (cb.on.fr0 hf0) ?_ (.inl (.inr (.inl rfl))) (hf0.row0 rbx) (hf0.row0 rbr) u2 (by omega)
    rintro b ((q | q | q) | q)
    . cases q; exact ⟨hno _ (by omega), by omega⟩
    . cases q; exact ⟨hno _ (by omega), by omega⟩
    . exact q.elim
    . cases q
  . rintro i B C ⟨c1, c2⟩ hf
    refine ⟨c1.fr hf ?_, c2.fr hf ?_ (by omega)⟩
    . rintro b (q | q) <;> cases q
      exact ⟨by omega, by omega, by omega, hno _ (by omega)⟩
    . rintro b (q | q) <;> cases q
      rfl
  . rintro B C ⟨c1, c2⟩ hf
    exact ⟨c1.fr hf (fun b q => by cases q), c2.fr hf (fun b q => by cases q)⟩
  ·
   rintro i f B args hi ⟨c1, M, dv, iv, lv, j1, _, j2, j3, j4⟩ hfB ⟨rv, rrow⟩ ⟨xv, rfl, hx, hxl, ht1, ht9⟩
   obtain ⟨t, x⟩ := f
   simp only [] at hx hxl ht1 ht9
   have j4 := j4 _ hi
   simp only [] at j4
   refine ⟨_, rfl, ?_⟩
   simp only [RT, Q0, Q1, Q2, Q3, Q4, Q5, Q6, Q7, Q8]
   refine ⟨rfl, .refl _ B, fun B1 hB1 => ?_⟩
   have c1 : CB b2 b2 b5 b6 br bm m B1 := c1.fr hB1 (fun b q => by cases q)
   have j1 := hB1.loop_row j1
   have rrow1 := hB1.loop_row rrow
   have j3 : MsgIn (arrHq b2 B1) M dv iv lv := j3.mono (Ab7 (N := b2) hB1 (fun b q => by cases q))
   have hkeep : B1.blk[br]? = B.blk[br]? := by rw [rrow1, rrow]
   have xlen := fun B => hx.len (P := Try.prog) Try.underlying44 B
   have ld5 : ∀ {C}, CB b2 b2 b5 b6 br bm m C -> evLoad Try.prog 176 (.ptr b5 0) C = some (.ptr br 0) := fun q => Ae8 Bh1 q.r5
   have fr := faR br
   have fail : ∀ {C : AS} {rv' : V} {c n : Int} {M' : Go.Sv.M} {dv' iv' lv' : V}, CB b2 b2 b5 b6 br bm m C -> C.blk[br]? = some ⟨[rv', .int .i64 c], .var⟩ -> C.blk[bm]? = some ⟨mc M' dv' iv' lv', .var⟩ -> M'.id.length = 32 -> putM M t x = .error n -> n ≠ 0 ->
    ∃ C', evStore Try.prog 45 (.ptr br 1) (.int .i64 n) C = some C' /\ Fr (· = .row br) C C' /\ CB b2 b2 b5 b6 br bm m C' /\ RdE b2 bm br kk.toNat s C' := by
    intro C rv' c n M' dv' iv' lv' z1 z2 z3 z4 z5 z6
    obtain ⟨C', y1, y2, y3⟩ := AI5 (n := n) z2
    exact ⟨C', y1, y2, z1.fr y2 (by rintro b q; cases q; exact ⟨by omega, by omega, by omega, hno _ (by omega)⟩), .inl ⟨_, n, z6, y3, Au4 j2 hi z5, M', dv', iv', lv', y2.rowNe z3 (by omega), z4⟩⟩
   have inBr : ∀ {C D : AS}, Fr (· = .row br) C D -> Fr (fun l => l = .row bm ∨ l = .row br ∨ famsFrom b2 l) C D := fun q => q.mono fun _ z => .inr (.inl z)
   have inBm : ∀ {C D : AS}, Fr (· = .row bm) C D -> Fr (fun l => l = .row bm ∨ l = .row br ∨ famsFrom b2 l) C D := fun q => q.mono fun _ z => .inl z
   have inFam : ∀ {C D : AS}, Fr (famsFrom b2) C D -> Fr (fun l => l = .row bm ∨ l = .row br ∨ famsFrom b2 l) C D := fun q => q.mono fun _ z => .inr (.inr z)
   have cbm : ∀ {C D : AS}, CB b2 b2 b5 b6 br bm m C -> Fr (· = .row bm) C D -> CB b2 b2 b5 b6 br bm m D := fun q z => q.fr z (by rintro b q; cases q; exact ⟨by omega, by omega, by omega, hno _ (by omega)⟩)
   have famM : Fr (fun l => l = .row bm ∨ l = .row br ∨ famsFrom b2 l) B1 B1 := .refl _ _
   have hid := j3.id
   have faB := faM bm
   have ldm := ldM j1 hid
   simp only [RT, Q0, Q1, Q2, Q3, Q4, Q5, Q6, Q7, Q8, xlen]
   refine Aa1 (fun g => ?_) (fun g => ?_)
   . have hx0 : x = [] := List.eq_nil_of_length_eq_zero (by omega)
     have hp : putM M t x = .error 23 := by unfold putM; rw [if_pos hx0]
     obtain ⟨C, k1, k2, k3, k4⟩ := fail c1 rrow1 j1 hid hp (by decide)
     simp only [RT, Q0, Q1, Q2, Q3, Q4, Q5, Q6, Q7, Q8, ld5 c1, fr, k1]
     exact ⟨inBr k2, .inr ⟨rfl, k3, k4⟩⟩
   have hx0 : x ≠ [] := fun q => g (by rw [q]; rfl)
   simp only [RT, Q0, Q1, Q2, Q3, Q4, Q5, Q6, Q7, Q8]
   refine Aa1 (fun g1 => ?_) (fun g1 => ?_)
   ·
    have ht6 : t < 6 := by omega
    have hsub : IntKind.u8.wrap ((t : Int) - 1) = ((t - 1 : Nat) : Int) := by
     have : ((t : Int) - 1) = ((t - 1 : Nat) : Int) := by omega
     rw [this, BB8, UInt8.toNat_ofNat']
     omega
    have had : evIndexAddr Try.prog 180 (.ptr b6 0) (.int .u8 ((t - 1 : Nat) : Int)) = some (.ptr b6 (t - 1)) := by
     have := An9 (P := Try.prog) (t := 180) (b := b6) (o := 0) (k := .u8) (i := t - 1) Try.underlying180 BJ0 (by omega)
     simpa using this
    have hptr : (ptrs bm)[t - 1]? = some (.ptr bm t) := by
     match t, ht1, ht6 with
     | 1, _, _ => rfl
     | 2, _, _ => rfl
     | 3, _, _ => rfl
     | 4, _, _ => rfl
     | 5, _, _ => rfl
    have ld6 : ∀ {C}, CB b2 b2 b5 b6 br bm m C -> evLoad Try.prog 179 (.ptr b6 (t - 1)) C = some (.ptr bm t) := fun q => by rw [Ab9 BJ1 q.r6, hptr]
    obtain ⟨w, C, k1, k2⟩ := AI7 c1.on (hno br (by omega)) rrow1 hx hxl hx0
    simp only [RT, Q0, Q1, Q2, Q3, Q4, Q5, Q6, Q7, Q8]
    simp only [RT, Q0, Q1, Q2, Q3, Q4, Q5, Q6, Q7, Q8, Bf9, hsub, had, ld6 c1, ld5 c1, Aa4]
    refine Aa0 k1 ?_
    rcases k2 with ⟨k2, k3, k4, n, rfl⟩ | ⟨n, k2, rfl, rfl⟩
    . have cC : CB b2 b2 b5 b6 br bm m C := c1.fr k3 (by rintro b q; cases q; exact ⟨by omega, by omega, by omega, hno _ (by omega)⟩)
      have j1C := k3.rowNe j1 (show bm ≠ br by omega)
      obtain ⟨C', y1, y2, y3⟩ := A12 (o := t) (t := 3) (w := .int .i64 n) (cs := [.int .i64 n]) j1C hid rfl sz3 (by simp only [List.length_singleton]; omega) rfl
      rw [Bh7 ht1 ht6] at y3
      have cC' := cbm cC y2
      have hp : putM M t x = .error 23 := by unfold putM; rw [if_neg hx0, if_pos ht6, k2]
      have row' := y2.rowNe k4 (show br ≠ bm by omega)
      have ldr' := ldR row'
      simp only [RT, Q0, Q1, Q2, Q3, Q4, Q5, Q6, Q7, Q8, Aa4]
      refine ⟨Aa3 (ha := rfl) rfl (ld6 cC) rfl Aa4, ?_⟩
      simp only [RT, Q0, Q1, Q2, Q3, Q4, Q5, Q6, Q7, Q8, y1, Aa4, ld5 cC', fr, ldr']
      exact ⟨(inBr k3).thn (inBm y2), .inr ⟨rfl, cC', .inl ⟨_, 23, by decide, row', Au4 j2 hi hp, _, _, _, _, y3, by rw [(AI8 M t n).1]; exact hid⟩⟩⟩
    . obtain ⟨C', y1, y2, y3⟩ := A12 (o := t) (t := 3) (w := .int .i64 n) (cs := [.int .i64 n]) j1 hid rfl sz3 (by simp only [List.length_singleton]; omega) rfl
      rw [Bh7 ht1 ht6] at y3
      have cC' := cbm c1 y2
      have hp : putM M t x = .ok (setNum M t n) := by unfold putM; rw [if_neg hx0, if_pos ht6, k2]
      have row' := y2.rowNe rrow1 (show br ≠ bm by omega)
      have ldr' := ldR row'
      obtain ⟨z1, z2, z3, z4⟩ := AI8 M t n
      simp only [RT, Q0, Q1, Q2, Q3, Q4, Q5, Q6, Q7, Q8, Aa4]
      refine ⟨Aa3 (ha := rfl) rfl (ld6 c1) rfl Aa4, ?_⟩
      simp only [RT, Q0, Q1, Q2, Q3, Q4, Q5, Q6, Q7, Q8, y1, Aa4, ld5 cC', fr, ldr']
      have le := Ab7 (N := b2) y2 (fun b q => by cases q; exact Ac2 j1)
      refine ⟨inBm y2, .inl ⟨rfl, ⟨cC', RdJ.step hi j2 j4 hp y3 ⟨_, row'⟩ ⟨by rw [z1]; exact hid, by rw [z2]; exact j3.data.mono le, by rw [z3]; exact j3.ids.mono le, by rw [z4]; exact j3.list.mono le⟩ (fun _ => ⟨rfl, z3⟩) (fun _ => ⟨rfl, z4⟩)⟩, ?_⟩⟩
      rintro r rfl
      rw [row', rrow]
   simp only [RT, Q0, Q1, Q2, Q3, Q4, Q5, Q6, Q7, Q8]
   have ht6 : ¬ t < 6 := by omega
   refine Aa1 (fun g2 => ?_) (fun g2 => ?_)
   ·
    have ht : t = 6 := by omega
    simp only [RT, Q0, Q1, Q2, Q3, Q4, Q5, Q6, Q7, Q8, xlen]
    refine Ad9 (fun g3 => ?_) (fun g3 => ?_)
    . have hp : putM M t x = .error 23 := by unfold putM; rw [if_neg hx0, if_neg ht6, if_pos ht, if_pos (.inl (by omega))]
      obtain ⟨C, k1, k2, k3, k4⟩ := fail c1 rrow1 j1 hid hp (by decide)
      simp only [RT, Q0, Q1, Q2, Q3, Q4, Q5, Q6, Q7, Q8, g3, ld5 c1, fr, k1]
      exact ⟨inBr k2, .inr ⟨rfl, k3, k4⟩⟩
    have hxl32 : x.length = 32 := by omega
    obtain ⟨b7, o7, z1, z2⟩ := AJ0 hx c1.on hxl32
    simp only [RT, Q0, Q1, Q2, Q3, Q4, Q5, Q6, Q7, Q8, g3, z1, z2, BK0, eqI hxl32 (rfl : zero32.length = 32)]
    refine Aa1 (fun g4 => ?_) (fun g4 => ?_)
    . have hp : putM M t x = .error 23 := by unfold putM; rw [if_neg hx0, if_neg ht6, if_pos ht, if_pos (.inr g4)]
      obtain ⟨C, k1, k2, k3, k4⟩ := fail c1 rrow1 j1 hid hp (by decide)
      simp only [RT, Q0, Q1, Q2, Q3, Q4, Q5, Q6, Q7, Q8, ld5 c1, fr, k1]
      exact ⟨inBr k2, .inr ⟨rfl, k3, k4⟩⟩
    . have hp : putM M t x = .ok { M with id := x } := by
       unfold putM; rw [if_neg hx0, if_neg ht6, if_pos ht, if_neg]
       rintro (q | q)
       . exact q hxl32
       . exact g4 q
      obtain ⟨C', y1, y2, y3⟩ := A12 (o := 6) (t := 32) (w := .agg (bc x)) (cs := bc x) j1 hid rfl (by rw [Ab0, hxl32]; exact AO4) (by rw [Ab0, hxl32]; decide) (Aj1 x)
      rw [BD7 hid hxl32] at y3
      have cC' := cbm c1 y2
      have row' := y2.rowNe rrow1 (show br ≠ bm by omega)
      have ldr' := ldR row'
      simp only [RT, Q0, Q1, Q2, Q3, Q4, Q5, Q6, Q7, Q8, z1, z2, faB, y1, ld5 cC', fr, ldr']
      have le := Ab7 (N := b2) y2 (fun b q => by cases q; exact Ac2 j1)
      refine ⟨inBm y2, .inl ⟨rfl, ⟨cC', RdJ.step hi j2 j4 hp y3 ⟨_, row'⟩ ⟨hxl32, j3.data.mono le, j3.ids.mono le, j3.list.mono le⟩ (fun _ => ⟨rfl, rfl⟩) (fun _ => ⟨rfl, rfl⟩)⟩, ?_⟩⟩
      rintro r rfl
      rw [row', rrow]
   simp only [RT, Q0, Q1, Q2, Q3, Q4, Q5, Q6, Q7, Q8]
   have ht7 : ¬ t = 6 := by omega
   refine Aa1 (fun g3 => ?_) (fun g3 => ?_)
   ·
    have ht : t = 7 := by omega
    have hp : putM M t x = .ok { M with data := x } := by unfold putM; rw [if_neg hx0, if_neg ht6, if_neg ht7, if_pos ht]
    simp only [RT, Q0, Q1, Q2, Q3, Q4, Q5, Q6, Q7, Q8, BK2]
    have o2 := Own.new (N := b2) (n := 0) (sz := 1) (cs := []) c1.wf c1.len rfl rfl
    have q1 := Fr.pushArr B1 []
    have cP := c1.fr q1 (fun b q => q.elim)
    have j1P := q1.row0 j1
    have rP := q1.row0 rrow1
    have leP := Ab7 (N := b2) q1 (fun b q => q.elim)
    generalize B1.push ⟨[], .arr B1.blk.length 0⟩ = C at *
    obtain ⟨v', D, p1, p2, p3⟩ := o2.app BC9 cP.wf cP.len (Az6 (P := Try.prog) (tx := 44) Try.underlying44 hx cP.on) (by rw [List.length_map, Nat.mul_one]) (Aj1 x) (by omega) (by omega)
    have cD := cP.fr p3 (fun b q => q.elim)
    have j1D := p3.fam_row j1P
    have rD := p3.fam_row rP
    have leD := Ab7 (N := b2) p3 (fun b q => q.elim)
    obtain ⟨C', y1, y2, y3⟩ := A12 (o := 38) (t := 44) (w := v') (cs := [v']) j1D hid p2.cells1 A14 (by simp) (by simp [p2.one])
    rw [Bk1 hid x] at y3
    have cC' := cbm cD y2
    have row' := y2.rowNe rD (show br ≠ bm by omega)
    have ldr' := ldR row'
    have leC := Ab7 (N := b2) y2 (fun b q => by cases q; exact Ac2 j1D)
    have le := fun {τ : Type} {E : Enc τ} {w : V} {l : List τ} (q : Slc E (arrHq b2 B1) w l) => ((q.mono leP).mono leD).mono leC
    have p2' : Own b2 C' v' x.length 1 (bc x) := (p2.cast (by omega) rfl).frRow y2 j1D
    simp only [RT, Q0, Q1, Q2, Q3, Q4, Q5, Q6, Q7, Q8, p1, faB, y1, ld5 cC', fr, ldr']
    refine ⟨(q1.after0 (inFam p3)).thn (inBm y2), .inl ⟨rfl, ⟨cC', RdJ.step hi j2 j4 hp y3 ⟨_, row'⟩ ⟨hid, p2'.arrBtsQ (Nat.le_refl _), le j3.ids, le j3.list⟩ (fun _ => ⟨rfl, rfl⟩) (fun _ => ⟨rfl, rfl⟩)⟩, ?_⟩⟩
    rintro r rfl
    rw [row', rrow]
   simp only [RT, Q0, Q1, Q2, Q3, Q4, Q5, Q6, Q7, Q8]
   have ht8 : ¬ t = 7 := by omega
   refine Aa1 (fun g4 => ?_) (fun g4 => ?_)
   ·
    have ht : t = 8 := by omega
    obtain ⟨rfl, hids⟩ := j4.1 (by omega)
    have hrem : evBin Try.prog .rem 3 (.int .i64 (x.length : Int)) (.int .i64 32) = some (.int .i64 ((x.length % 32 : Nat) : Int)) := Br3 _ 32 (by decide)
    simp only [RT, Q0, Q1, Q2, Q3, Q4, Q5, Q6, Q7, Q8, xlen, hrem]
    refine Aa1 (fun g5 => ?_) (fun g5 => ?_)
    . have hp : putM M t x = .error 23 := by unfold putM; rw [if_neg hx0, if_neg ht6, if_neg ht7, if_neg ht8, if_pos ht, if_pos (by omega)]
      obtain ⟨C, k1, k2, k3, k4⟩ := fail c1 rrow1 j1 hid hp (by decide)
      simp only [RT, Q0, Q1, Q2, Q3, Q4, Q5, Q6, Q7, Q8, ld5 c1, fr, k1]
      exact ⟨inBr k2, .inr ⟨rfl, k3, k4⟩⟩
    have hp : putM M t x = .ok { M with ids := chunk32 x } := by unfold putM; rw [if_neg hx0, if_neg ht6, if_neg ht7, if_neg ht8, if_pos ht, if_neg (by omega), hids, List.nil_append]
    simp only [RT, Q0, Q1, Q2, Q3, Q4, Q5, Q6, Q7, Q8]
    refine Aa2 (fun n e C => Fr (fun l => l = .row bm ∨ l = .row br ∨ famsFrom b2 l) B1 C /\ CB b2 b2 b5 b6 br bm m C /\ C.blk[br]? = some ⟨[rv, .int .i64 0], .var⟩ /\ e.get 4 = .ptr bm 0 /\ e.get 5 = .ptr b5 0 /\ (arrHq b2 B1).le (arrHq b2 C) /\
     ∃ (done : List Bts) (rest : Bts) (xv' iv' : V), n = rest.length /\ e.get 8 = xv' /\ Slc eU8 m xv' rest /\ rest.length % 32 = 0 /\ rest.length <= x.length /\ done.length * 32 + rest.length = x.length /\ (∀ b ∈ done, b.length = 32) /\ chunk32 x = done ++ chunk32 rest /\ C.blk[bm]? = some ⟨mc { M with ids := done } dv iv' lv, .var⟩ /\ Own b2 C iv' done.length 32 (cellsAllB done))
     (fun z e C => Is z (.exit 3) /\ Fr (fun l => l = .row bm ∨ l = .row br ∨ famsFrom b2 l) B1 C /\ CB b2 b2 b5 b6 br bm m C /\ C.blk[br]? = some ⟨[rv, .int .i64 0], .var⟩ /\ e.get 5 = .ptr b5 0 /\ (arrHq b2 B1).le (arrHq b2 C) /\
      ∃ iv', C.blk[bm]? = some ⟨mc { M with ids := chunk32 x } dv iv' lv, .var⟩ /\ Slc eId (arrHq b2 C) iv' (chunk32 x))
     ⟨_, .refl _ B1, c1, rrow1, rfl, rfl, Hp.le_refl _, [], x, xv, .snil, rfl, rfl, hx, by omega, Nat.le_refl _, by simp, by simp, rfl, by rw [<- hids]; exact j1, by simpa [cellsAllB] using Own.nil b2 B1 32⟩ ?_ ?_
    . rintro n e C ⟨fC, cC, rC, h4, h5, leC, done, rest, xv', iv', rfl, h8, hx', hmod, hle, hsum, hall, hch, jC, own⟩
      have xlen' := fun B => hx'.len (P := Try.prog) Try.underlying44 B
      have ldc := ldM jC hid
      simp only [RT, Q0, Q1, Q2, Q3, Q4, Q5, Q6, Q7, Q8, h8, xlen']
      refine Aa1 (fun g6 => ?_) (fun g6 => ?_)
      . have hr32 : 32 <= rest.length := by omega
        have hrne : rest ≠ [] := by rintro rfl; simp at g6
        obtain ⟨w3, u3, u4⟩ := hx'.subTo (P := Try.prog) (t := 44) (hi := 32) (kh := .i64) Try.underlying44 sz5 hr32 C
        have u3 : evSlice Try.prog 44 xv' none (some (.int .i64 32)) none C = some w3 := u3
        obtain ⟨w4, u5, u6⟩ := hx'.subFrom (P := Try.prog) (t := 44) (lo := 32) (kl := .i64) Try.underlying44 sz5 hr32 C
        have htl : (rest.take 32).length = 32 := by rw [List.length_take]; omega
        obtain ⟨b7, o7, z1, z2⟩ := AJ0 u4 cC.on htl
        obtain ⟨v', D, p1, p2, p3⟩ := own.appNew (k := 1) (new := bc (rest.take 32)) BJ9 Try.underlying36 cC.wf cC.len (by rw [Ab0, htl]) (Aj1 _) (by omega) (by omega)
        have cD := cC.fr p3 (fun b q => q.elim)
        have jD := p3.fam_row jC
        have rD := p3.fam_row rC
        have leD := Ab7 (N := b2) p3 (fun b q => q.elim)
        obtain ⟨E, y1, y2, y3⟩ := A12 (o := 39) (t := 36) (w := v') (cs := [v']) jD hid p2.cells1 BL0 (by simp) (by simp [p2.one])
        rw [Bt0 (x := { M with ids := done }) hid (done ++ [rest.take 32])] at y3
        have cE := cbm cD y2
        have rE := y2.rowNe rD (show br ≠ bm by omega)
        have leE := Ab7 (N := b2) y2 (fun b q => by cases q; exact Ac2 jD)
        have u5 : ∀ B, evSlice Try.prog 44 xv' (some (.int .i64 32)) none none B = some w4 := fun B => by
         rw [<- u5]
         rcases hx'.form with rfl | ⟨b, o, n, z, rfl⟩ <;> rfl
        simp only [RT, Q0, Q1, Q2, Q3, Q4, Q5, Q6, Q7, Q8]
        rw [Bg0, Aa7 (by rfl)]
        simp only [RT, Q0, Q1, Q2, Q3, Q4, Q5, Q6, Q7, Q8, h4, h8, faB, ldc, u3, z1, z2, BM0 htl, p1, y1, u5]
        refine ⟨(rest.drop 32).length, by rw [List.length_drop]; omega, (fC.thn (inFam p3)).thn (inBm y2), cE, rE, h5, Hp.le_trans leC (Hp.le_trans leD leE), done ++ [rest.take 32], rest.drop 32, w4, v', rfl, rfl, u6, by rw [List.length_drop]; omega, by rw [List.length_drop]; omega, by rw [List.length_append, List.length_drop]; simp; omega, ?_, ?_, y3, (p2.frRow y2 jD).cast (by simp) (by simp [cellsAllB])⟩
        . intro b hb
          rcases List.mem_append.1 hb with q | q
          . exact hall b q
          . simp at q; rw [q]; exact htl
        . rw [hch, Au3 hrne]; simp
      . have : rest = [] := List.eq_nil_of_length_eq_zero (by omega)
        subst this
        simp only [RT, Q0, Q1, Q2, Q3, Q4, Q5, Q6, Q7, Q8]
        rw [Aw8, List.append_nil] at hch
        subst hch
        refine ⟨rfl, fC, cC, rC, h5, leC, iv', jC, Own.arrHq (E := eId) own (Nat.le_refl _) rfl fun i y hy => ⟨?_, hall y (List.mem_of_getElem? hy)⟩⟩
        exact AI9 hall i y hy
    . rintro z e C hz ⟨rfl, fC, cC, rC, h5, leC, iv', jC, hiv'⟩
      have ldr' := ldR rC
      simp only [RT, Q0, Q1, Q2, Q3, Q4, Q5, Q6, Q7, Q8, h5, ld5 cC, fr, ldr']
      refine ⟨fC, .inl ⟨rfl, ⟨cC, RdJ.step hi j2 j4 hp jC ⟨_, rC⟩ ⟨hid, j3.data.mono leC, hiv', j3.list.mono leC⟩ (fun q => absurd q (by simp only []; omega)) (fun _ => ⟨rfl, rfl⟩)⟩, ?_⟩⟩
      rintro r rfl
      rw [rC, rrow]
   simp only [RT, Q0, Q1, Q2, Q3, Q4, Q5, Q6, Q7, Q8]
   have ht9' : ¬ t = 8 := by omega
   have ht : t = 9 := by omega
   have g5 : ((t : Int) = 9) := by omega
   obtain ⟨rfl, hlist⟩ := j4.2
   have hnv : arrHq b2 B1 br = none := Ac2 rrow1
   simp only [RT, Q0, Q1, Q2, Q3, Q4, Q5, Q6, Q7, Q8, g5, BK1 hx.form]
   obtain ⟨B2, e2, f2, r2, n2⟩ := Ab3 B1 [xv, .int .i64 0]
   rw [<- e2]
   obtain ⟨bi, hbi⟩ : ∃ y, y = B1.blk.length := ⟨_, rfl⟩
   rw [<- hbi] at r2 ⊢
   have l1 := Ac5 c1.r6
   have hbi1 : b2 <= bi := by have := c1.len; omega
   have hbi2 : bi ≠ b2 /\ bi ≠ b5 /\ bi ≠ b6 /\ bi ≠ br /\ bi ≠ bm := by
    have z1 := Ac5 c1.r2; have z2 := Ac5 c1.r5; have z3 := Ac5 c1.r6; have z4 := Ac5 rrow1; have z5 := Ac5 j1
    omega
   have c2 := c1.fr f2 (fun b q => q.elim)
   have fi := faR bi
   have le2 := Ab7 (N := b2) f2 (fun b q => q.elim)
   clear e2
   refine Aa2 (fun n e C => Fr (fun l => l = .row bm ∨ l = .row br ∨ famsFrom b2 l) B1 C /\ CB b2 b2 b5 b6 br bm m C /\ C.blk[br]? = some ⟨[rv, .int .i64 0], .var⟩ /\ e.get 4 = .ptr bm 0 /\ e.get 5 = .ptr b5 0 /\ e.get 9 = .ptr bi 0 /\ (arrHq b2 B1).le (arrHq b2 C) /\
    ∃ (done : List Bts) (rest : Bts) (rv' lv' : V) (lvs : List V), n = rest.length /\ C.blk[bi]? = some ⟨[rv', .int .i64 0], .var⟩ /\ Slc eU8 m rv' rest /\ rest.length + done.length <= x.length /\ runsOf x = (runsOf rest).map (done ++ ·) /\ C.blk[bm]? = some ⟨mc { M with list := done } dv iv lv', .var⟩ /\
     Own b2 C lv' done.length 1 lvs /\ ∀ (i : Nat) b, done[i]? = some b -> ∃ w, lvs[i]? = some w /\ Slc eU8 (arrHq b2 C) w b)
    (fun z e C => Fr (fun l => l = .row bm ∨ l = .row br ∨ famsFrom b2 l) B1 C /\ CB b2 b2 b5 b6 br bm m C /\ e.get 5 = .ptr b5 0 /\ ((Is z (.exit 5) /\ C.blk[br]? = some ⟨[rv, .int .i64 0], .var⟩ /\ (arrHq b2 B1).le (arrHq b2 C) /\
     ∃ lv' l, runsOf x = some l /\ C.blk[bm]? = some ⟨mc { M with list := l } dv iv lv', .var⟩ /\ Slc (eSl eU8) (arrHq b2 C) lv' l) ∨ (Is z (.exit 0) /\ RdE b2 bm br kk.toNat s C)))
    ⟨_, f2.mono fun _ q => q.elim, c2, f2.row0 rrow1, rfl, rfl, rfl, le2, [], x, xv, .snil, [], rfl, r2, hx, by simp, by simp, by rw [<- hlist]; exact f2.row0 j1, Own.nil b2 B2 1, by simp⟩ ?_ ?_
   . rintro n e C ⟨fC, cC, rC, h4, h5, h9, leC, done, rest, rv', lv', lvs, rfl, riC, hx', hle, hrun, jC, own, hlv⟩
     have ldi := ldR riC
     have xlen' := fun B => hx'.len (P := Try.prog) Try.underlying44 B
     simp only [RT, Q0, Q1, Q2, Q3, Q4, Q5, Q6, Q7, Q8, h9, fi, ldi, xlen']
     refine Aa1 (fun g6 => ?_) (fun g6 => ?_)
     . have hrne : rest ≠ [] := by rintro rfl; simp at g6
       simp only [RT, Q0, Q1, Q2, Q3, Q4, Q5, Q6, Q7, Q8, h9]
       obtain ⟨w, D, k1, k2, k3⟩ := AI6 cC.on (hno bi hbi1) riC hx' (by omega)
       refine Aa0 k1 ?_
       have cD := cC.fr k2 (by rintro b q; cases q; exact ⟨hbi2.1, hbi2.2.1, hbi2.2.2.1, hno _ hbi1⟩)
       have inBi : Fr (fun l => l = .row bm ∨ l = .row br ∨ famsFrom b2 l) B1 D := fC.trans k2 (by rintro l rfl; exact .inr (by show B1.blk.length <= bi; omega))
       have rD := k2.rowNe rC (show br ≠ bi by omega)
       have jD := k2.rowNe jC (show bm ≠ bi by omega)
       have leD := Ab7 (N := b2) k2 (fun b q => by cases q; exact Ac2 riC)
       rcases k3 with ⟨k3, rfl, k4⟩ | ⟨y, r', rv2, k3, k4, k5, k6⟩
       . have ldi2 := ldR k4
         have hp : putM M t x = .error 20 := by
          unfold putM; rw [if_neg hx0, if_neg ht6, if_neg ht7, if_neg ht8, if_neg ht9', hrun, Ao7 hrne k3]; rfl
         obtain ⟨C', y1, y2, y3, y4⟩ := fail cD rD jD hid hp (by decide)
         simp only [RT, Q0, Q1, Q2, Q3, Q4, Q5, Q6, Q7, Q8, h9, fi, ldi2]
         rw [Bg1, Aa7 (by rfl)]
         simp only [RT, Q0, Q1, Q2, Q3, Q4, Q5, Q6, Q7, Q8, h5, h9, ld5 cD, fr, fi, ldi2, y1]
         exact ⟨inBi.thn (inBr y2), y3, .inr ⟨rfl, y4⟩⟩
       . have ldi2 := ldR k5
         have hl3 := Ad1 k3
         have ldd := ldM jD hid
         simp only [RT, Q0, Q1, Q2, Q3, Q4, Q5, Q6, Q7, Q8, h9, fi, ldi2]
         simp only [RT, Q0, Q1, Q2, Q3, Q4, Q5, Q6, Q7, Q8, Bg2, h4, faB, ldd, BK2, Aa4]
         have o2 := Own.new (N := D.blk.length) (n := 0) (sz := 1) (cs := []) cD.wf (Nat.le_refl _) rfl rfl
         have q1 := Fr.pushArr D []
         have onP := cD.on.fr0 q1
         have wP := q1.wf cD.wf
         have nP := q1.len
         generalize D.push ⟨[], .arr D.blk.length 0⟩ = F at *
         obtain ⟨v1, G, p1, p2, p3⟩ := o2.app BC9 wP nP (Az6 (P := Try.prog) (tx := 44) Try.underlying44 k4 onP) (by rw [List.length_map, Nat.mul_one]) (Aj1 y) (by omega) (by omega)
         have fDG := q1.after0 p3
         have inFamN : ∀ {X Y : AS} {n : Nat}, b2 <= n -> Fr (famsFrom n) X Y -> Fr (fun l => l = .row bm ∨ l = .row br ∨ famsFrom b2 l) X Y := fun hn q => q.mono fun l z => .inr (.inr (by
          cases l <;> first | exact Nat.le_trans hn z | exact z))
         have cG := cD.fr fDG (fun b q => q.elim)
         have jG := fDG.fam_row jD
         have rG := fDG.fam_row rD
         have iG := fDG.fam_row k5
         have leG := Ab7 (N := b2) fDG (fun b q => q.elim)
         have ownG := (own.frRow k2 riC).fams0 (Nat.le_refl _) fDG
         have ldg := ldM jG hid
         have p2' : Own D.blk.length G v1 y.length 1 (bc y) := p2.cast (by omega) rfl
         obtain ⟨v2, K, u1, u2, u3⟩ := ownG.appNew (k := 1) (new := [v1]) BC8 Try.underlying22 cG.wf cG.len rfl (by simp [p2'.one]) (by omega) (by omega)
         have cK := cG.fr u3 (fun b q => q.elim)
         have jK := u3.fam_row jG
         have rK := u3.fam_row rG
         have iK := u3.fam_row iG
         have leK := Ab7 (N := b2) u3 (fun b q => q.elim)
         obtain ⟨E, y1, y2, y3⟩ := A12 (o := 40) (t := 22) (w := v2) (cs := [v2]) jK hid u2.cells1 Bs0 (by simp) (by simp [u2.one])
         rw [Bk2 (x := { M with list := done }) hid (done ++ [y])] at y3
         have cE := cbm cK y2
         have rE := y2.rowNe rK (show br ≠ bm by omega)
         have iE := y2.rowNe iK (show bi ≠ bm from hbi2.2.2.2.2)
         have leE := Ab7 (N := b2) y2 (fun b q => by cases q; exact Ac2 jK)
         have leGE := Hp.le_trans leK leE
         have hv1 := (p2'.arrBtsQ cD.len).mono leGE
         simp only [RT, Q0, Q1, Q2, Q3, Q4, Q5, Q6, Q7, Q8, p1, Aa4]
         refine ⟨Aa3 (ha := rfl) rfl ldg.2.2.2.2.2.2.2.2.2.1 rfl Aa4, ?_⟩
         simp only [RT, Q0, Q1, Q2, Q3, Q4, Q5, Q6, Q7, Q8, BL9 p2'.form, u1, h4, faB, y1, Aa4]
         refine ⟨r'.length, by omega, (((inBi.thn (inFamN cD.len fDG))).thn (inFam u3)).thn (inBm y2), cE, rE, h5, h9, Hp.le_trans leC (Hp.le_trans leD (Hp.le_trans leG leGE)), done ++ [y], r', rv2, v2, lvs ++ [v1], rfl, iE, k6, by rw [List.length_append]; simp; omega, ?_, y3, (u2.frRow y2 jK).cast (by simp) rfl, ?_⟩
         . rw [hrun, Ao8 k3]
           cases runsOf r' <;> simp
         . intro j bb hj
           have hln : lvs.length = done.length := by have := own.1; omega
           rcases Nat.lt_or_ge j done.length with q | q
           . rw [List.getElem?_append_left q] at hj
             obtain ⟨w', z1, z2⟩ := hlv j bb hj
             exact ⟨w', by rw [List.getElem?_append_left (by omega)]; exact z1, z2.mono (Hp.le_trans leD (Hp.le_trans leG leGE))⟩
           . have hj' := (List.getElem?_eq_some_iff.1 hj).1
             simp only [List.length_append, List.length_singleton] at hj'
             have : j = done.length := by omega
             subst this
             simp at hj
             subst hj
             exact ⟨v1, by rw [<- hln]; simp, hv1⟩
     . have : rest = [] := List.eq_nil_of_length_eq_zero (by omega)
       subst this
       simp only [RT, Q0, Q1, Q2, Q3, Q4, Q5, Q6, Q7, Q8]
       rw [Aj8] at hrun
       refine ⟨fC, cC, h5, .inl ⟨rfl, rC, leC, lv', done, by rw [hrun]; simp, jC, Own.arrHq (E := eSl eU8) own (Nat.le_refl _) rfl fun j bb hj => ?_⟩⟩
       obtain ⟨w', z1, z2⟩ := hlv j bb hj
       refine ⟨w', ?_, z2⟩
       show (lvs.drop (j * 1)).take 1 = _
       rw [Nat.mul_one, List.take_one, List.head?_drop, z1]; rfl
   . rintro z e C hz ⟨fC, cC, h5, ⟨rfl, rC, leC, lv', l, hrun, jC, hlv⟩ | ⟨rfl, hE⟩⟩
     . have ldr' := ldR rC
       have hp : putM M t x = .ok { M with list := l } := by
        unfold putM; rw [if_neg hx0, if_neg ht6, if_neg ht7, if_neg ht8, if_neg ht9', hrun]; simp only [hlist, List.nil_append]
       simp only [RT, Q0, Q1, Q2, Q3, Q4, Q5, Q6, Q7, Q8, h5, ld5 cC, fr, ldr']
       refine ⟨fC, .inl ⟨rfl, ⟨cC, RdJ.step hi j2 j4 hp jC ⟨_, rC⟩ ⟨hid, j3.data.mono leC, j3.ids.mono leC, hlv⟩ (fun q => absurd q (by simp only []; omega)) (fun q => absurd q (by simp only []; omega))⟩, ?_⟩⟩
       rintro r rfl
       rw [rC, rrow]
     . simp only [RT, Q0, Q1, Q2, Q3, Q4, Q5, Q6, Q7, Q8]
       exact ⟨fC, .inr ⟨rfl, cC, hE⟩⟩
  . rintro B ⟨c1, M, dv, iv, lv, j1, _, j2, j3, _⟩ ⟨rv, rrow⟩
    refine ⟨c1, ?_⟩
    rw [List.take_length] at j2
    have hrest := AO7 j2
    by_cases hc : (items 0 s).2 = 0
    . rw [if_neg (by simpa using hc)] at hrest
      rw [hc] at rrow
      exact .inr ⟨rv, M, dv, iv, lv, rrow, hrest, j1, j3⟩
    . rw [if_pos hc] at hrest
      exact .inl ⟨rv, _, hc, rrow, hrest, M, dv, iv, lv, j1, j3.id⟩
  . rintro B ⟨cB, hE⟩ hfB
    have fB : Fr S0 A B := fA6.trans hfB (by
     rintro l (rfl | rfl | q)
     . exact .inr (by show A.blk.length <= bm; omega)
     . exact .inr (by show A.blk.length <= br; omega)
     . rw [<- hN] at q
       cases l <;> first | exact .inr q | exact q.elim)
    have ld5 : ∀ {C}, CB b2 b2 b5 b6 br bm m C -> evLoad Try.prog 176 (.ptr b5 0) C = some (.ptr br 0) := fun q => Ae8 Bh1 q.r5
    have fr := faR br
    have fin : ∀ {C : AS} {c : Int} {rv : V}, CB b2 b2 b5 b6 br bm m C -> Fr S0 A C -> c ≠ 0 -> readM (kk :: s) = .error c ->
     ∃ C', evStore Try.prog 70 (.ptr b2 0) (.agg mcZ) C = some C' /\ CB b2 b2 b5 b6 br bm m C' /\ Fr (· = .row b2) C C' /\ evLoad Try.prog 70 (.ptr b2 0) C' = some (.agg mcZ) /\ Fr S0 A C' /\ RdOutN b2 (kk :: s) (.tup [.agg mcZ, .int .i64 c]) C' := by
     intro C c rv z1 z2 z3 z4
     obtain ⟨C', y1, y2, y3⟩ := A12 (o := 0) (t := 70) (w := .agg mcZ) (cs := mcZ) z1.r2 zid rfl Bh0 (by decide) rfl
     rw [Ac6 rfl] at y3
     exact ⟨C', y1, ⟨y3, y2.rowNe z1.r5 (by omega), y2.rowNe z1.r6 (by omega), z1.on.row y2 (hno _ (Nat.le_refl _)), y2.wf z1.wf, by have := y2.len; have := z1.len; omega⟩, y2, (ldM y3 zid).2.2.2.2.2.2.2.2.2.2, z2.row_ y2 (by omega), An3 z4⟩
    rcases hE with ⟨rv, c, q1, q2, q3, M, dv, iv, lv, q4, q5⟩ | ⟨rv, M, dv, iv, lv, q1, q2, q3, q4⟩
    . have ldr' := ldR q2
      have hrd : readM (kk :: s) = .error c := by rw [hread, q3]
      obtain ⟨C', y1, y2, y3, y4, y5, y6⟩ := fin (rv := rv) cB fB q1 hrd
      have row' := y3.rowNe q2 (show br ≠ b2 by omega)
      have ldr2 := ldR row'
      simp only [RT, Q0, Q1, Q2, Q3, Q4, Q5, Q6, Q7, Q8, ld5 cB, fr, ldr', q1]
      simp only [RT, Q0, Q1, Q2, Q3, Q4, Q5, Q6, Q7, Q8, AX4, As8, ld5 cB, fr, ldr', y1, Aa4]
      refine ⟨Aa3 (ha := rfl) rfl (ld5 y2) rfl (Aa3 (ha := rfl) rfl ldr2.2 rfl Aa4), ?_⟩
      simp only [RT, Q0, Q1, Q2, Q3, Q4, Q5, Q6, Q7, Q8, y4, Aa4]
      exact ⟨y5, y6⟩
    . have ldr' := ldR q1
      have ldm := ldM q3 q4.id
      have hsz := AU5 q2
      have hz0 : szM (msg0 kk.toNat) = 0 := rfl
      have hsized : Sized M := ⟨by simp only [szM] at hsz hz0; omega, by simp only [szM] at hsz hz0; omega, by simp only [szM] at hsz hz0; omega, fun b hb => by have := Ao9 hb; simp only [szM] at hsz hz0; omega⟩
      obtain ⟨_, C, k1, rfl, k2⟩ := AY5 (AX2 b2 B) q4 hsized.ids hsized.data hsized.list hsized.each
      have cC := cB.fr k2 (fun b q => q.elim)
      have rC := k2.row0 q1
      obtain ⟨D, y1, y2, y3⟩ := AI5 (n := checkM M) rC
      have cD := cC.fr y2 (by rintro b q; cases q; exact ⟨by omega, by omega, by omega, hno _ (by omega)⟩)
      have fD := (fB.then0 k2).row_ y2 (by omega)
      have ldd := ldR y3
      simp only [RT, Q0, Q1, Q2, Q3, Q4, Q5, Q6, Q7, Q8, ld5 cB, fr, ldr']
      simp only [RT, Q0, Q1, Q2, Q3, Q4, Q5, Q6, Q7, Q8, Bg3, ld5 cB, ldm, Aa4]
      refine Aa0 k1 ?_
      simp only [RT, Q0, Q1, Q2, Q3, Q4, Q5, Q6, Q7, Q8, Aa4]
      refine ⟨Aa3 (ha := rfl) rfl (ld5 cC) rfl Aa4, ?_⟩
      simp only [RT, Q0, Q1, Q2, Q3, Q4, Q5, Q6, Q7, Q8, fr, y1, ld5 cD, ldd, Aa4]
      refine Aa1 (fun g => ?_) (fun g => ?_)
      . have hrd : readM (kk :: s) = .error (checkM M) := by rw [hread, q2]; simp only []; rw [if_pos g]
        obtain ⟨E, z1, z2, z3, z4, z5, z6⟩ := fin (rv := rv) cD fD g hrd
        have row' := z3.rowNe y3 (show br ≠ b2 by omega)
        have ldr2 := ldR row'
        simp only [RT, Q0, Q1, Q2, Q3, Q4, Q5, Q6, Q7, Q8]
        simp only [RT, Q0, Q1, Q2, Q3, Q4, Q5, Q6, Q7, Q8, AX4, As8, ld5 cD, fr, ldd, z1, Aa4]
        refine ⟨Aa3 (ha := rfl) rfl (ld5 z2) rfl (Aa3 (ha := rfl) rfl ldr2.2 rfl Aa4), ?_⟩
        simp only [RT, Q0, Q1, Q2, Q3, Q4, Q5, Q6, Q7, Q8, z4, Aa4]
        exact ⟨z5, z6⟩
      . have hrd : readM (kk :: s) = .ok M := by rw [hread, q2]; simp only []; rw [if_neg g]
        have mD := y2.rowNe (k2.row0 q3) (show bm ≠ br by omega)
        have ldmD := ldM mD q4.id
        obtain ⟨E, z1, z2, z3⟩ := A12 (o := 0) (t := 70) (w := .agg (mc M dv iv lv)) (cs := mc M dv iv lv) cD.r2 zid rfl (by rw [Ag1 q4.id]; exact Bh0) (by rw [Ag1 q4.id]; decide) (AU2 q4)
        rw [Ac6 (by rw [Ag1 zid, Ag1 q4.id])] at z3
        have lde := (ldM z3 q4.id).2.2.2.2.2.2.2.2.2.2
        simp only [RT, Q0, Q1, Q2, Q3, Q4, Q5, Q6, Q7, Q8, ldmD, z1, lde]
        have le1 := Ab7 (N := b2) k2 (fun b q => q.elim)
        have le2 := Ab7 (N := b2) y2 (fun b q => by cases q; exact Ac2 rC)
        have le3 := Ab7 (N := b2) z2 (fun b q => by cases q; exact Ac2 cD.r2)
        exact ⟨fD.row_ z2 (by omega), A31 hrd (q4.mono (Hp.le_trans le1 (Hp.le_trans le2 le3)))⟩
theorem A32 {m : Hp} {A : AS} {v : V} {b : Bts} (hw : WF A) (hm : m.on A) (h : Slc eU8 m v b) (hb : b.length <= 1000000000000) :
 ∃ w A', EvF Try.prog HH 73 [v] A w A' /\ Fr S0 A A' /\ RdOut b w A' := by
 obtain ⟨w, A', h1, h2, dv, iv, lv, h3, h4⟩ := AB2 hw hm h hb
 exact ⟨w, A', h1, h2, dv, iv, lv, h3, h4.mono (AO1 _ _)⟩
end Go.Sv.Try
namespace Go.Sv.Try
open Go Go.Proofs
end Go.Sv.Try
namespace Go.Sv.Try
open Go Go.Proofs
end Go.Sv.Try
namespace Go.Sv.Try
open Go Go.Proofs
end Go.Sv.Try
namespace Go.Sv.Try
open Go Go.Proofs
theorem M.ext' {x y : Go.Sv.M} (h0 : x.kind = y.kind) (h1 : x.who = y.who) (h2 : x.height = y.height) (h3 : x.round = y.round) (h4 : x.valid = y.valid) (h5 : x.num = y.num) (h6 : x.id = y.id) (h7 : x.data = y.data) (h8 : x.ids = y.ids) (h9 : x.list = y.list) : x = y := by
 cases x; cases y; simp at h0 h1 h2 h3 h4 h5 h6 h7 h8 h9; simp [*]
theorem AB3 (b : Bts) : szM (readMsg b) <= b.length := by
 unfold readMsg
 cases h : readM b with
 | error e => show szM (msg0 0) <= _; exact Nat.zero_le _
 | ok m =>
  show szM m <= _
  match b, h with
  | k :: r, h =>
   unfold readM at h
   simp only [] at h
   split at h
   . simp at h
   . split at h
     . simp at h
     . rename_i m' hm
       split at h
       . simp at h
       . simp at h; subst h
         have := AU5 hm
         have hz : szM (msg0 k.toNat) = 0 := rfl
         simp only [List.length_cons]; omega
end Go.Sv.Try
namespace Go.Sv.Try
open Go Go.Proofs
theorem Bt1 {b : Bts} {x : Go.Sv.M} (h : readM b = .ok x) : readMsg b = x /\ readErr b = 0 := by
 unfold readMsg readErr; rw [h]; exact ⟨rfl, rfl⟩
theorem AY6 {x : Go.Sv.M} {m : Hp} {dv iv lv : V} (h : MsgIn m x dv iv lv) (hok : OkM x) : (writeB x).length <= 1800091 := by
 have h1 := Ax1 (P9 x) 1 (Bj6 hok h.id (Bj7 h.ids))
 have h3 : (P9 x).length = 9 := rfl
 rw [h3] at h1
 simp only [writeB, fieldList, List.length_cons]; omega
theorem AP2 {A : AS} {x : Go.Sv.M} {dv iv lv : V} {m : Hp} (h : MsgIn m x dv iv lv) : ∃ A', evStore Try.prog 70 (.ptr A.blk.length 0) (.agg (mc x dv iv lv)) (A.push ⟨mcZ, .var⟩) = some A' /\ Fr S0 A A' /\ A'.blk[A.blk.length]? = some ⟨mc x dv iv lv, .var⟩ := by
 obtain ⟨A2, s1, s2, s3, s4⟩ := Ai2 (P := Try.prog) A (z := mcZ) (t := 70) (x := .agg (mc x dv iv lv)) (cs := mc x dv iv lv) rfl (by rw [Ag1 h.id]; exact Bh0) (by rw [Ag1 h.id]; rfl) (AU2 h)
 exact ⟨A2, s1, s2, s3⟩
end Go.Sv.Try
namespace Go.Sv.Try
open Go Go.Proofs
end Go.Sv.Try
namespace Go.Sv.Try
open Go Go.Proofs
def entBad (x : Go.Sv.M) : Prop := x.kind ≠ 1 ∨ x.num < 1 ∨ x.who > 15 ∨ x.height ≠ 0 ∨ x.round ≠ 0 ∨ x.valid ≠ 0 ∨ x.id ≠ zero32 ∨ x.ids.length > 0 ∨ x.list.length > 0
open Classical in
noncomputable def entC (b : Bts) : Int := if readErr b ≠ 0 then readErr b else if entBad (readMsg b) then 23 else if (readMsg b).data.length > 256 then 2 else 0
theorem AE2 {b : Bts} (h : readErr b ≠ 0) : entC b = readErr b := by unfold entC; rw [if_pos h]
theorem AU9 {b : Bts} (h : readErr b = 0) (hb : entBad (readMsg b)) : entC b = 23 := by unfold entC; rw [if_neg (by simpa using h), if_pos hb]
theorem AJ1 {b : Bts} (h : readErr b = 0) (hb : ¬ entBad (readMsg b)) (hl : (readMsg b).data.length > 256) : entC b = 2 := by unfold entC; rw [if_neg (by simpa using h), if_neg hb, if_pos hl]
theorem Bk3 {b : Bts} (h : readErr b = 0) (hb : ¬ entBad (readMsg b)) (hl : ¬ (readMsg b).data.length > 256) : entC b = 0 := by unfold entC; rw [if_neg (by simpa using h), if_neg hb, if_neg hl]
theorem Ba6 {b : Bts} (h : readErr b = 0) : OkM (readMsg b) := by
 obtain ⟨x, hx⟩ := AB0.1 h
 rw [(Bt1 hx).1]
 exact Bh3 (AA9 hx).2.1
def EntOut (b : Bts) (w : V) (B : AS) : Prop := ∃ (X : Go.Sv.M) (dv iv lv : V), w = .tup [.agg (mc X dv iv lv), .int .i64 (entC b)] /\ MsgIn (arrHp B) X dv iv lv /\ (entC b = 0 -> X = readMsg b)
def EntOutZ (b : Bts) (w : V) (B : AS) : Prop := EntOut b w B /\ (entC b ≠ 0 -> w = .tup [.agg mcZ, .int .i64 (entC b)])
set_option maxRecDepth 10000 in
set_option maxHeartbeats 32000000 in
theorem Ax2 {m : Hp} {A : AS} {v : V} {b : Bts} (hw : WF A) (hm : m.on A) (h : Slc eU8 m v b) (hb : b.length <= 1000000000000) :
 ∃ w A', EvF Try.prog HH 36 [v] A w A' /\ Fr S0 A A' /\ EntOutZ b w A' := by
 refine Aa9 rfl Try.func36 (by unfold Try.f36; rfl) Try.ntmps36 (by unfold Try.f36; rfl) (by simp) ?_
 simp only [RT, Q0, Q1, Q2, Q3, Q4, Q5, Q6, Q7, Q8, zcM]
 obtain ⟨A1, e1, f1, r1, n1⟩ := Ab3 A mcZ
 rw [<- e1]
 have zid : (msg0 0).id.length = 32 := rfl
 obtain ⟨w, A2, k1, k2, dv, iv, lv, rfl, k3⟩ := A32 (f1.wf hw) (hm.fr0 f1) h hb
 refine Aa0 k1 ?_
 obtain ⟨A3, s1, s2, s3⟩ := AP2 (A := A2) k3
 have f3 := (f1.then0 k2).then0 s2
 have r2 := s2.row0 (k2.row0 r1)
 have hM : MsgIn (arrHp A3) (readMsg b) dv iv lv := k3.mono (Aw7 s2 fun b q => q.elim)
 have ld := ldM s3 k3.id
 have fa := faM A2.blk.length
 have dl := fun B => hM.data.len (P := Try.prog) Try.underlying44 B
 have il := fun B => hM.ids.len (P := Try.prog) Try.underlying36 B
 have ll := fun B => hM.list.len (P := Try.prog) Try.underlying22 B
 have bad : ∃ C, evStore Try.prog 70 (.ptr A.blk.length 0) (.agg mcZ) A3 = some C /\ evLoad Try.prog 70 (.ptr A.blk.length 0) C = some (.agg mcZ) /\ Fr S0 A C /\ (entC b ≠ 0 -> EntOutZ b (.tup [.agg mcZ, .int .i64 (entC b)]) C) := by
  obtain ⟨C, y1, y2, y3⟩ := A12 (o := 0) (t := 70) (w := .agg mcZ) (cs := mcZ) r2 zid rfl Bh0 (by decide) rfl
  rw [Ac6 rfl] at y3
  exact ⟨C, y1, (ldM y3 zid).2.2.2.2.2.2.2.2.2.2, f3.row_ y2 (Nat.le_refl _), fun q => ⟨⟨_, _, _, _, rfl, A30 (k := 0), fun z => absurd z q⟩, fun _ => rfl⟩⟩
 obtain ⟨C, b1, b2, b3, b4⟩ := bad
 obtain ⟨D, g1, g2, g3⟩ := A12 (o := 0) (t := 70) (w := .agg (mc (readMsg b) dv iv lv)) (cs := mc (readMsg b) dv iv lv) r2 zid rfl (by rw [Ag1 hM.id]; exact Bh0) (by rw [Ag1 hM.id]; decide) (AU2 hM)
 rw [Ac6 (by rw [Ag1 zid, Ag1 hM.id])] at g3
 have ldD := (ldM g3 hM.id).2.2.2.2.2.2.2.2.2.2
 have fD := f3.row_ g2 (Nat.le_refl _)
 have hMD : MsgIn (arrHp D) (readMsg b) dv iv lv := hM.mono (Aw7 g2 fun b q => by cases q; exact Az9 r2)
 simp only [RT, Q0, Q1, Q2, Q3, Q4, Q5, Q6, Q7, Q8, zcM, s1]
 refine Aa1 (fun h0 => ?_) (fun h0 => ?_)
 . simp only [RT, Q0, Q1, Q2, Q3, Q4, Q5, Q6, Q7, Q8, As8, b1, b2]
   rw [<- AE2 h0]
   exact ⟨b3, b4 (by rw [AE2 h0]; exact h0)⟩
 have he : readErr b = 0 := by omega
 have hok := Ba6 he
 have hn := hok.nums
 simp only [M.nums, List.mem_cons, List.mem_nil_iff, or_false, forall_eq_or_imp, forall_eq] at hn
 obtain ⟨⟨a1, c1⟩, ⟨a2, c2⟩, ⟨a3, c3⟩, ⟨a4, c4⟩, a5, c5⟩ := hn
 have hsz := AB3 b
 generalize hX : readMsg b = X at *
 have no : entBad X -> EntOutZ b (.tup [.agg mcZ, .int .i64 23]) C := fun q => by
  have e := AU9 he (by rw [hX]; exact q)
  rw [e] at b4; exact b4 (by decide)
 simp only [RT, Q0, Q1, Q2, Q3, Q4, Q5, Q6, Q7, Q8, fa, ld]
 by_cases q1 : X.kind = 1
 rotate_left
 . simp only [RT, Q0, Q1, Q2, Q3, Q4, Q5, Q6, Q7, Q8, q1, As8, b1, b2]
   exact ⟨b3, no (.inl q1)⟩
 simp only [RT, Q0, Q1, Q2, Q3, Q4, Q5, Q6, Q7, Q8, q1, fa, ld]
 by_cases q2 : X.num < 1
 . simp only [RT, Q0, Q1, Q2, Q3, Q4, Q5, Q6, Q7, Q8, q2, As8, b1, b2]
   exact ⟨b3, no (.inr (.inl q2))⟩
 simp only [RT, Q0, Q1, Q2, Q3, Q4, Q5, Q6, Q7, Q8, q2, fa, ld]
 by_cases q3 : X.who > 15
 . simp only [RT, Q0, Q1, Q2, Q3, Q4, Q5, Q6, Q7, Q8, q3, As8, b1, b2]
   exact ⟨b3, no (.inr (.inr (.inl q3)))⟩
 have w1 : IntKind.i64.wrap (X.height + X.round) = X.height + X.round := Ae9 (by omega) (by omega)
 have w2 : IntKind.i64.wrap (X.height + X.round + X.valid) = X.height + X.round + X.valid := Ae9 (by omega) (by omega)
 simp only [RT, Q0, Q1, Q2, Q3, Q4, Q5, Q6, Q7, Q8, q3, fa, ld, w1, w2]
 by_cases q4 : X.height + X.round + X.valid > 0
 . simp only [RT, Q0, Q1, Q2, Q3, Q4, Q5, Q6, Q7, Q8, q4, As8, b1, b2]
   refine ⟨b3, no (.inr (.inr (.inr ?_)))⟩
   omega
 simp only [RT, Q0, Q1, Q2, Q3, Q4, Q5, Q6, Q7, Q8, q4, fa, ld, BK0, eqI hM.id (rfl : zero32.length = 32)]
 by_cases q5 : X.id = zero32
 rotate_left
 . simp only [RT, Q0, Q1, Q2, Q3, Q4, Q5, Q6, Q7, Q8, q5, As8, b1, b2]
   exact ⟨b3, no (.inr (.inr (.inr (.inr (.inr (.inr (.inl q5)))))))⟩
 have w3 : IntKind.i64.wrap ((X.ids.length : Int) + (X.list.length : Int)) = (X.ids.length : Int) + (X.list.length : Int) := by simp only [szM] at hsz; exact Ae9 (by omega) (by omega)
 simp only [RT, Q0, Q1, Q2, Q3, Q4, Q5, Q6, Q7, Q8, q5, fa, ld, il, ll, w3]
 refine Aa1 (fun q6 => ?_) (fun q6 => ?_)
 . simp only [RT, Q0, Q1, Q2, Q3, Q4, Q5, Q6, Q7, Q8, As8, b1, b2]
   refine ⟨b3, no (.inr (.inr (.inr (.inr (.inr (.inr (.inr ?_)))))))⟩
   omega
 have good : ¬ entBad X := by
  rintro (z | z | z | z | z | z | z | z | z)
  . exact z q1
  . exact q2 z
  . exact q3 z
  . omega
  . omega
  . omega
  . exact z q5
  . omega
  . omega
 simp only [RT, Q0, Q1, Q2, Q3, Q4, Q5, Q6, Q7, Q8, fa, ld, dl]
 refine Aa1 (fun q7 => ?_) (fun q7 => ?_)
 . simp only [RT, Q0, Q1, Q2, Q3, Q4, Q5, Q6, Q7, Q8, As8, b1, b2]
   have e := AJ1 he (by rw [hX]; exact good) (by rw [hX]; omega)
   rw [e] at b4
   exact ⟨b3, b4 (by decide)⟩
 . simp only [RT, Q0, Q1, Q2, Q3, Q4, Q5, Q6, Q7, Q8, ld, g1, ldD]
   have e := Bk3 he (by rw [hX]; exact good) (by rw [hX]; omega)
   exact ⟨fD, ⟨X, dv, iv, lv, by rw [e], hMD, fun _ => hX.symm⟩, fun q => absurd e q⟩
theorem Ao1 {m : Hp} {A : AS} {v : V} {b : Bts} (hw : WF A) (hm : m.on A) (h : Slc eU8 m v b) (hb : b.length <= 1000000000000) :
 ∃ w A', EvF Try.prog HH 36 [v] A w A' /\ Fr S0 A A' /\ EntOut b w A' := by
 obtain ⟨w, A', h1, h2, h3, _⟩ := Ax2 hw hm h hb
 exact ⟨w, A', h1, h2, h3⟩
end Go.Sv.Try
namespace Go.Sv.Try
open Go Go.Proofs
theorem zB : zeroT Try.prog 4 = some (.bool false) := by kernel_rfl
end Go.Sv.Try
namespace Go.Sv.Try
open Go Go.Proofs
noncomputable def nameOf (b : Bts) : Option (Int × Int) := if entC b = 0 then some ((readMsg b).who, (readMsg b).num) else none
noncomputable def nm (list : List Bts) (i : Nat) : Option (Int × Int) := (list[i]?).bind nameOf
def NoDup (list : List Bts) (k : Nat) : Prop := ∀ i j n, i < j -> j < k -> nm list i = some n -> nm list j ≠ some n
def TwRes (list : List Bts) (a b : Int) (ok : Bool) : Prop :=
 (ok = true /\ ∃ (i k : Nat) (n : Int × Int), a = i /\ b = k /\ i < k /\ nm list i = some n /\ nm list k = some n /\ NoDup list k) ∨ (ok = false /\ a = 0 /\ b = 0 /\ NoDup list list.length)
theorem BD8 {list : List Bts} {k : Nat} {n : Int × Int} (h : nm list k = some n) : k < list.length := by
 unfold nm at h
 cases hk : list[k]? with
 | none => rw [hk] at h; simp at h
 | some b => exact (List.getElem?_eq_some_iff.1 hk).1
theorem AB4 {list : List Bts} {k : Nat} (h : NoDup list k) (hk : ∀ i n, i < k -> nm list i = some n -> nm list k ≠ some n) : NoDup list (k + 1) := by
 intro i j n hij hj hi
 rcases Nat.lt_or_ge j k with q | q
 . exact h i j n hij q hi
 . have : j = k := by omega
   subst this; exact hk i n hij hi
theorem BM1 : mkm Try.prog 139 (some none) = some .newMap := by kernel_rfl
theorem mtN : mapT Try.prog 139 = some (141, 3) := by kernel_rfl
theorem zI : zeroT Try.prog 3 = some (.int .i64 0) := by kernel_rfl
theorem Bt2 : KeyT Try.prog 141 (fun p : Int × Int => V.agg [.int .i64 p.1, .int .i64 p.2]) := A87 (by kernel_rfl) BC1
theorem BK3 (a b : Int) : evBuild Try.prog 141 [(0, .int .i64 a), (1, .int .i64 b)] = some (.agg [.int .i64 a, .int .i64 b]) := by kernel_rfl
theorem BD9 (a b : Int) : evBuild Try.prog 57 [(0, .int .i64 a), (1, .int .i64 b)] = some (.agg [.int .i64 a, .int .i64 b, .int .i64 0]) := by kernel_rfl
theorem BE0 : evBuild Try.prog 57 [] = some (.agg [.int .i64 0, .int .i64 0, .int .i64 0]) := by kernel_rfl
theorem AE3 {P : Program} {A : AS} {b n : Nat} {t : TypeId} {cs : List V} {k : BK} (ha : aggT P t = some true) (hs : szT P t = some n) (hb : A.blk[b]? = some ⟨cs, k⟩) (hl : cs.length = n) : evLoad P t (.ptr b 0) A = some (.agg cs) := by
 rw [Al9 ha hs]
 unfold AS.range
 rw [hb]
 simp only [hl, Nat.zero_add, Nat.le_refl, if_true, List.drop_zero]
 rw [<- hl, List.take_length]; rfl
set_option maxRecDepth 10000 in
set_option maxHeartbeats 16000000 in
theorem AY7 {m : Hp} {A : AS} {v : V} {list : List Bts} (hw : WF A) (hm : m.on A) (h : Slc (eSl eU8) m v list) (hl : list.length <= 1000000) (hb : ∀ b ∈ list, b.length <= 1000000) :
 ∃ w A', EvF Try.prog HH 30 [v] A w A' /\ Fr S0 A A' /\ ∃ a b ok, w = .tup [.agg [.int .i64 a, .int .i64 b, .int .i64 0], .bool ok] /\ TwRes list a b ok := by
 refine Aa9 rfl Try.func30 (by unfold Try.f30; rfl) Try.ntmps30 (by unfold Try.f30; rfl) (by simp) ?_
 have hlen := fun B => h.len (P := Try.prog) Try.underlying22 B
 simp only [RT, Q0, Q1, Q2, Q3, Q4, Q5, Q6, Q7, Q8, BL4]
 obtain ⟨A1, e1, f1, r1, n1⟩ := Ab3 A [.int .i64 0, .int .i64 0, .int .i64 0]
 rw [<- e1]
 simp only [RT, Q0, Q1, Q2, Q3, Q4, Q5, Q6, Q7, Q8, BM1, hlen]
 have q1 := Fr.pushMap A1 ⟨[], 0⟩
 have q2 := MapIs.new (enc := fun p : Int × Int => V.agg [.int .i64 p.1, .int .i64 p.2]) (ev := fun n : Nat => V.int .i64 (n : Int)) A1
 obtain ⟨r, hr⟩ : ∃ r, r = A1.maps.length := ⟨_, rfl⟩
 have hrA : A.maps.length <= r := by have := f1.mlen; omega
 rw [<- hr] at q2 ⊢
 have r2 := q1.row0 r1
 have fA2 := f1.then0 q1
 generalize A1.pushMap ⟨[], 0⟩ = A2 at *
 obtain ⟨bp, hbp⟩ : ∃ y, y = A.blk.length := ⟨_, rfl⟩
 rw [<- hbp] at r2 ⊢
 have put : ∀ {C : AS} {a b : Int}, Fr S0 A C -> C.blk[bp]? = some ⟨[.int .i64 0, .int .i64 0, .int .i64 0], .var⟩ -> ∃ C', evStore Try.prog 57 (.ptr bp 0) (.agg [.int .i64 a, .int .i64 b, .int .i64 0]) C = some C' /\ Fr S0 A C' /\ evLoad Try.prog 57 (.ptr bp 0) C' = some (.agg [.int .i64 a, .int .i64 b, .int .i64 0]) := by
  intro C a b z1 z2
  obtain ⟨C', y1, y2, y3, y4⟩ := Ab6 (P := Try.prog) (t := 57) (o := 0) (x := .agg [.int .i64 a, .int .i64 b, .int .i64 0]) z2 rfl BI5 (by simp) rfl
  rw [Ac6 (cs := [.int .i64 0, .int .i64 0, .int .i64 0]) (vs := [.int .i64 a, .int .i64 b, .int .i64 0]) rfl] at y3
  exact ⟨C', y1, z1.row_ y2 (by omega), AE3 BO6 BI5 y3 rfl⟩
 refine Aa2 (fun n e B => Fr S0 A B /\ m.on B /\ B.blk[bp]? = some ⟨[.int .i64 0, .int .i64 0, .int .i64 0], .var⟩ /\ e.get 2 = .ptr bp 0 /\ e.get 4 = .map r /\ e.get 13 = v /\ e.get 14 = .int .i64 list.length /\ ∃ (i : Nat) (l : List ((Int × Int) × Nat)), n = list.length - i /\ i <= list.length /\ e.get 15 = .int .i64 i /\
  MapIs B r (fun p : Int × Int => V.agg [.int .i64 p.1, .int .i64 p.2]) (fun n : Nat => V.int .i64 (n : Int)) l /\ NoDup list i /\ (∀ n j, lookL l n = some j -> j < i /\ nm list j = some n) /\ ∀ n j, j < i -> nm list j = some n -> ∃ j', lookL l n = some j')
  (fun z e B => Fr S0 A B /\ e.get 2 = .ptr bp 0 /\ ((Is z (.exit 0) /\ B.blk[bp]? = some ⟨[.int .i64 0, .int .i64 0, .int .i64 0], .var⟩ /\ NoDup list list.length) ∨
   (Is z .ret /\ ∃ a b : Int, e.get 3 = .bool true /\ evLoad Try.prog 57 (.ptr bp 0) B = some (.agg [.int .i64 a, .int .i64 b, .int .i64 0]) /\ TwRes list a b true)))
  ⟨_, fA2, hm.fr0 fA2, r2, rfl, rfl, rfl, rfl, 0, [], rfl, by simp, rfl, q2, fun i j n _ z => by omega, fun n j q => by simp [lookL] at q, fun n j q => by omega⟩ ?_ ?_
 . rintro n e B ⟨hf, hmB, rB, h2, h4, h13, h14, i, l, rfl, hi, h15, hmap, hnd, hA, hB⟩
   simp only [RT, Q0, Q1, Q2, Q3, Q4, Q5, Q6, Q7, Q8, h15, h14]
   refine Aa1 (fun g => ?_) (fun g => ?_)
   . obtain ⟨y, hy⟩ := Ad6 (l := list) (i := i) (by omega)
     have hyl := hb y (List.mem_of_getElem? hy)
     obtain ⟨b, o, c, g1, g2, g3⟩ := h.at (P := Try.prog) (k := .i64) hmB Try.underlying22 A14 A95 hy
     rw [Az3] at g3
     obtain ⟨w, C, k1, k2, X, dv, iv, lv, rfl, k3, k4⟩ := Ao1 (hf.wf hw) hmB g3 (by omega)
     obtain ⟨D, s1, s2, s3⟩ := AP2 (A := C) k3
     have fD := (hf.then0 k2).then0 s2
     have mD := (hmB.fr0 k2).fr0 s2
     have rD := s2.row0 (k2.row0 rB)
     have mapD := (hmap.fr k2 fun q => q).fr s2 fun q => q
     have ld := ldM s3 k3.id
     have fa := faM C.blk.length
     have hnm : nm list i = nameOf y := by unfold nm; rw [hy]; rfl
     have next : ∀ {l' : List ((Int × Int) × Nat)} {E : AS} {e' : Env}, True := fun {_ _ _} => trivial
     simp only [RT, Q0, Q1, Q2, Q3, Q4, Q5, Q6, Q7, Q8, h15, h13, g1, g2]
     refine Aa0 k1 ?_
     simp only [RT, Q0, Q1, Q2, Q3, Q4, Q5, Q6, Q7, Q8, zcM, s1]
     refine Aa1 (fun h0 => ?_) (fun h0 => ?_)
     . simp only [RT, Q0, Q1, Q2, Q3, Q4, Q5, Q6, Q7, Q8, h15]
       have hnone : nm list i = none := by rw [hnm]; unfold nameOf; rw [if_neg h0]
       refine ⟨list.length - (i + 1), by omega, fD, mD, rD, h2, h4, h13, h14, i + 1, l, rfl, by omega, by rw [Af9 (by omega)], mapD, AB4 hnd (fun j n hj q => by rw [hnone]; simp), fun n j q => ?_, fun n j hj q => ?_⟩
       . obtain ⟨z1, z2⟩ := hA n j q; exact ⟨by omega, z2⟩
       . rcases Nat.lt_or_ge j i with z | z
         . exact hB n j z q
         . have : j = i := by omega
           subst this; rw [hnone] at q; simp at q
     . have he : entC y = 0 := by omega
       have hX := k4 he
       have hsome : nm list i = some (X.who, X.num) := by rw [hnm]; unfold nameOf; rw [if_pos he, hX]
       obtain ⟨E, t1, t2, t3, t4⟩ := Ai2 (P := Try.prog) D (z := [.int .i64 0, .int .i64 0]) (t := 141) (x := .agg [.int .i64 X.who, .int .i64 X.num]) (cs := [.int .i64 X.who, .int .i64 X.num]) rfl BC0 rfl rfl
       have ldn := AE3 (P := Try.prog) BC1 BC0 t3 rfl
       have fE := fD.then0 t2
       have mE := mD.fr0 t2
       have rE := t2.row0 rD
       have mapE := mapD.fr t2 fun q => q
       have hlk := mapE.look (P := Try.prog) Bt2 mtN zI (X.who, X.num) true
       cases hq : lookL l (X.who, X.num) with
       | some j =>
        obtain ⟨z1, z2⟩ := hA _ _ hq
        rw [hq] at hlk
        simp only [if_true] at hlk
        obtain ⟨F, y1, y2, y3⟩ := put (a := (j : Int)) (b := (i : Int)) fE rE
        simp only [RT, Q0, Q1, Q2, Q3, Q4, Q5, Q6, Q7, Q8, fa, ld, BK3, BC2, t1, ldn, h4, hlk, BD9, h2, y1]
        exact ⟨y2, .inr ⟨rfl, _, _, y3, .inl ⟨rfl, j, i, _, rfl, rfl, z1, z2, hsome, hnd⟩⟩⟩
       | none =>
        rw [hq] at hlk
        simp only [if_true] at hlk
        obtain ⟨F, y1, y2, y3⟩ := mapE.put (P := Try.prog) Bt2 mtN i hq
        have fF : Fr S0 A F := fE.trans y2 (fun x q => .inr (by subst q; exact hrA))
        simp only [RT, Q0, Q1, Q2, Q3, Q4, Q5, Q6, Q7, Q8, fa, ld, BK3, BC2, t1, ldn, h4, hlk, y1, h15]
        refine ⟨list.length - (i + 1), by omega, fF, mE.fr y2 (fun b q => by cases q), y2.row _ _ rE (fun q => by cases q), h2, h13, h14, i + 1, _, rfl, by omega, by rw [Af9 (by omega)], y3, AB4 hnd (fun j n hj q => ?_), fun n j q => ?_, fun n j hj q => ?_⟩
        . rw [hsome]
          intro z; cases z
          obtain ⟨j', hj'⟩ := hB _ j hj q
          rw [hq] at hj'; simp at hj'
        . rw [AO3] at q
          cases hn : lookL l n with
          | some j0 => rw [hn] at q; cases q; obtain ⟨z1, z2⟩ := hA n _ hn; exact ⟨by omega, z2⟩
          | none =>
           rw [hn] at q
           simp only [lookL] at q
           split at q
           . rename_i z; cases q; exact ⟨by omega, by rw [z]; exact hsome⟩
           . simp at q
        . rw [AO3]
          rcases Nat.lt_or_ge j i with z | z
          . obtain ⟨j', hj'⟩ := hB n j z q
            exact ⟨j', by rw [hj']⟩
          . have : j = i := by omega
            subst this
            rw [hsome] at q; cases q
            exact ⟨j, by rw [hq]; simp [lookL]⟩
   . have : i = list.length := by omega
     subst this
     simp only [RT, Q0, Q1, Q2, Q3, Q4, Q5, Q6, Q7, Q8]
     exact ⟨hf, h2, .inl ⟨rfl, rB, hnd⟩⟩
 . rintro z e B hz ⟨hf, h2, ⟨rfl, rB, hnd⟩ | ⟨rfl, a, b, h3, hld, htw⟩⟩
   . obtain ⟨F, y1, y2, y3⟩ := put (a := 0) (b := 0) hf rB
     simp only [RT, Q0, Q1, Q2, Q3, Q4, Q5, Q6, Q7, Q8, BE0, h2, y1, y3]
     exact ⟨y2, 0, 0, false, rfl, .inr ⟨rfl, rfl, rfl, hnd⟩⟩
   . simp only [RT, Q0, Q1, Q2, Q3, Q4, Q5, Q6, Q7, Q8, h2, h3, hld]
     exact ⟨hf, a, b, true, rfl, htw⟩
end Go.Sv.Try
