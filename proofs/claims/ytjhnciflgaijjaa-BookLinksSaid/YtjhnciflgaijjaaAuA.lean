/- Parts of writing messages: what they come to. -/
import Derived.Test.YtjhnciflgaijjaaSvBase
import Derived.Test.YtjhnciflgaijjaaAu0
import Derived.Test.YtjhnciflgaijjaaSv4
set_option linter.unusedSimpArgs false
set_option linter.unusedVariables false
open Nat renaming reduceLT → Q0, reduceBEq → Q1, reduceEqDiff → Q2, reduceAdd → Q3
open Int renaming reduceEq → Q4, reduceLT → Q5, reduceLE → Q6, reduceGT → Q7, reduceGE → Q8
namespace Go.Sv.Try
open Go Go.Proofs
theorem faM (b : Nat) : evFieldAddr Try.prog 70 (.ptr b 0) 0 = some (.ptr b 0) /\ evFieldAddr Try.prog 70 (.ptr b 0) 1 = some (.ptr b 1) /\ evFieldAddr Try.prog 70 (.ptr b 0) 2 = some (.ptr b 2) /\ evFieldAddr Try.prog 70 (.ptr b 0) 3 = some (.ptr b 3) /\ evFieldAddr Try.prog 70 (.ptr b 0) 4 = some (.ptr b 4)
 /\ evFieldAddr Try.prog 70 (.ptr b 0) 5 = some (.ptr b 5) /\ evFieldAddr Try.prog 70 (.ptr b 0) 6 = some (.ptr b 6) /\ evFieldAddr Try.prog 70 (.ptr b 0) 7 = some (.ptr b 38) /\ evFieldAddr Try.prog 70 (.ptr b 0) 8 = some (.ptr b 39) /\ evFieldAddr Try.prog 70 (.ptr b 0) 9 = some (.ptr b 40) :=
 ⟨by kernel_rfl, by kernel_rfl, by kernel_rfl, by kernel_rfl, by kernel_rfl, by kernel_rfl, by kernel_rfl, by kernel_rfl, by kernel_rfl, by kernel_rfl⟩
theorem BP0 {x : M} {dv iv lv : V} (h : x.id.length = 32) : (mc x dv iv lv)[38]? = some dv /\ (mc x dv iv lv)[39]? = some iv /\ (mc x dv iv lv)[40]? = some lv := by
 have e : (bc x.id).length = 32 := by rw [Aa5, h]
 have key : ∀ j, (mc x dv iv lv)[38 + j]? = [dv, iv, lv][j]? := fun j => by
  have : 38 + j = (32 + j) + 6 := by omega
  rw [this]
  show (bc x.id ++ [dv, iv, lv])[32 + j]? = _
  rw [List.getElem?_append_right (by omega), e]; congr 1; omega
 exact ⟨key 0, key 1, key 2⟩
theorem ldM {x : M} {dv iv lv : V} {A : AS} {b : Nat} {k : BK} (hb : A.blk[b]? = some ⟨mc x dv iv lv, k⟩) (h : x.id.length = 32) :
 evLoad Try.prog 3 (.ptr b 0) A = some (.int .i64 x.kind) /\ evLoad Try.prog 3 (.ptr b 1) A = some (.int .i64 x.who) /\ evLoad Try.prog 3 (.ptr b 2) A = some (.int .i64 x.height) /\ evLoad Try.prog 3 (.ptr b 3) A = some (.int .i64 x.round)
 /\ evLoad Try.prog 3 (.ptr b 4) A = some (.int .i64 x.valid) /\ evLoad Try.prog 3 (.ptr b 5) A = some (.int .i64 x.num) /\ evLoad Try.prog 32 (.ptr b 6) A = some (.agg (bc x.id)) /\ evLoad Try.prog 44 (.ptr b 38) A = some dv
 /\ evLoad Try.prog 36 (.ptr b 39) A = some iv /\ evLoad Try.prog 22 (.ptr b 40) A = some lv /\ evLoad Try.prog 70 (.ptr b 0) A = some (.agg (mc x dv iv lv)) := by
 have hl := Ab5 (dv := dv) (iv := iv) (lv := lv) h
 obtain ⟨e1, e2, e3⟩ := BP0 (dv := dv) (iv := iv) (lv := lv) h
 refine ⟨?_, ?_, ?_, ?_, ?_, ?_, ?_, ?_, ?_, ?_, ?_⟩
 . rw [Ab9 ag3 hb]; rfl
 . rw [Ab9 ag3 hb]; rfl
 . rw [Ab9 ag3 hb]; rfl
 . rw [Ab9 ag3 hb]; rfl
 . rw [Ab9 ag3 hb]; rfl
 . rw [Ab9 ag3 hb]; rfl
 . rw [Ai5 AW4 As0]
   unfold AS.range
   rw [hb]
   simp only [hl]
   rw [if_pos (by decide)]
   have : (List.drop 6 (mc x dv iv lv)).take 32 = bc x.id := by
    show (bc x.id ++ [dv, iv, lv]).take 32 = _
    rw [List.take_left' (by rw [Aa5, h])]
   rw [this]; rfl
 . rw [Ab9 A66 hb, e1]
 . rw [Ab9 BY1 hb, e2]
 . rw [Ab9 BV0 hb, e3]
 . rw [Ai5 B19 AP2]
   unfold AS.range
   rw [hb]
   simp only [hl]
   rw [if_pos (by decide)]
   rw [List.drop_zero, List.take_of_length_le (by rw [hl]; decide)]; rfl
theorem BW8 (a b c d e : Int) : evBuild Try.prog 203 [(0, .int .i64 a), (1, .int .i64 b), (2, .int .i64 c), (3, .int .i64 d), (4, .int .i64 e)] = some (.agg [.int .i64 a, .int .i64 b, .int .i64 c, .int .i64 d, .int .i64 e]) := by kernel_rfl
theorem BY8 (a b c d e : Int) : bsl Try.prog 52 5 (some [(0, .int .i64 a), (1, .int .i64 b), (2, .int .i64 c), (3, .int .i64 d), (4, .int .i64 e)]) = some (.newSl [.int .i64 a, .int .i64 b, .int .i64 c, .int .i64 d, .int .i64 e] 5 1) := by kernel_rfl
theorem BP1 (a : Int) : bsl Try.prog 44 1 (some [(0, .int .u8 a)]) = some (.newSl [.int .u8 a] 1 1) := by kernel_rfl
theorem BY9 (a b c : Int) : bsl Try.prog 44 3 (some [(0, .int .u8 a), (1, .int .u8 b), (2, .int .u8 c)]) = some (.newSl [.int .u8 a, .int .u8 b, .int .u8 c] 3 1) := by kernel_rfl
theorem BO3 (n : Int) (A : AS) : cnv Try.prog 3 5 (some (.int .i64 n)) A = some (.val (.int .u8 (IntKind.u8.wrap n))) := At0 (by decide) Try.underlying3 Try.underlying5
theorem BE5 (x : M) : x.nums.map (.int .i64 ·) = [V.int .i64 x.who, .int .i64 x.height, .int .i64 x.round, .int .i64 x.valid, .int .i64 x.num] := rfl
set_option maxRecDepth 10000 in
set_option maxHeartbeats 8000000 in
theorem AH4 {m : Hp} {A : AS} {x : M} {dv iv lv : V} (hm : m.on A) (h : MsgIn m x dv iv lv) (hl : x.ids.length <= 9223372036854775807) (hd : x.data.length <= 9223372036854775807) (hll : x.list.length <= 9223372036854775807) (hb : ∀ b ∈ x.list, b.length <= 9223372036854775807) :
 ∃ w A', EvF Try.prog HH 92 [.agg (mc x dv iv lv)] A w A' /\ w = .int .i64 (checkM x) /\ Fr S0 A A' := by
 refine Aa6 rfl Try.func92 (by unfold Try.f92; rfl) Try.ntmps92 (by unfold Try.f92; rfl) (by simp) ?_
 simp only [RT, Q0, Q1, Q2, Q3, Q4, Q5, Q6, Q7, Q8]
 obtain ⟨A1, e1, f1, r1, n1⟩ := Aa9 A (mc x dv iv lv)
 rw [<- e1]
 have ld := ldM r1 h.id
 have fa := faM A.blk.length
 have hm1 := hm.fr0 f1
 have dlen := fun B => h.data.len (P := Try.prog) Try.underlying44 B
 have ilen := fun B => h.ids.len (P := Try.prog) Try.underlying36 B
 have llen := fun B => h.list.len (P := Try.prog) Try.underlying22 B
 simp only [RT, Q0, Q1, Q2, Q3, Q4, Q5, Q6, Q7, Q8, ld, fa]
 refine Ab8 (fun g1 => ?_) (fun g1 => ?_)
 . simp only [RT, Q0, Q1, Q2, Q3, Q4, Q5, Q6, Q7, Q8, g1]
   exact ⟨by unfold checkM; rw [if_pos (.inl g1)], f1⟩
 simp only [RT, Q0, Q1, Q2, Q3, Q4, Q5, Q6, Q7, Q8, ld, fa, g1]
 refine Aa1 (fun g2 => ?_) (fun g2 => ?_)
 . simp only [RT, Q0, Q1, Q2, Q3, Q4, Q5, Q6, Q7, Q8]
   exact ⟨by unfold checkM; rw [if_pos (.inr g2)], f1⟩
 simp only [RT, Q0, Q1, Q2, Q3, Q4, Q5, Q6, Q7, Q8, ld, fa, BW8]
 have hk : ¬ (x.kind < 1 ∨ x.kind > 31) := by omega
 refine Aa2 (fun n e B => B = A1 /\ ∃ i : Nat, n = 5 - i /\ i <= 5 /\ e.get 27 = .int .i64 i /\ e.get 26 = .agg (x.nums.map (.int .i64 ·)) /\ e.get 1 = .ptr A.blk.length 0 /\ ∀ n ∈ x.nums.take i, numBad n = false)
  (fun z e B => B = A1 /\ e.get 1 = .ptr A.blk.length 0 /\ ((Is z (.exit 0) /\ ∀ n ∈ x.nums, numBad n = false) ∨ (Is z .ret /\ e.get 2 = .int .i64 1 /\ checkM x = 1)))
  ⟨_, rfl, 0, rfl, by simp, rfl, rfl, rfl, by simp⟩ ?_ ?_
 . rintro n e B ⟨rfl, i, rfl, hi, h27, h26, h1, hall⟩
   simp only [RT, Q0, Q1, Q2, Q3, Q4, Q5, Q6, Q7, Q8, h27]
   refine Aa1 (fun g3 => ?_) (fun g3 => ?_)
   . obtain ⟨n, hn⟩ := Ad0 (l := x.nums) (i := i) (by simp only [M.nums, List.length_cons, List.length_nil]; omega)
     have hat := Bu9 (P := Try.prog) (t := 203) (k := .i64) (cs := x.nums.map (.int .i64 ·)) (i := i) Try.underlying203 sz3 ag3 (by omega)
     rw [List.getElem?_map, hn, Option.map_some] at hat
     simp only [RT, Q0, Q1, Q2, Q3, Q4, Q5, Q6, Q7, Q8, h27, h26, hat]
     have isBad : numBad n = true -> checkM x = 1 := fun q => by
      unfold checkM
      rw [if_neg hk, if_pos (List.any_eq_true.2 ⟨n, List.mem_of_getElem? hn, q⟩)]
     refine Ab8 (fun g4 => ?_) (fun g4 => ?_)
     . simp only [RT, Q0, Q1, Q2, Q3, Q4, Q5, Q6, Q7, Q8, g4, h1]
       exact .inr ⟨rfl, isBad (by simp [numBad, g4])⟩
     . simp only [RT, Q0, Q1, Q2, Q3, Q4, Q5, Q6, Q7, Q8, g4]
       refine Aa1 (fun g5 => ?_) (fun g5 => ?_)
       . simp only [RT, Q0, Q1, Q2, Q3, Q4, Q5, Q6, Q7, Q8, h1]
         exact .inr ⟨rfl, isBad (by simp [numBad, g5])⟩
       . simp only [RT, Q0, Q1, Q2, Q3, Q4, Q5, Q6, Q7, Q8, h27]
         refine ⟨5 - (i + 1), by omega, i + 1, rfl, by omega, by rw [Af3 (by omega)], h26, h1, fun z hz => ?_⟩
         rcases Aw0 hn hz with q | rfl
         . exact hall z q
         . simp only [numBad, Bool.or_eq_false_iff, decide_eq_false_iff_not]; exact ⟨g4, g5⟩
   . simp only [RT, Q0, Q1, Q2, Q3, Q4, Q5, Q6, Q7, Q8, h1]
     refine .inl ⟨rfl, fun n hn => hall n ?_⟩
     rw [List.take_of_length_le (by simp only [M.nums, List.length_cons, List.length_nil]; omega)]; exact hn
 rintro z e B hz ⟨rfl, h1, ⟨rfl, hall⟩ | ⟨rfl, h2, hc⟩⟩
 rotate_left
 . simp only [RT, Q0, Q1, Q2, Q3, Q4, Q5, Q6, Q7, Q8, h2]
   exact ⟨by rw [hc], f1⟩
 have hn : ¬ (x.nums.any numBad = true) := fun q => by
  obtain ⟨n, hn, hb⟩ := List.any_eq_true.1 q
  rw [hall n hn] at hb; simp at hb
 have c2 : x.ids.length > 64 ∨ x.list.length > 64 ∨ x.data.length + lens x.list > 131072 -> checkM x = 2 := fun q => by
  unfold checkM; rw [if_neg hk, if_neg hn, if_pos q]
 have c0 : ¬ (x.ids.length > 64 ∨ x.list.length > 64 ∨ x.data.length + lens x.list > 131072) -> checkM x = 0 := fun q => by
  unfold checkM; rw [if_neg hk, if_neg hn, if_neg q]
 simp only [RT, Q0, Q1, Q2, Q3, Q4, Q5, Q6, Q7, Q8, h1, ld, fa, dlen, ilen]
 refine Ab8 (fun g1 => ?_) (fun g1 => ?_)
 . simp only [RT, Q0, Q1, Q2, Q3, Q4, Q5, Q6, Q7, Q8, g1]
   exact ⟨by rw [c2 (.inl (by omega))], f1⟩
 simp only [RT, Q0, Q1, Q2, Q3, Q4, Q5, Q6, Q7, Q8, h1, ld, fa, g1, llen]
 refine Ab8 (fun g2 => ?_) (fun g2 => ?_)
 . simp only [RT, Q0, Q1, Q2, Q3, Q4, Q5, Q6, Q7, Q8, g2]
   exact ⟨by rw [c2 (.inr (.inl (by omega)))], f1⟩
 simp only [RT, Q0, Q1, Q2, Q3, Q4, Q5, Q6, Q7, Q8, g2]
 refine Aa1 (fun g3 => ?_) (fun g3 => ?_)
 . simp only [RT, Q0, Q1, Q2, Q3, Q4, Q5, Q6, Q7, Q8]
   exact ⟨by rw [c2 (.inr (.inr (by omega)))], f1⟩
 simp only [RT, Q0, Q1, Q2, Q3, Q4, Q5, Q6, Q7, Q8, h1, ld, fa, llen]
 refine Aa2 (fun n e C => C = B /\ ∃ i : Nat, n = x.list.length - i /\ i <= x.list.length /\ e.get 57 = .int .i64 i /\ e.get 55 = lv /\ e.get 56 = .int .i64 x.list.length /\ e.get 5 = .int .i64 (x.data.length + lens (x.list.take i) : Nat) /\ x.data.length + lens (x.list.take i) <= 131072)
  (fun z e C => C = B /\ ((Is z (.exit 2) /\ checkM x = 0) ∨ (Is z .ret /\ e.get 2 = .int .i64 2 /\ checkM x = 2)))
  ⟨_, rfl, 0, rfl, by simp, rfl, rfl, rfl, by simp [lens, sumOf, Env.get], by simp [lens, sumOf]; omega⟩ ?_ ?_
 . rintro n e C ⟨rfl, i, rfl, hi, h57, h55, h56, h5, hle⟩
   simp only [RT, Q0, Q1, Q2, Q3, Q4, Q5, Q6, Q7, Q8, h57, h56]
   refine Aa1 (fun g4 => ?_) (fun g4 => ?_)
   . obtain ⟨y, hy⟩ := Ad0 (l := x.list) (i := i) (by omega)
     obtain ⟨b, o, c, q1, q2, q3⟩ := h.list.at (P := Try.prog) (k := .i64) hm1 Try.underlying22 A28 A66 hy
     rw [AV4] at q3
     have q4 := fun B => q3.len (P := Try.prog) Try.underlying44 B
     have hyl := hb y (List.mem_of_getElem? hy)
     have hs := AB6 hy
     have hle2 := Ak3 x.list (i + 1)
     simp only [RT, Q0, Q1, Q2, Q3, Q4, Q5, Q6, Q7, Q8, h57, h55, q1, q2, h5, q4]
     refine Ab8 (fun g5 => ?_) (fun g5 => ?_)
     . simp only [RT, Q0, Q1, Q2, Q3, Q4, Q5, Q6, Q7, Q8, g5]
       exact .inr ⟨rfl, c2 (.inr (.inr (by omega)))⟩
     . have hw : IntKind.i64.wrap (((x.data.length + lens (x.list.take i) : Nat) : Int) + y.length) = ((x.data.length + lens (x.list.take (i + 1)) : Nat) : Int) := by
        rw [AE0 (by omega) (by omega), hs]; omega
       rw [hw]
       simp only [RT, Q0, Q1, Q2, Q3, Q4, Q5, Q6, Q7, Q8, g5]
       refine Aa1 (fun g6 => ?_) (fun g6 => ?_)
       . simp only [RT, Q0, Q1, Q2, Q3, Q4, Q5, Q6, Q7, Q8]
         exact .inr ⟨rfl, c2 (.inr (.inr (by omega)))⟩
       . simp only [RT, Q0, Q1, Q2, Q3, Q4, Q5, Q6, Q7, Q8, h57]
         exact ⟨x.list.length - (i + 1), by omega, i + 1, rfl, by omega, by rw [Af3 (by omega)], h55, h56, rfl, by omega⟩
   . simp only [RT, Q0, Q1, Q2, Q3, Q4, Q5, Q6, Q7, Q8]
     rw [List.take_of_length_le (by omega)] at hle
     exact .inl ⟨rfl, c0 (by omega)⟩
 . rintro z e C hz ⟨rfl, ⟨rfl, hc⟩ | ⟨rfl, h2, hc⟩⟩
   . simp only [RT, Q0, Q1, Q2, Q3, Q4, Q5, Q6, Q7, Q8]
     exact ⟨by rw [hc], f1⟩
   . simp only [RT, Q0, Q1, Q2, Q3, Q4, Q5, Q6, Q7, Q8, h2]
     exact ⟨by rw [hc], f1⟩
set_option maxRecDepth 10000 in
set_option maxHeartbeats 8000000 in
theorem AL3 {m : Hp} {A : AS} {x : M} {dv iv lv : V} (hm : m.on A) (h : MsgIn m x dv iv lv) (hl : x.ids.length <= 9223372036854775807) (hd : x.data.length <= 9223372036854775807) (hll : x.list.length <= 9223372036854775807) (hb : ∀ b ∈ x.list, b.length <= 9223372036854775807) :
 ∃ w A', EvF Try.prog HH 95 [.agg (mc x dv iv lv)] A w A' /\ w = .int .i64 (checkM x) /\ Fr S0 A A' := by
 refine Aa6 rfl Try.func95 (by unfold Try.f95; rfl) Try.ntmps95 (by unfold Try.f95; rfl) (by simp) ?_
 simp only [RT, Q0, Q1, Q2, Q3, Q4, Q5, Q6, Q7, Q8]
 obtain ⟨A1, e1, f1, r1, n1⟩ := Aa9 A (mc x dv iv lv)
 rw [<- e1]
 have ld := ldM r1 h.id
 have fa := faM A.blk.length
 have hm1 := hm.fr0 f1
 simp only [RT, Q0, Q1, Q2, Q3, Q4, Q5, Q6, Q7, Q8, ld, fa]
 refine Ab8 (fun g1 => ?_) (fun g1 => ?_)
 . simp only [RT, Q0, Q1, Q2, Q3, Q4, Q5, Q6, Q7, Q8, g1]
   exact ⟨by unfold checkM; rw [if_pos (.inl g1)], f1⟩
 simp only [RT, Q0, Q1, Q2, Q3, Q4, Q5, Q6, Q7, Q8, ld, fa, g1]
 refine Aa1 (fun g2 => ?_) (fun g2 => ?_)
 . simp only [RT, Q0, Q1, Q2, Q3, Q4, Q5, Q6, Q7, Q8]
   exact ⟨by unfold checkM; rw [if_pos (.inr g2)], f1⟩
 simp only [RT, Q0, Q1, Q2, Q3, Q4, Q5, Q6, Q7, Q8, ld, fa, BY8]
 have hk : ¬ (x.kind < 1 ∨ x.kind > 31) := by omega
 rw [<- BE5]
 have f2 := Fr.pushArr A1 (x.nums.map (.int .i64 ·))
 have r2 := Ab3 A1 ⟨x.nums.map (.int .i64 ·), .arr A1.blk.length 0⟩
 have r1' := f2.row0 r1
 have hm2 := hm1.fr0 f2
 have fAll := f1.then0 f2
 generalize A1.push ⟨x.nums.map (.int .i64 ·), .arr A1.blk.length 0⟩ = A2 at *
 have ld := ldM r1' h.id
 refine Aa2 (fun n e B => B = A2 /\ ∃ i : Nat, n = 5 - i /\ i <= 5 /\ e.get 4 = .int .i64 i /\ e.get 3 = .sl A1.blk.length 0 5 1 /\ e.get 1 = .ptr A.blk.length 0 /\ ∀ n ∈ x.nums.take i, numBad n = false)
  (fun z e B => B = A2 /\ e.get 1 = .ptr A.blk.length 0 /\ ((Is z (.exit 0) /\ ∀ n ∈ x.nums, numBad n = false) ∨ (Is z .ret /\ e.get 2 = .int .i64 1 /\ checkM x = 1)))
  ⟨_, rfl, 0, rfl, by simp, rfl, rfl, rfl, by simp⟩ ?_ ?_
 . rintro n e B ⟨rfl, i, rfl, hi, h4, h3, h1, hall⟩
   simp only [RT, Q0, Q1, Q2, Q3, Q4, Q5, Q6, Q7, Q8, h4]
   refine Aa1 (fun g3 => ?_) (fun g3 => ?_)
   . obtain ⟨n, hn⟩ := Ad0 (l := x.nums) (i := i) (by simp only [M.nums, List.length_cons, List.length_nil]; omega)
     have had := Bi6 (P := Try.prog) (t := 52) (k := .i64) (b := A1.blk.length) (o := 0) (n := 5) (i := i) Try.underlying52 sz3 (by omega)
     have hld := Ab9 (P := Try.prog) ag3 r2 (0 + i * 1)
     rw [show 0 + i * 1 = i by omega] at hld had
     rw [List.getElem?_map, hn, Option.map_some] at hld
     simp only [RT, Q0, Q1, Q2, Q3, Q4, Q5, Q6, Q7, Q8, h4, h3, had, hld]
     have isBad : numBad n = true -> checkM x = 1 := fun q => by
      unfold checkM
      rw [if_neg hk, if_pos (List.any_eq_true.2 ⟨n, List.mem_of_getElem? hn, q⟩)]
     refine Ab8 (fun g4 => ?_) (fun g4 => ?_)
     . simp only [RT, Q0, Q1, Q2, Q3, Q4, Q5, Q6, Q7, Q8, g4, h1]
       exact .inr ⟨rfl, isBad (by simp [numBad, g4])⟩
     . simp only [RT, Q0, Q1, Q2, Q3, Q4, Q5, Q6, Q7, Q8, g4, h4, h3, had, hld]
       refine Aa1 (fun g5 => ?_) (fun g5 => ?_)
       . simp only [RT, Q0, Q1, Q2, Q3, Q4, Q5, Q6, Q7, Q8, h1]
         exact .inr ⟨rfl, isBad (by simp [numBad, g5])⟩
       . simp only [RT, Q0, Q1, Q2, Q3, Q4, Q5, Q6, Q7, Q8, h4]
         refine ⟨5 - (i + 1), by omega, i + 1, rfl, by omega, by rw [Af3 (by omega)], h3, h1, fun z hz => ?_⟩
         rcases Aw0 hn hz with q | rfl
         . exact hall z q
         . simp only [numBad, Bool.or_eq_false_iff, decide_eq_false_iff_not]; exact ⟨g4, g5⟩
   . simp only [RT, Q0, Q1, Q2, Q3, Q4, Q5, Q6, Q7, Q8, h1]
     refine .inl ⟨rfl, fun n hn => hall n ?_⟩
     rw [List.take_of_length_le (by simp only [M.nums, List.length_cons, List.length_nil]; omega)]; exact hn
 rintro z e B hz ⟨rfl, h1, ⟨rfl, hall⟩ | ⟨rfl, h2, hc⟩⟩
 rotate_left
 . simp only [RT, Q0, Q1, Q2, Q3, Q4, Q5, Q6, Q7, Q8, h2]
   exact ⟨by rw [hc], fAll⟩
 have hn : ¬ (x.nums.any numBad = true) := fun q => by
  obtain ⟨n, hn, hb⟩ := List.any_eq_true.1 q
  rw [hall n hn] at hb; simp at hb
 have c2 : x.ids.length > 64 ∨ x.list.length > 64 ∨ x.data.length + lens x.list > 131072 -> checkM x = 2 := fun q => by
  unfold checkM; rw [if_neg hk, if_neg hn, if_pos q]
 have c0 : ¬ (x.ids.length > 64 ∨ x.list.length > 64 ∨ x.data.length + lens x.list > 131072) -> checkM x = 0 := fun q => by
  unfold checkM; rw [if_neg hk, if_neg hn, if_neg q]
 have dlen := fun B => h.data.len (P := Try.prog) Try.underlying44 B
 have ilen := fun B => h.ids.len (P := Try.prog) Try.underlying36 B
 have llen := fun B => h.list.len (P := Try.prog) Try.underlying22 B
 simp only [RT, Q0, Q1, Q2, Q3, Q4, Q5, Q6, Q7, Q8, h1, ld, fa, ilen]
 refine Ab8 (fun g1 => ?_) (fun g1 => ?_)
 . simp only [RT, Q0, Q1, Q2, Q3, Q4, Q5, Q6, Q7, Q8, g1]
   exact ⟨by rw [c2 (.inl (by omega))], fAll⟩
 simp only [RT, Q0, Q1, Q2, Q3, Q4, Q5, Q6, Q7, Q8, h1, ld, fa, g1, llen]
 refine Aa1 (fun g2 => ?_) (fun g2 => ?_)
 . simp only [RT, Q0, Q1, Q2, Q3, Q4, Q5, Q6, Q7, Q8]
   exact ⟨by rw [c2 (.inr (.inl (by omega)))], fAll⟩
 simp only [RT, Q0, Q1, Q2, Q3, Q4, Q5, Q6, Q7, Q8, h1, ld, fa, dlen]
 rw [Ac6 (by omega) (by omega)]
 refine Aa2 (fun n e C => C = B /\ e.get 1 = .ptr A.blk.length 0 /\ ∃ (i : Nat) (left : Int), n = x.list.length - i /\ i <= x.list.length /\ e.get 6 = .int .i64 i /\ e.get 5 = .int .i64 left /\ left = 131072 - ((x.data.length + lens (x.list.take i) : Nat) : Int) /\ -9223372036854775807 <= left)
  (fun z e C => C = B /\ Is z (.exit 2) /\ ∃ left : Int, e.get 5 = .int .i64 left /\ checkM x = if left < 0 then 2 else 0)
  ⟨_, rfl, h1, 0, _, rfl, by simp, rfl, rfl, by simp [lens, sumOf], by omega⟩ ?_ ?_
 . clear h1
   rintro n e C ⟨rfl, h1, i, left, rfl, hi, h6, h5, hle, hlo⟩
   have hle2 := Ak3 x.list i
   simp only [RT, Q0, Q1, Q2, Q3, Q4, Q5, Q6, Q7, Q8, h1, h6, ld, fa, llen]
   refine Ab8 (fun g4 => ?_) (fun g4 => ?_)
   . simp only [RT, Q0, Q1, Q2, Q3, Q4, Q5, Q6, Q7, Q8, g4, h5]
     refine Aa1 (fun g5 => ?_) (fun g5 => ?_)
     . obtain ⟨y, hy⟩ := Ad0 (l := x.list) (i := i) (by omega)
       obtain ⟨b, o, c, q1, q2, q3⟩ := h.list.at (P := Try.prog) (k := .i64) hm2 Try.underlying22 A28 A66 hy
       rw [AV4] at q3
       have q4 := fun B => q3.len (P := Try.prog) Try.underlying44 B
       have hyl := hb y (List.mem_of_getElem? hy)
       have hs := AB6 hy
       simp only [RT, Q0, Q1, Q2, Q3, Q4, Q5, Q6, Q7, Q8, h5, h1, h6, ld, fa, q1, q2, q4]
       rw [Af3 (by omega), Ac6 (by omega) (by omega)]
       exact ⟨x.list.length - (i + 1), by omega, i + 1, left - y.length, rfl, by omega, rfl, rfl, by omega, by omega⟩
     . simp only [RT, Q0, Q1, Q2, Q3, Q4, Q5, Q6, Q7, Q8]
       refine ⟨rfl, left, h5, ?_⟩
       rw [if_pos (by omega), c2 (.inr (.inr (by omega)))]
   . simp only [RT, Q0, Q1, Q2, Q3, Q4, Q5, Q6, Q7, Q8, g4]
     refine ⟨rfl, left, h5, ?_⟩
     have : i = x.list.length := by omega
     subst this
     rw [List.take_of_length_le (Nat.le_refl _)] at hle
     split
     . rw [c2 (.inr (.inr (by omega)))]
     . rw [c0 (by omega)]
 . rintro z e C hz ⟨rfl, rfl, left, h5, hc⟩
   simp only [RT, Q0, Q1, Q2, Q3, Q4, Q5, Q6, Q7, Q8, h5]
   refine Aa1 (fun g5 => ?_) (fun g5 => ?_)
   . simp only [RT, Q0, Q1, Q2, Q3, Q4, Q5, Q6, Q7, Q8]
     exact ⟨by rw [hc, if_pos g5], fAll⟩
   . simp only [RT, Q0, Q1, Q2, Q3, Q4, Q5, Q6, Q7, Q8]
     exact ⟨by rw [hc, if_neg g5], fAll⟩
end Go.Sv.Try
namespace Go.Sv.Try
open Go Go.Proofs
set_option maxRecDepth 10000 in
set_option maxHeartbeats 8000000 in
theorem AX3 {A : AS} {n : Nat} (hw : WF A) (hn : n <= 1099511627776) :
 ∃ w A', EvF Try.prog HH 112 [.int .i64 n] A w A' /\ Own A.blk.length A' w (digits n).length 1 (bc (digits n)) /\ Fr S0 A A' := by
 refine Aa6 rfl Try.func112 (by unfold Try.f112; rfl) Try.ntmps112 (by unfold Try.f112; rfl) (by simp) ?_
 simp only [RT, Q0, Q1, Q2, Q3, Q4, Q5, Q6, Q7, Q8]
 refine AB5 (fun k e B => Fr S0 A B /\ ∃ (j : Nat) (s : Bts) (ov : V), k = j /\ j <= n /\ e.get 0 = .int .i64 j /\ e.get 3 = ov /\ digits j ++ s = digits n /\ Own A.blk.length B ov s.length 1 (bc s))
  ⟨_, .refl _ A, n, [], .snil, rfl, by omega, rfl, rfl, by simp, .nil _ _ _⟩ ?_
 rintro k e B ⟨hf, j, s, ov, rfl, hj, h0, h3, hs, hown⟩
 have hsl : s.length <= 6 := by
  have h1 := Aq3 n 6 (by omega)
  rw [<- hs, List.length_append] at h1; omega
 simp only [RT, Q0, Q1, Q2, Q3, Q4, Q5, Q6, Q7, Q8, h0]
 refine Aa1 (fun g => ?_) (fun g => ?_)
 . have hne : k ≠ 0 := by omega
   simp only [RT, Q0, Q1, Q2, Q3, Q4, Q5, Q6, Q7, Q8, h0, h3, BO3, AW0, BP1]
   have o1 := Own.new (n := 1) (sz := 1) (cs := [.int .u8 ((UInt8.ofNat k).toNat : Int)]) (hf.wf hw) hf.len rfl rfl
   have q1 := Fr.pushArr B [.int .u8 ((UInt8.ofNat k).toNat : Int)]
   generalize B.push ⟨[.int .u8 ((UInt8.ofNat k).toNat : Int)], .arr B.blk.length 0⟩ = B1 at *
   obtain ⟨v', B2, p1, p2, p3⟩ := o1.app Bt2 (q1.wf (hf.wf hw)) (by have := hf.len; have := q1.len; omega) ((hown.fr0 q1).src Try.underlying44) (by rw [Aa5, Nat.mul_one]) (Ae0 s) (by omega) (by omega)
   have hsh : evShift .shr .i64 (k : Int) 8 = some (.int .i64 ((k / 256 : Nat) : Int)) := At1 k 8 (by decide)
   simp only [RT, Q0, Q1, Q2, Q3, Q4, Q5, Q6, Q7, Q8, p1, h0, hsh]
   refine ⟨k / 256, by omega, (hf.then0 q1).fams p3, k / 256, UInt8.ofNat k :: s, v', rfl, by omega, rfl, rfl, ?_, p2.cast (by simp; omega) rfl⟩
   rw [<- hs, Ae8 hne, List.append_assoc]; rfl
 . have : k = 0 := by omega
   subst this
   simp only [RT, Q0, Q1, Q2, Q3, Q4, Q5, Q6, Q7, Q8, h3]
   rw [Ac2, List.nil_append] at hs
   subst hs
   exact ⟨hown, hf⟩
set_option maxRecDepth 10000 in
set_option maxHeartbeats 8000000 in
theorem A34 {m : Hp} {A : AS} {v : V} {b : Bts} (hw : WF A) (hm : m.on A) (h : Slc eU8 m v b) (hb : b.length <= 1000000000000) :
 ∃ w A', EvF Try.prog HH 94 [v] A w A' /\ Own A.blk.length A' w (runB b).length 1 (bc (runB b)) /\ Fr S0 A A' := by
 refine Aa6 rfl Try.func94 (by unfold Try.f94; rfl) Try.ntmps94 (by unfold Try.f94; rfl) (by simp) ?_
 have hlen := fun B => h.len (P := Try.prog) Try.underlying44 B
 have h16 : evShift .shr .i64 (b.length : Int) 16 = some (.int .i64 ((b.length / 65536 : Nat) : Int)) := At1 b.length 16 (by decide)
 have h8 : evShift .shr .i64 (b.length : Int) 8 = some (.int .i64 ((b.length / 256 : Nat) : Int)) := At1 b.length 8 (by decide)
 simp only [RT, Q0, Q1, Q2, Q3, Q4, Q5, Q6, Q7, Q8, hlen, h16, h8, BO3, AW0, BY9]
 have o1 := Own.new (N := A.blk.length) (n := 3) (sz := 1) (cs := [.int .u8 ((UInt8.ofNat (b.length / 65536)).toNat : Int), .int .u8 ((UInt8.ofNat (b.length / 256)).toNat : Int), .int .u8 ((UInt8.ofNat b.length).toNat : Int)]) hw (Nat.le_refl _) rfl rfl
 have q1 := Fr.pushArr A [.int .u8 ((UInt8.ofNat (b.length / 65536)).toNat : Int), .int .u8 ((UInt8.ofNat (b.length / 256)).toNat : Int), .int .u8 ((UInt8.ofNat b.length).toNat : Int)]
 generalize A.push ⟨[.int .u8 ((UInt8.ofNat (b.length / 65536)).toNat : Int), .int .u8 ((UInt8.ofNat (b.length / 256)).toNat : Int), .int .u8 ((UInt8.ofNat b.length).toNat : Int)], .arr A.blk.length 0⟩ = B1 at *
 obtain ⟨v', B2, p1, p2, p3⟩ := o1.app Bt2 (q1.wf hw) q1.len (Av9 Try.underlying44 h (hm.fr0 q1)) (by simp) (Ae0 b) (by omega) (by omega)
 simp only [RT, Q0, Q1, Q2, Q3, Q4, Q5, Q6, Q7, Q8, p1]
 exact ⟨p2.cast (by rw [An4]; omega) rfl, q1.fams p3⟩
end Go.Sv.Try
namespace Go.Sv.Try
open Go Go.Proofs
def argF (B : AS) (args : List V) (f : Nat × Bts) : Prop := ∃ (dv : V) (m : Hp), args = [.agg [.int .u8 (UInt8.ofNat f.1).toNat, dv]] /\ m.on B /\ Slc eU8 m dv f.2 /\ f.2.length <= 1000000
theorem Bk4 (a : Int) : evBuild Try.prog 172 [(0, .int .u8 a), (1, .snil)] = some (.agg [.int .u8 a, .snil]) := by kernel_rfl
theorem Bb4 (a : Int) (b o n z : Nat) : evBuild Try.prog 172 [(0, .int .u8 a), (1, .sl b o n z)] = some (.agg [.int .u8 a, .sl b o n z]) := by kernel_rfl
theorem BO4 (a : Int) {v : V} (h : v = .snil ∨ ∃ b o n z, v = .sl b o n z) : evBuild Try.prog 172 [(0, .int .u8 a), (1, v)] = some (.agg [.int .u8 a, v]) := by
 rcases h with rfl | ⟨b, o, n, z, rfl⟩
 . exact Bk4 a
 . exact Bb4 a b o n z
theorem BD6 : evBuild Try.prog 32 [] = some (.agg (bc zero32)) := by kernel_rfl
theorem eqI {l r : Bts} (hl : l.length = 32) (hr : r.length = 32) : evEq Try.prog 32 (.agg (bc l)) (.agg (bc r)) = some (decide (l = r)) :=
 A62 (n := 32) (by kernel_rfl) AW4 (by kernel_rfl) hl hr
theorem zcI : (zeroT Try.prog 32).bind V.cells = some (bc zero32) := by kernel_rfl
theorem AX4 {x : M} (h : OkM x) (hid : x.id.length = 32) (hids : ∀ b ∈ x.ids, b.length = 32) : ∀ b ∈ P9 x, b.length <= 200000 := by
 have hs := h.size
 have hd : ∀ n ∈ x.nums, (digits n.toNat).length <= 6 := fun n hn => Aq3 _ 6 (by have := h.nums n hn; omega)
 simp only [M.nums, List.mem_cons, List.mem_nil_iff, or_false, forall_eq_or_imp, forall_eq] at hd
 obtain ⟨d1, d2, d3, d4, d5⟩ := hd
 have hf := Ak4 x.ids hids
 have hl := Af4 x.list
 have h1 := h.ids; have h2 := h.list
 intro b hb
 simp only [P9, List.mem_cons, List.mem_nil_iff, or_false] at hb
 rcases hb with rfl | rfl | rfl | rfl | rfl | rfl | rfl | rfl | rfl
 . omega
 . omega
 . omega
 . omega
 . omega
 . split
   . simp
   . omega
 . omega
 . omega
 . omega
theorem AX5 {m : Hp} {v : V} {l : List Bts} (h : Slc eId m v l) : ∀ b ∈ l, b.length = 32 := by
 intro b hb
 obtain ⟨i, hi⟩ := List.mem_iff_getElem?.1 hb
 obtain ⟨cs, h1, h2⟩ := h.get hi
 exact h2
def RJ (S : Loc -> Prop) (A : AS) (lo bx : Nat) (J D : Nat -> AS -> Prop) (x : M) (j : Nat) (z : Ex) (e : Env) (B : AS) : Prop :=
 Fr S A B /\ ((z = .normal /\ e.get 0 = .yield lo /\ e.get 1 = .ptr bx 0 /\ J (optAll 1 ((P9 x).take j)).length B) ∨ (z = .ret /\ ∃ i, i < (fieldList x).length /\ D i B))
theorem RJ.ok {S : Loc -> Prop} {A : AS} {lo bx : Nat} {J D : Nat -> AS -> Prop} {x : M} {j : Nat} {e : Env} {B : AS} (h1 : Fr S A B) (h2 : e.get 0 = .yield lo) (h3 : e.get 1 = .ptr bx 0) (h4 : J (optAll 1 ((P9 x).take j)).length B) : RJ S A lo bx J D x j .normal e B := ⟨h1, .inl ⟨rfl, h2, h3, h4⟩⟩
theorem RJ.stop {S : Loc -> Prop} {A : AS} {lo bx : Nat} {J D : Nat -> AS -> Prop} {x : M} {j : Nat} {e : Env} {B : AS} (h1 : Fr S A B) (h2 : ∃ i, i < (fieldList x).length /\ D i B) : RJ S A lo bx J D x j .ret e B := ⟨h1, .inr ⟨rfl, h2⟩⟩
set_option maxRecDepth 10000 in
set_option maxHeartbeats 16000000 in
theorem AQ5 {m : Hp} {A : AS} {x : M} {dv iv lv : V} {bx : Nat} {S : Loc -> Prop} (hw : WF A) (hm : m.on A) (hS : ∀ b, S (.row b) -> m b = none /\ b ≠ bx) (hb : A.blk[bx]? = some ⟨mc x dv iv lv, .var⟩) (h : MsgIn m x dv iv lv) (hok : OkM x) :
 Goes Try.prog HH 111 [] [.ptr bx 0] A S argF (fieldList x) := by
 intro lo J D hJ hD hstep hJ0
 refine Aa6 rfl Try.func111 (by unfold Try.f111; rfl) Try.ntmps111 (by unfold Try.f111; rfl) (by simp) ?_
 have hids := AX5 h.ids
 have hsz := AX4 hok h.id hids
 have hnum := hok.nums
 have fa := faM bx
 have hrow : ∀ {B}, Fr S A B -> B.blk[bx]? = some ⟨mc x dv iv lv, .var⟩ := fun q => q.row _ _ hb fun w => (hS _ w).2 rfl
 have hmB : ∀ {B}, Fr S A B -> m.on B := fun q => hm.fr q fun b w => (hS b w).1
 have ld : ∀ {B}, Fr S A B -> _ := fun {B} (q : Fr S A B) => ldM (hrow q) h.id
 have yieldAt : ∀ {j : Nat} {b : Bts} {dv : V} {B : AS} {m' : Hp}, (P9 x)[j]? = some b -> b ≠ [] -> J (optAll 1 ((P9 x).take j)).length B -> Fr S A B -> m'.on B -> Slc eU8 m' dv b ->
  ∃ bb B', EvY Try.prog HH lo [.agg [.int .u8 (UInt8.ofNat (1 + j)).toNat, dv]] B (.bool bb) B' /\ Fr S A B' /\ (bb = true -> J (optAll 1 ((P9 x).take (j + 1))).length B') /\ (bb = false -> ∃ i, i < (fieldList x).length /\ D i B') := by
  intro j b dv B m' h1 h2 h3 h4 h5 h6
  have hat := BD8 h1 h2 1
  obtain ⟨bb, B', k1, k2, k3, k4⟩ := hstep _ _ B _ hat h3 h4 ⟨dv, m', rfl, h5, h6, by have := hsz b (List.mem_of_getElem? h1); show b.length <= _; omega⟩
  refine ⟨bb, B', k1, h4.thn k2, fun q => ?_, fun q => ⟨_, (List.getElem?_eq_some_iff.1 hat).1, k4 q⟩⟩
  rw [AA4 h1, opt1, if_neg h2, List.length_append]
  exact k3 q
 have skipAt : ∀ {j : Nat} {b : Bts} {B : AS}, (P9 x)[j]? = some b -> b = [] -> J (optAll 1 ((P9 x).take j)).length B -> J (optAll 1 ((P9 x).take (j + 1))).length B := by
  intro j b B h1 h2 h3
  rw [AA4 h1, opt1, if_pos h2, List.append_nil]; exact h3
 have num9 : ∀ {j : Nat} {n : Int}, x.nums[j]? = some n -> (P9 x)[j]? = some (digits n.toNat) := by
  intro j n hn
  match j, hn with
  | 0, hn => cases hn; rfl
  | 1, hn => cases hn; rfl
  | 2, hn => cases hn; rfl
  | 3, hn => cases hn; rfl
  | 4, hn => cases hn; rfl
 have stop : ∀ {B : AS} {e : Env}, Fr S A B -> (∃ i, i < (fieldList x).length /\ D i B) -> Fr S A B /\ (J (fieldList x).length B ∨ ∃ i, i < (fieldList x).length /\ D i B) := fun q z => ⟨q, .inr z⟩
 simp only [RT, Q0, Q1, Q2, Q3, Q4, Q5, Q6, Q7, Q8, ld (.refl S A), fa, BW8]
 refine Aa2 (fun n e B => Fr S A B /\ e.get 0 = .yield lo /\ e.get 1 = .ptr bx 0 /\ ∃ i : Nat, n = 5 - i /\ i <= 5 /\ e.get 22 = .int .i64 i /\ e.get 21 = .agg (x.nums.map (.int .i64 ·)) /\ J (optAll 1 ((P9 x).take i)).length B)
  (fun z e B => Fr S A B /\ ((Is z (.exit 0) /\ e.get 0 = .yield lo /\ e.get 1 = .ptr bx 0 /\ J (optAll 1 ((P9 x).take 5)).length B) ∨ (Is z .ret /\ ∃ i, i < (fieldList x).length /\ D i B)))
  ⟨_, .refl S A, rfl, rfl, 0, rfl, by simp, rfl, rfl, by simpa [optAll] using hJ0⟩ ?_ ?_
 . rintro n e B ⟨hf, h0, h1, i, rfl, hi, h22, h21, hj⟩
   simp only [RT, Q0, Q1, Q2, Q3, Q4, Q5, Q6, Q7, Q8, h22]
   refine Aa1 (fun g1 => ?_) (fun g1 => ?_)
   . obtain ⟨n, hn⟩ := Ad0 (l := x.nums) (i := i) (by simp only [M.nums, List.length_cons, List.length_nil]; omega)
     have hat := Bu9 (P := Try.prog) (t := 203) (k := .i64) (cs := x.nums.map (.int .i64 ·)) (i := i) Try.underlying203 sz3 ag3 (by omega)
     rw [List.getElem?_map, hn, Option.map_some] at hat
     have hnr := hnum n (List.mem_of_getElem? hn)
     obtain ⟨n, rfl⟩ := Int.eq_ofNat_of_zero_le hnr.1
     have h9 := num9 hn
     rw [Int.toNat_natCast] at h9
     simp only [RT, Q0, Q1, Q2, Q3, Q4, Q5, Q6, Q7, Q8, h22, h21, hat]
     refine Ab8 (fun g2 => ?_) (fun g2 => ?_)
     . simp only [RT, Q0, Q1, Q2, Q3, Q4, Q5, Q6, Q7, Q8, g2, h0]
       have hp : IntKind.i64.wrap (1 + (i : Int)) = ((1 + i : Nat) : Int) := by rw [AE0 (by omega) (by omega)]; omega
       rw [hp]
       simp only [RT, Q0, Q1, Q2, Q3, Q4, Q5, Q6, Q7, Q8, g2, BO3, AW0]
       obtain ⟨w, B1, k1, k2, k3⟩ := AX3 (A := B) (n := n) (hf.wf hw) (by omega)
       refine Aa0 k1 ?_
       obtain ⟨m', q1, q2, q3⟩ := k2.bts
       simp only [RT, Q0, Q1, Q2, Q3, Q4, Q5, Q6, Q7, Q8, g2, BO4 _ k2.form, h0]
       obtain ⟨bb, B2, y1, y2, y3, y4⟩ := yieldAt h9 (fun q => by rw [Aq2] at q; omega) (hJ _ _ _ hj k3) (hf.then0 k3) q1 q3
       refine ⟨_, B2, y1, ?_⟩
       simp only [RT, Q0, Q1, Q2, Q3, Q4, Q5, Q6, Q7, Q8, g2]
       cases bb with
       | true =>
        simp only [RT, Q0, Q1, Q2, Q3, Q4, Q5, Q6, Q7, Q8, g2, h22]
        exact ⟨5 - (i + 1), by omega, y2, h0, h1, i + 1, rfl, by omega, by rw [Af3 (by omega)], h21, y3 rfl⟩
       | false =>
        simp only [RT, Q0, Q1, Q2, Q3, Q4, Q5, Q6, Q7, Q8, g2]
        exact ⟨y2, .inr ⟨rfl, y4 rfl⟩⟩
     . have hz : n = 0 := by omega
       subst hz
       simp only [RT, Q0, Q1, Q2, Q3, Q4, Q5, Q6, Q7, Q8, g2, h22]
       exact ⟨5 - (i + 1), by omega, hf, h0, h1, i + 1, rfl, by omega, by rw [Af3 (by omega)], h21, skipAt h9 Ac2 hj⟩
   . have : i = 5 := by omega
     subst this
     simp only [RT, Q0, Q1, Q2, Q3, Q4, Q5, Q6, Q7, Q8]
     exact ⟨hf, .inl ⟨rfl, h0, h1, hj⟩⟩
 rintro z e B hz ⟨hf, ⟨rfl, h0, h1, hj⟩ | ⟨rfl, hd⟩⟩
 rotate_left
 . simp only [RT, Q0, Q1, Q2, Q3, Q4, Q5, Q6, Q7, Q8]
   exact ⟨hf, .inr hd⟩
 rw [Ah5, if_pos rfl]
 rw [AO0]
 refine AF6 (RJ S A lo bx J D x 6) ?_ ?_
 . have hz32 : zero32.length = 32 := rfl
   simp only [RT, Q0, Q1, Q2, Q3, Q4, Q5, Q6, Q7, Q8, h1, fa, ld hf, BD6, eqI h.id hz32]
   by_cases hi : x.id = zero32
   . simp only [RT, Q0, Q1, Q2, Q3, Q4, Q5, Q6, Q7, Q8, hi, h0]
     exact RJ.ok hf h0 h1 (skipAt (j := 5) (b := []) (by simp [P9, hi]) rfl hj)
   . have h9 : (P9 x)[5]? = some x.id := by simp [P9, hi]
     have hsl := Ap9 (P := Try.prog) (t := 32) (b := bx) (o := 6) (z := 0) Try.underlying32 sz5 (hrow hf) (by rw [Ab5 h.id]; decide)
     obtain ⟨q1, q2⟩ := BC6 (b := bx) (o := 6) (l := x.id) (hrow hf) (by rw [Ab5 h.id, h.id]; decide) (by
      rw [h.id]
      show (bc x.id ++ [dv, iv, lv]).take 32 = _
      rw [List.take_left' (by rw [Aa5, h.id])])
     rw [h.id] at q2
     simp only [RT, Q0, Q1, Q2, Q3, Q4, Q5, Q6, Q7, Q8, hi, h0, h1, fa, hsl, Bb4]
     obtain ⟨bb, B2, y1, y2, y3, y4⟩ := yieldAt h9 (fun q => by have := h.id; rw [q] at this; simp at this) hj hf q1 q2
     refine ⟨_, B2, y1, ?_⟩
     simp only [RT, Q0, Q1, Q2, Q3, Q4, Q5, Q6, Q7, Q8, hi]
     cases bb with
     | true =>
      simp only [RT, Q0, Q1, Q2, Q3, Q4, Q5, Q6, Q7, Q8, hi]
      exact RJ.ok y2 h0 h1 (y3 rfl)
     | false =>
      simp only [RT, Q0, Q1, Q2, Q3, Q4, Q5, Q6, Q7, Q8, hi]
      exact RJ.stop y2 (y4 rfl)
 rintro z e B ⟨hf, ⟨rfl, h0, h1, hj⟩ | ⟨rfl, hd⟩⟩
 rotate_left
 . simp only [RT, Q0, Q1, Q2, Q3, Q4, Q5, Q6, Q7, Q8]
   exact ⟨hf, .inr hd⟩
 rw [AO0]
 refine AF6 (RJ S A lo bx J D x 7) ?_ ?_
 . have dlen := fun B => h.data.len (P := Try.prog) Try.underlying44 B
   simp only [RT, Q0, Q1, Q2, Q3, Q4, Q5, Q6, Q7, Q8, h1, fa, ld hf, dlen]
   have h9 : (P9 x)[6]? = some x.data := rfl
   refine Ab8 (fun g => ?_) (fun g => ?_)
   . simp only [RT, Q0, Q1, Q2, Q3, Q4, Q5, Q6, Q7, Q8, g, h0, h1, fa, ld hf, BO4 _ h.data.form]
     obtain ⟨bb, B2, y1, y2, y3, y4⟩ := yieldAt h9 (fun q => by rw [q] at g; simp at g) hj hf (hmB hf) h.data
     refine ⟨_, B2, y1, ?_⟩
     simp only [RT, Q0, Q1, Q2, Q3, Q4, Q5, Q6, Q7, Q8, g]
     cases bb with
     | true =>
      simp only [RT, Q0, Q1, Q2, Q3, Q4, Q5, Q6, Q7, Q8, g]
      exact RJ.ok y2 h0 h1 (y3 rfl)
     | false =>
      simp only [RT, Q0, Q1, Q2, Q3, Q4, Q5, Q6, Q7, Q8, g]
      exact RJ.stop y2 (y4 rfl)
   . simp only [RT, Q0, Q1, Q2, Q3, Q4, Q5, Q6, Q7, Q8, g, h0]
     exact RJ.ok hf h0 h1 (skipAt h9 (List.eq_nil_of_length_eq_zero (by omega)) hj)
 clear h0 h1 hj hf
 rintro z e B ⟨hf, ⟨rfl, h0, h1, hj⟩ | ⟨rfl, hd⟩⟩
 rotate_left
 . simp only [RT, Q0, Q1, Q2, Q3, Q4, Q5, Q6, Q7, Q8]
   exact ⟨hf, .inr hd⟩
 have ilen := fun B => h.ids.len (P := Try.prog) Try.underlying36 B
 have llen := fun B => h.list.len (P := Try.prog) Try.underlying22 B
 have hflat : ∀ i, (x.ids.take i).flatten.length <= 2048 := fun i => by
  rw [Ak4 _ (fun b hb => hids b (List.mem_of_mem_take hb)), List.length_take]
  have := hok.ids; omega
 simp only [RT, Q0, Q1, Q2, Q3, Q4, Q5, Q6, Q7, Q8, h1, fa, ld hf, ilen]
 refine Aa2 (fun n e C => Fr S0 B C /\ e.get 0 = .yield lo /\ e.get 1 = .ptr bx 0 /\ e.get 6 = .snil /\ ∃ (i : Nat) (ov : V), n = x.ids.length - i /\ i <= x.ids.length /\ e.get 67 = .int .i64 i /\ e.get 65 = iv /\ e.get 66 = .int .i64 x.ids.length /\ e.get 5 = ov /\ Own B.blk.length C ov (x.ids.take i).flatten.length 1 (bc (x.ids.take i).flatten))
  (fun z e C => Fr S0 B C /\ Is z (.exit 2) /\ e.get 0 = .yield lo /\ e.get 1 = .ptr bx 0 /\ e.get 6 = .snil /\ ∃ ov, e.get 5 = ov /\ Own B.blk.length C ov x.ids.flatten.length 1 (bc x.ids.flatten))
  ⟨_, .refl _ B, h0, h1, rfl, 0, .snil, rfl, by simp, rfl, rfl, rfl, rfl, by simpa [bc] using Own.nil B.blk.length B 1⟩ ?_ ?_
 . rintro n e C ⟨hc, k0, k1, k6, i, ov, rfl, hi, h67, h65, h66, h5, hown⟩
   simp only [RT, Q0, Q1, Q2, Q3, Q4, Q5, Q6, Q7, Q8, h67, h66]
   refine Aa1 (fun g => ?_) (fun g => ?_)
   . obtain ⟨y, hy⟩ := Ad0 (l := x.ids) (i := i) (by omega)
     have hC : Fr S A C := hf.then0 hc
     obtain ⟨b, o, c, q1, q2, q3⟩ := h.ids.at (P := Try.prog) (k := .i64) (hmB hC) Try.underlying36 As0 AW4 hy
     obtain ⟨rfl, hyl⟩ := BX8.1 q3
     simp only [RT, Q0, Q1, Q2, Q3, Q4, Q5, Q6, Q7, Q8, h67, h65, q1, q2, zcI]
     obtain ⟨C1, s1, s2, s3, s4⟩ := Ag4 (P := Try.prog) C (z := bc zero32) (t := 32) (x := .agg (bc y)) (cs := bc y) rfl (by rw [Aa5, hyl]; exact As0) (by rw [Aa5, Aa5, hyl]; rfl) (Ae0 y)
     have hsl := Ap9 (P := Try.prog) (t := 32) (b := C.blk.length) (o := 0) (z := 0) Try.underlying32 sz5 s3 (by simp only [Aa5, hyl]; decide)
     have hfi := hflat i
     obtain ⟨v', C2, p1, p2, p3⟩ := (hown.fr0 s2).app Bt2 (s2.wf (hC.wf hw)) (by have := hc.len; have := s2.len; omega) (AO6 (P := Try.prog) (tx := 44) (n := 32) (sz := 1) Try.underlying44 s3 (by rw [Aa5, hyl])) (by rw [Aa5, hyl]) (Ae0 y) (by omega) (by omega)
     simp only [RT, Q0, Q1, Q2, Q3, Q4, Q5, Q6, Q7, Q8, s1, h5, hsl, p1, h67]
     refine ⟨x.ids.length - (i + 1), by omega, (hc.then0 s2).fams p3, k0, k1, k6, i + 1, v', rfl, by omega, by rw [Af3 (by have := hok.ids; omega)], h65, h66, rfl, p2.cast ?_ ?_⟩
     . rw [AP3 hy, List.length_append, hyl]
     . rw [AP3 hy, Bu8]
   . simp only [RT, Q0, Q1, Q2, Q3, Q4, Q5, Q6, Q7, Q8]
     rw [List.take_of_length_le (by omega)] at hown
     exact ⟨hc, rfl, k0, k1, k6, ov, h5, hown⟩
 rintro z e C hz ⟨hc, rfl, k0, k1, k6, ov, h5, hown⟩
 have hC : Fr S A C := hf.then0 hc
 replace hj := hJ _ _ _ hj hc
 clear h0 h1
 rw [Ah5, if_pos rfl, AO0]
 refine AF6 (fun z e B => RJ S A lo bx J D x 8 z e B /\ (z = .normal -> e.get 6 = .snil)) ?_ ?_
 . have olen := fun B => hown.len (P := Try.prog) Try.underlying44 B
   have h9 : (P9 x)[7]? = some x.ids.flatten := rfl
   simp only [RT, Q0, Q1, Q2, Q3, Q4, Q5, Q6, Q7, Q8, h5, olen]
   refine Ab8 (fun g => ?_) (fun g => ?_)
   . simp only [RT, Q0, Q1, Q2, Q3, Q4, Q5, Q6, Q7, Q8, g, k0, h5, BO4 _ hown.form]
     obtain ⟨m', q1, q2, q3⟩ := hown.bts
     obtain ⟨bb, B2, y1, y2, y3, y4⟩ := yieldAt h9 (fun q => by rw [q] at g; simp at g) hj hC q1 q3
     refine ⟨_, B2, y1, ?_⟩
     simp only [RT, Q0, Q1, Q2, Q3, Q4, Q5, Q6, Q7, Q8, g]
     cases bb with
     | true =>
      simp only [RT, Q0, Q1, Q2, Q3, Q4, Q5, Q6, Q7, Q8, g]
      exact ⟨RJ.ok y2 k0 k1 (y3 rfl), fun _ => k6⟩
     | false =>
      simp only [RT, Q0, Q1, Q2, Q3, Q4, Q5, Q6, Q7, Q8, g]
      exact ⟨RJ.stop y2 (y4 rfl), fun q => by simp at q⟩
   . simp only [RT, Q0, Q1, Q2, Q3, Q4, Q5, Q6, Q7, Q8, g]
     exact ⟨RJ.ok hC k0 k1 (skipAt h9 (List.eq_nil_of_length_eq_zero (by omega)) hj), fun _ => k6⟩
 clear hown h5 hj k6 k0 k1 hC hc hf
 rintro z e B ⟨⟨hf, ⟨rfl, h0, h1, hj⟩ | ⟨rfl, hd⟩⟩, h6⟩
 rotate_left
 . simp only [RT, Q0, Q1, Q2, Q3, Q4, Q5, Q6, Q7, Q8]
   exact ⟨hf, .inr hd⟩
 replace h6 := h6 rfl
 have hfl : ∀ i, ((x.list.take i).flatMap runB).length <= 131264 := fun i => by
  rw [Af4, List.length_take]
  have := hok.size; have := hok.list; have := Ak3 x.list i; omega
 simp only [RT, Q0, Q1, Q2, Q3, Q4, Q5, Q6, Q7, Q8, h1, fa, ld hf, llen]
 refine Aa2 (fun n e C => Fr S0 B C /\ e.get 0 = .yield lo /\ ∃ (i : Nat) (ov : V), n = x.list.length - i /\ i <= x.list.length /\ e.get 88 = .int .i64 i /\ e.get 86 = lv /\ e.get 87 = .int .i64 x.list.length /\ e.get 6 = ov /\ Own B.blk.length C ov ((x.list.take i).flatMap runB).length 1 (bc ((x.list.take i).flatMap runB)))
  (fun z e C => Fr S0 B C /\ Is z (.exit 4) /\ e.get 0 = .yield lo /\ ∃ ov, e.get 6 = ov /\ Own B.blk.length C ov (x.list.flatMap runB).length 1 (bc (x.list.flatMap runB)))
  ⟨_, .refl _ B, h0, 0, .snil, rfl, by simp, rfl, rfl, rfl, h6, by simpa [bc] using Own.nil B.blk.length B 1⟩ ?_ ?_
 . rintro n e C ⟨hc, k0, i, ov, rfl, hi, h88, h86, h87, h6, hown⟩
   simp only [RT, Q0, Q1, Q2, Q3, Q4, Q5, Q6, Q7, Q8, h88, h87]
   refine Aa1 (fun g => ?_) (fun g => ?_)
   . obtain ⟨y, hy⟩ := Ad0 (l := x.list) (i := i) (by omega)
     have hC : Fr S A C := hf.then0 hc
     obtain ⟨b, o, c, q1, q2, q3⟩ := h.list.at (P := Try.prog) (k := .i64) (hmB hC) Try.underlying22 A28 A66 hy
     rw [AV4] at q3
     have hs := AB6 hy
     have := Ak3 x.list (i + 1)
     have := hok.size
     have hyl : y.length <= 131072 := by omega
     simp only [RT, Q0, Q1, Q2, Q3, Q4, Q5, Q6, Q7, Q8, h88, h86, q1, q2, h6]
     obtain ⟨w, C1, r1, r2, r3⟩ := A34 (hC.wf hw) (hmB hC) q3 (by omega)
     refine Aa0 r1 ?_
     have hfi := hfl i
     have hrl := An4 y
     obtain ⟨v', C2, p1, p2, p3⟩ := (hown.fr0 r3).app Bt2 (r3.wf (hC.wf hw)) (by have := hc.len; have := r3.len; omega) (r2.src Try.underlying44) (by rw [Aa5, Nat.mul_one]) (Ae0 _) (by omega) (by omega)
     simp only [RT, Q0, Q1, Q2, Q3, Q4, Q5, Q6, Q7, Q8, p1, h88]
     refine ⟨x.list.length - (i + 1), by omega, (hc.then0 r3).fams p3, k0, i + 1, v', rfl, by omega, by rw [Af3 (by have := hok.list; omega)], h86, h87, rfl, p2.cast ?_ ?_⟩
     . rw [Ay1 hy, List.length_append]
     . rw [Ay1 hy, Bu8]
   . simp only [RT, Q0, Q1, Q2, Q3, Q4, Q5, Q6, Q7, Q8]
     rw [List.take_of_length_le (by omega)] at hown
     exact ⟨hc, rfl, k0, ov, h6, hown⟩
 rintro z e C hz ⟨hc, rfl, k0, ov, h6, hown⟩
 have hC : Fr S A C := hf.then0 hc
 replace hj := hJ _ _ _ hj hc
 have h9 : (P9 x)[8]? = some (x.list.flatMap runB) := rfl
 have hfin : optAll 1 ((P9 x).take 9) = fieldList x := Bv3 9 (by simp [P9])
 have olen := fun B => hown.len (P := Try.prog) Try.underlying44 B
 simp only [RT, Q0, Q1, Q2, Q3, Q4, Q5, Q6, Q7, Q8, h6, olen]
 refine Aa1 (fun g => ?_) (fun g => ?_)
 . simp only [RT, Q0, Q1, Q2, Q3, Q4, Q5, Q6, Q7, Q8, k0, h6, BO4 _ hown.form]
   obtain ⟨m', q1, q2, q3⟩ := hown.bts
   obtain ⟨bb, B2, y1, y2, y3, y4⟩ := yieldAt h9 (fun q => by rw [q] at g; simp at g) hj hC q1 q3
   refine ⟨_, B2, y1, ?_⟩
   simp only [RT, Q0, Q1, Q2, Q3, Q4, Q5, Q6, Q7, Q8]
   rw [hfin] at y3
   cases bb with
   | true => exact ⟨y2, .inl (y3 rfl)⟩
   | false => exact ⟨y2, .inr (y4 rfl)⟩
 . simp only [RT, Q0, Q1, Q2, Q3, Q4, Q5, Q6, Q7, Q8]
   have := skipAt h9 (List.eq_nil_of_length_eq_zero (by omega)) hj
   rw [hfin] at this
   exact ⟨hC, .inl this⟩
end Go.Sv.Try
namespace Go.Sv.Try
open Go Go.Proofs
structure Sized (x : M) : Prop where
 ids : x.ids.length <= 9223372036854775807
 data : x.data.length <= 9223372036854775807
 list : x.list.length <= 9223372036854775807
 each : ∀ b ∈ x.list, b.length <= 9223372036854775807
theorem BZ0 (b : Nat) : evFieldAddr Try.prog 172 (.ptr b 0) 0 = some (.ptr b 0) := by kernel_rfl
theorem BZ1 (b : Nat) : evFieldAddr Try.prog 172 (.ptr b 0) 1 = some (.ptr b 1) := by kernel_rfl
theorem Ak7 {l : List (Nat × Bts)} {i : Nat} {f : Nat × Bts} (h : l[i]? = some f) : (l.take (i + 1)).flatMap fieldB = (l.take i).flatMap fieldB ++ fieldB f := by
 rw [List.take_add_one, h]; simp
theorem AX6 {m : Hp} {A : AS} {x : M} {dv iv lv : V} :
 ∃ w A', EvF Try.prog HH 93 [.agg (mc x dv iv lv)] A w A' /\ w = .fn 111 [] [.ptr A.blk.length 0] /\ Fr S0 A A' /\ A'.blk[A.blk.length]? = some ⟨mc x dv iv lv, .var⟩ := by
 refine Aa6 rfl Try.func93 (by unfold Try.f93; rfl) Try.ntmps93 (by unfold Try.f93; rfl) (by simp) ?_
 simp only [RT, Q0, Q1, Q2, Q3, Q4, Q5, Q6, Q7, Q8]
 exact ⟨Fr.pushVar A _, Ab3 A _⟩
set_option maxRecDepth 10000 in
set_option maxHeartbeats 16000000 in
theorem AH5 {m : Hp} {A : AS} {x : M} {dv iv lv : V} (hw : WF A) (hm : m.on A) (h : MsgIn m x dv iv lv) (hz : Sized x) :
 ∃ w A', EvF Try.prog HH 71 [.agg (mc x dv iv lv)] A w A' /\ Fr S0 A A' /\ ∃ v, w = .tup [v, .int .i64 (checkM x)] /\ (checkM x ≠ 0 -> v = .snil) /\ (checkM x = 0 -> Own A.blk.length A' v (writeB x).length 1 (bc (writeB x))) := by
 refine Aa6 rfl Try.func71 (by unfold Try.f71; rfl) Try.ntmps71 (by unfold Try.f71; rfl) (by simp) ?_
 simp only [RT, Q0, Q1, Q2, Q3, Q4, Q5, Q6, Q7, Q8]
 obtain ⟨A1, e1, f1, r1, n1⟩ := Aa9 A (mc x dv iv lv)
 rw [<- e1]
 have ld := ldM r1 h.id
 simp only [RT, Q0, Q1, Q2, Q3, Q4, Q5, Q6, Q7, Q8, ld]
 obtain ⟨w, A2, k1, rfl, k2⟩ := AH4 (hm.fr0 f1) h hz.ids hz.data hz.list hz.each
 refine Aa0 k1 ?_
 simp only [RT, Q0, Q1, Q2, Q3, Q4, Q5, Q6, Q7, Q8]
 refine Aa1 (fun g => ?_) (fun g => ?_)
 . simp only [RT, Q0, Q1, Q2, Q3, Q4, Q5, Q6, Q7, Q8]
   exact ⟨f1.then0 k2, _, rfl, fun _ => rfl, fun q => absurd q g⟩
 have g0 : checkM x = 0 := by omega
 have hok := AG7 g0
 have hkind := hok.kind
 obtain ⟨kd, hkd⟩ := Int.eq_ofNat_of_zero_le (show 0 <= x.kind by omega)
 have f2 := f1.then0 k2
 have ld2 := ldM (k2.row0 r1) h.id
 have fa := faM A.blk.length
 simp only [RT, Q0, Q1, Q2, Q3, Q4, Q5, Q6, Q7, Q8, fa, ld2, BO3, hkd, AW0, BP1, BY2]
 have o1 := Own.new (N := A.blk.length) (n := 1) (sz := 1) (cs := [.int .u8 ((UInt8.ofNat kd).toNat : Int)]) (f2.wf hw) f2.len rfl rfl
 have q1 := Fr.pushArr A2 [.int .u8 ((UInt8.ofNat kd).toNat : Int)]
 generalize A2.push ⟨[.int .u8 ((UInt8.ofNat kd).toNat : Int)], .arr A2.blk.length 0⟩ = A3 at *
 obtain ⟨A4, s1, s2, s3, s4⟩ := Ag4 (P := Try.prog) A3 (z := [.snil]) (t := 44) (x := .sl A2.blk.length 0 1 1) (cs := [.sl A2.blk.length 0 1 1]) rfl A28 rfl rfl
 have f4 := (f2.then0 q1).then0 s2
 have ld4 := ldM ((q1.then0 s2).row0 (k2.row0 r1)) h.id
 simp only [RT, Q0, Q1, Q2, Q3, Q4, Q5, Q6, Q7, Q8, s1, ld4]
 obtain ⟨w, A5, p1, rfl, p2, p3⟩ := AX6 (m := m) (A := A4) (x := x) (dv := dv) (iv := iv) (lv := lv)
 refine Aa0 p1 ?_
 have f5 := f4.then0 p2
 have l3 : A.blk.length <= A3.blk.length := (f2.then0 q1).len
 have hmA5 := hm.fr0 f5
 have r5 := p2.row0 s3
 have l5 := Ac9 s3
 have hb5 : m A3.blk.length = none := hm.fresh l3
 have ldb : ∀ {B : AS} {v : V}, B.blk[A3.blk.length]? = some ⟨[v], .var⟩ -> evLoad Try.prog 44 (.ptr A3.blk.length 0) B = some v := fun q => Al3 A66 q
 have hid32 := AX5 h.ids
 have hsz := AX4 hok h.id hid32
 have o5 := (o1.fr0 s2).fr0 p2
 have hwl : ∀ i, (((fieldList x).take i).flatMap fieldB).length <= 9 * 200010 := by
  have key : ∀ (l : List Bts) (t : Nat), (∀ b ∈ l, b.length <= 200000) -> ((optAll t l).flatMap fieldB).length <= l.length * 200010 := by
   intro l
   induction l with
   | nil => intro t _; simp [optAll]
   | cons b l ih =>
    intro t hl
    have h1 := ih (t + 1) (fun c hc => hl c (List.mem_cons_of_mem _ hc))
    have h2 := hl b (List.mem_cons_self)
    simp only [optAll, List.flatMap_append, List.length_append, List.length_cons, Nat.succ_mul, opt1]
    split
    . rw [List.flatMap_nil, List.length_nil]; omega
    . rw [List.flatMap_cons, List.flatMap_nil, List.append_nil]
      have : (fieldB (t, b)).length = b.length + 4 := by simp [fieldB, An4]
      omega
  intro i
  have h1 := key (P9 x) 1 hsz
  have h2 : (((fieldList x).take i).flatMap fieldB).length <= ((fieldList x).flatMap fieldB).length := by
   have := congrArg List.length (congrArg (List.flatMap fieldB) (List.take_append_drop i (fieldList x)))
   rw [List.flatMap_append, List.length_append] at this; omega
  have h3 : (P9 x).length = 9 := rfl
  rw [h3] at h1
  exact Nat.le_trans h2 h1
 simp only [RT, Q0, Q1, Q2, Q3, Q4, Q5, Q6, Q7, Q8]
 refine AK7 (S := fun l => l = .row A3.blk.length ∨ famsFrom A.blk.length l) (AR := argF) (xs := fieldList x)
  (fun i B => ∃ v, B.blk[A3.blk.length]? = some ⟨[v], .var⟩ /\ Own A.blk.length B v ((((fieldList x).take i).flatMap fieldB).length + 1) 1 (bc (UInt8.ofNat kd :: ((fieldList x).take i).flatMap fieldB)))
  (fun B => ∃ v, B.blk[A3.blk.length]? = some ⟨[v], .var⟩ /\ Own A.blk.length B v (writeB x).length 1 (bc (writeB x)))
  rfl (fun q => by rcases q with q | q <;> cases q) ?_ ⟨_, r5, by simpa [bc] using o5⟩ ?_ ?_ Try.func71 Try.ntmps71 (by simp) ?_ ?_ ?_
 . intro A0 hf0
   refine AQ5 (hf0.wf (f5.wf hw)) (hmA5.fr0 hf0) ?_ (hf0.row0 p3) h hok
   rintro b ((q | q) | q)
   . cases q; exact ⟨hb5, by omega⟩
   . exact q.elim
   . cases q
 . rintro i B C ⟨v, c1, c2⟩ hf
   exact ⟨v, hf.loop_row c1, c2.fr hf (fun b q => by cases q) (fun f q => by cases q)⟩
 . rintro B C ⟨v, c1, c2⟩ hf
   exact ⟨v, hf.loop_row c1, c2.fr hf (fun b q => by cases q) (fun f q => by cases q)⟩
 . rintro i f B args hi ⟨v, c1, c2⟩ hfB ⟨dv', m', rfl, d1, d2, d3⟩
   refine ⟨_, rfl, ?_⟩
   have hfAB : Fr S0 A B := f5.trans hfB (by
    rintro l ((rfl | q) | rfl)
    . exact .inr l3
    . cases l <;> first | exact .inr q | exact q.elim
    . exact .inr (f5.llen))
   simp only [RT, Q0, Q1, Q2, Q3, Q4, Q5, Q6, Q7, Q8, BV5]
   obtain ⟨B1, u1, u2, u3, u4⟩ := Ag4 (P := Try.prog) B (z := [.int .u8 0, .snil]) (t := 172) (x := .agg [.int .u8 (UInt8.ofNat f.1).toNat, dv']) (cs := [.int .u8 (UInt8.ofNat f.1).toNat, dv']) rfl BV4 rfl (by simp only [List.all_cons, AW5, d2.one, List.all_nil, Bool.and_self])
   simp only [RT, Q0, Q1, Q2, Q3, Q4, Q5, Q6, Q7, Q8, u1]
   refine ⟨rfl, u2.mono fun _ q => q.elim, fun B2 hB2 => ?_⟩
   have hl2 : Fr (· = .loop A5.loops.length) B1 B2 := hB2
   have c1 := hl2.loop_row (u2.row0 c1)
   have c2 : Own A.blk.length B2 v _ 1 _ := (c2.fr0 u2).fr hl2 (fun b q => by cases q) (fun f q => by cases q)
   have c3 := hl2.loop_row u3
   have d1 := (d1.fr0 u2).loop hl2
   have w2 : WF B2 := hl2.wf (u2.wf (hfAB.wf hw))
   have n2 : A.blk.length <= B2.blk.length := by have := hfAB.len; have := u2.len; have := hl2.len; omega
   have l5b := Ac9 c1
   have fa0 : evFieldAddr Try.prog 172 (.ptr B.blk.length 0) 0 = some (.ptr B.blk.length 0) := BZ0 _
   have fa1 : evFieldAddr Try.prog 172 (.ptr B.blk.length 0) 1 = some (.ptr B.blk.length 1) := BZ1 _
   have ld0 := Ab9 (P := Try.prog) ag5 c3 0
   have ld1 := Ab9 (P := Try.prog) A66 c3 1
   simp only [List.getElem?_cons_zero, List.getElem?_cons_succ] at ld0 ld1
   have hwi := hwl i
   obtain ⟨v1, B3, y1, y2, y3⟩ := c2.appNew (k := 1) (new := [.int .u8 ((UInt8.ofNat f.1).toNat : Int)]) Bt2 Try.underlying44 w2 n2 rfl rfl (by omega) (by omega)
   have q2 := Fr.pushArr B2 [.int .u8 ((UInt8.ofNat f.1).toNat : Int)]
   have ld1' := Ab9 (P := Try.prog) A66 (q2.row0 c3) 1
   simp only [List.getElem?_cons_zero, List.getElem?_cons_succ] at ld1'
   have c3' := y3.fam_row c3
   have ld2 := Ab9 (P := Try.prog) A66 c3' 1
   simp only [List.getElem?_cons_zero, List.getElem?_cons_succ] at ld2
   simp only [RT, Q0, Q1, Q2, Q3, Q4, Q5, Q6, Q7, Q8, BD2, ldb c1, fa0, fa1, ld0, ld1, BP1, ld1', y1, Aa4]
   refine ⟨Aa3 (ha := rfl) rfl ld2 rfl Aa4, ?_⟩
   obtain ⟨w, B4, z1, z2, z3⟩ := A34 (y3.wf w2) (d1.fams y3) d2 (by omega)
   refine Aa0 z1 ?_
   have hrl := An4 f.2
   obtain ⟨v2, B5, x1, x2, x3⟩ := (y2.fr0 z3).app Bt2 (z3.wf (y3.wf w2)) (by have := y3.len; have := z3.len; omega) (z2.src Try.underlying44) (by rw [Aa5, Nat.mul_one]) (Ae0 _) (by omega) (by omega)
   have c5 := x3.fam_row (z3.row0 (y3.fam_row c1))
   obtain ⟨B6, t1, t2, t3, t4⟩ := AV3 (P := Try.prog) (t := 44) (x := v2) c5 x2.cells1 A28 x2.one
   simp only [RT, Q0, Q1, Q2, Q3, Q4, Q5, Q6, Q7, Q8, x1, t1, Aa4]
   have inF : ∀ {X Y : AS}, Fr (famsFrom A.blk.length) X Y -> Fr (fun l => l = .row A3.blk.length ∨ famsFrom A.blk.length l) X Y := fun q => q.mono fun _ z => .inr z
   refine ⟨(((inF y3).then0 z3).thn (inF x3)).thn (t2.mono fun _ q => .inl q), .inl ⟨rfl, v2, t3, (x2.frRow t2 c5).cast ?_ ?_⟩⟩
   . rw [Ak7 hi, List.length_append]; simp [fieldB]; omega
   . rw [Ak7 hi]
     simp [bc, fieldB]
 . rintro B ⟨v, c1, c2⟩
   refine ⟨v, c1, c2.cast ?_ ?_⟩
   . rw [List.take_length]; simp [writeB]
   . rw [List.take_length]; simp [writeB, hkd]
 . rintro B ⟨v, c1, c2⟩ hf
   simp only [RT, Q0, Q1, Q2, Q3, Q4, Q5, Q6, Q7, Q8, ldb c1]
   refine ⟨f5.trans hf ?_, v, by rw [g0], fun q => absurd g0 q, fun _ => c2⟩
   rintro l (rfl | q)
   . exact .inr l3
   . cases l <;> first | exact .inr q | exact q.elim
end Go.Sv.Try
namespace Go.Sv.Try
open Go Go.Proofs
end Go.Sv.Try
namespace Go.Sv.Try
open Go Go.Proofs
theorem AC2 : ∀ (l : List Bts) (t : Nat), (∀ b ∈ l, b.length <= 200000) -> ((optAll t l).flatMap fieldB).length <= l.length * 200010
 | [], t, _ => by simp [optAll]
 | b :: l, t, hl => by
  have h1 := AC2 l (t + 1) (fun c hc => hl c (List.mem_cons_of_mem _ hc))
  have h2 := hl b (List.mem_cons_self)
  simp only [optAll, List.flatMap_append, List.length_append, List.length_cons, Nat.succ_mul, opt1]
  split
  . rw [List.flatMap_nil, List.length_nil]; omega
  . rw [List.flatMap_cons, List.flatMap_nil, List.append_nil]
    have : (fieldB (t, b)).length = b.length + 4 := by simp [fieldB, An4]
    omega
end Go.Sv.Try
namespace Go.Sv.Try
open Go Go.Proofs
theorem Reads.bytes (n : Nat) (hn : 0 < n) : Reads (eB n hn) (.arr n (.int .u8) 1) (fun _ => True) (fun _ => 1) := by
 intro A d cs h
 cases h with
 | @arr n sz e l vs hl hv hh =>
  obtain ⟨r, h1, h2⟩ := As9 (R := fun i (d : Dat) (x : UInt8) => cs[i]? = some (.int .u8 x.toNat)) l 0 fun i d q => by
   obtain ⟨x, q1, _⟩ := Reads.u8 A d _ (hh i d q)
   refine ⟨x, ?_⟩
   have q1 : (cs.drop (i * 1)).take 1 = [.int .u8 x.toNat] := q1
   rw [Nat.mul_one, List.take_one, List.head?_drop] at q1
   rw [Nat.zero_add]
   cases hc : cs[i]? with
   | none => rw [hc] at q1; simp at q1
   | some c => rw [hc] at q1; simpa using q1
  refine ⟨r, ⟨A58 (by rw [Aa5]; omega) fun i x hx => ?_, by omega⟩, trivial, by simp [Dat.bulk]⟩
  rw [Aw1] at hx
  cases hr : r[i]? with
  | none => rw [hr] at hx; simp at hx
  | some y =>
   rw [hr] at hx; simp at hx; subst hx
   have hi := (List.getElem?_eq_some_iff.1 hr).1
   have := h2 i l[i] y (List.getElem?_eq_getElem (by omega)) hr
   rwa [Nat.zero_add] at this
end Go.Sv.Try
namespace Go.Sv.Try
open Go Go.Proofs
theorem faR (b : Nat) : evFieldAddr Try.prog 178 (.ptr b 0) 0 = some (.ptr b 0) /\ evFieldAddr Try.prog 178 (.ptr b 0) 1 = some (.ptr b 1) := ⟨by kernel_rfl, by kernel_rfl⟩
theorem ldR {A : AS} {b : Nat} {rv : V} {bad : Int} {k : BK} (h : A.blk[b]? = some ⟨[rv, .int .i64 bad], k⟩) : evLoad Try.prog 44 (.ptr b 0) A = some rv /\ evLoad Try.prog 45 (.ptr b 1) A = some (.int .i64 bad) :=
 ⟨by rw [Ab9 A66 h]; rfl, by rw [Ab9 BY4 h]; rfl⟩
theorem AQ6 {A : AS} {b : Nat} {rv : V} {bad n : Int} (h : A.blk[b]? = some ⟨[rv, .int .i64 bad], .var⟩) : ∃ A', evStore Try.prog 45 (.ptr b 1) (.int .i64 n) A = some A' /\ Fr (· = .row b) A A' /\ A'.blk[b]? = some ⟨[rv, .int .i64 n], .var⟩ := by
 obtain ⟨A', h1, h2, h3, _⟩ := Ab7 (P := Try.prog) (t := 45) (o := 1) (x := .int .i64 n) h rfl BY3 (by simp) rfl
 exact ⟨A', h1, h2, h3⟩
theorem Bb5 {A : AS} {b : Nat} {rv w : V} {bad : Int} (h : A.blk[b]? = some ⟨[rv, .int .i64 bad], .var⟩) (hw : w.one = true) : ∃ A', evStore Try.prog 44 (.ptr b 0) w A = some A' /\ Fr (· = .row b) A A' /\ A'.blk[b]? = some ⟨[w, .int .i64 bad], .var⟩ := by
 obtain ⟨A', h1, h2, h3, _⟩ := Ab7 (P := Try.prog) (t := 44) (o := 0) (x := w) h (one_cells hw) A28 (by simp) (by simp [hw])
 exact ⟨A', h1, h2, h3⟩
theorem AX7 (u : UInt8) (A : AS) : cnv Try.prog 5 3 (some (.int .u8 (u.toNat : Int))) A = some (.val (.int .i64 (u.toNat : Int))) := by
 rw [At0 (by decide) Try.underlying5 Try.underlying3, BU9]
theorem Ap0 {m : Hp} {A : AS} {v : V} {l : Bts} (h : Slc eU8 m v l) (hm : m.on A) {i : Nat} {x : UInt8} (hx : l[i]? = some x) : ∃ b o, evIndexAddr Try.prog 44 v (.int .i64 (i : Int)) = some (.ptr b o) /\ evLoad Try.prog 5 (.ptr b o) A = some (.int .u8 x.toNat) := by
 obtain ⟨b, o, w, h1, h2, h3⟩ := h.at (P := Try.prog) (k := .i64) hm Try.underlying44 sz5 ag5 hx
 rw [BS4] at h3
 subst h3
 exact ⟨b, o, h1, h2⟩
set_option maxRecDepth 10000 in
set_option maxHeartbeats 8000000 in
theorem AQ7 {m : Hp} {A : AS} {br : Nat} {rv : V} {s : Bts} (hm : m.on A) (hb : m br = none) (hr : A.blk[br]? = some ⟨[rv, .int .i64 0], .var⟩) (h : Slc eU8 m rv s) (hs : s.length <= 9223372036854775807) :
 ∃ w A', EvF Try.prog HH 100 [.ptr br 0] A w A' /\ Fr (· = .row br) A A' /\ ((takeB s = none /\ w = .snil /\ A'.blk[br]? = some ⟨[rv, .int .i64 20], .var⟩) ∨
  ∃ x r rv', takeB s = some (x, r) /\ Slc eU8 m w x /\ A'.blk[br]? = some ⟨[rv', .int .i64 0], .var⟩ /\ Slc eU8 m rv' r) := by
 refine Aa6 rfl Try.func100 (by unfold Try.f100; rfl) Try.ntmps100 (by unfold Try.f100; rfl) (by simp) ?_
 have fa := faR br
 have ld := ldR hr
 have hlen := fun B => h.len (P := Try.prog) Try.underlying44 B
 obtain ⟨A1, s1, s2, s3⟩ := AQ6 (n := 20) hr
 have ld1 := ldR s3
 simp only [RT, Q0, Q1, Q2, Q3, Q4, Q5, Q6, Q7, Q8, fa, ld, hlen]
 refine Aa1 (fun g => ?_) (fun g => ?_)
 . have ht : takeB s = none := by
    match s, g with
    | [], _ => rfl
    | [a], _ => rfl
    | [a, b], _ => rfl
    | a :: b :: c :: q, g => simp at g; omega
   simp only [RT, Q0, Q1, Q2, Q3, Q4, Q5, Q6, Q7, Q8, fa, s1, ld1]
   exact ⟨s2, .inl ⟨ht, s3⟩⟩
 . match s, g, h, hs with
   | [], g, _, _ => simp at g
   | [a], g, _, _ => simp at g
   | [a, b], g, _, _ => simp at g
   | a :: b :: c :: q, g, h, hs =>
    clear g
    have ha := a.toNat_lt; have hbb := b.toNat_lt; have hc := c.toNat_lt
    obtain ⟨b0, o0, x0, y0⟩ := Ap0 h hm (i := 0) rfl
    obtain ⟨b1, o1, x1, y1⟩ := Ap0 h hm (i := 1) rfl
    obtain ⟨b2, o2, x2, y2⟩ := Ap0 h hm (i := 2) rfl
    have x0 : evIndexAddr Try.prog 44 rv (.int .i64 0) = some (.ptr b0 o0) := x0
    have x1 : evIndexAddr Try.prog 44 rv (.int .i64 1) = some (.ptr b1 o1) := x1
    have x2 : evIndexAddr Try.prog 44 rv (.int .i64 2) = some (.ptr b2 o2) := x2
    obtain ⟨n, hn⟩ : ∃ n, n = a.toNat * 65536 + b.toNat * 256 + c.toNat := ⟨_, rfl⟩
    have hnn : n < 16777216 := by omega
    have sh16 : evShift .shl .i64 (a.toNat : Int) 16 = some (.int .i64 ((a.toNat * 65536 : Nat) : Int)) := by
     rw [show (16 : Int) = ((16 : Nat) : Int) from rfl, A24 _ _ (by decide), Bi1 (by omega)]
    have sh8 : evShift .shl .i64 (b.toNat : Int) 8 = some (.int .i64 ((b.toNat * 256 : Nat) : Int)) := by
     rw [show (8 : Int) = ((8 : Nat) : Int) from rfl, A24 _ _ (by decide), Bi1 (by omega)]
    have or1 : evBits .or .i64 ((a.toNat * 65536 : Nat) : Int) ((b.toNat * 256 : Nat) : Int) = some (.int .i64 ((a.toNat * 65536 + b.toNat * 256 : Nat) : Int)) := by
     rw [Bi8 (by omega) (by omega)]
     have := Bi9 (n := a.toNat) (i := 16) (b := b.toNat * 256) (by omega)
     rw [show a.toNat * 65536 = a.toNat * 2 ^ 16 from rfl, this]
    have or2 : evBits .or .i64 ((a.toNat * 65536 + b.toNat * 256 : Nat) : Int) (c.toNat : Int) = some (.int .i64 (n : Int)) := by
     rw [hn, Bi8 (by omega) (by omega)]
     have := Bi9 (n := a.toNat * 256 + b.toNat) (i := 8) (b := c.toNat) (by omega)
     rw [show a.toNat * 65536 + b.toNat * 256 = (a.toNat * 256 + b.toNat) * 2 ^ 8 by omega, this]
    simp only [RT, Q0, Q1, Q2, Q3, Q4, Q5, Q6, Q7, Q8, fa, ld]
    rw [Bs5, Aa8 (by rfl)]
    simp only [RT, Q0, Q1, Q2, Q3, Q4, Q5, Q6, Q7, Q8, fa, ld, x0, x1, x2, y0, y1, y2, AX7, sh16, sh8, or1, or2, hlen]
    simp only [takeB, <- hn]
    have hw3 : IntKind.i64.wrap (((a :: b :: c :: q).length : Int) - 3) = (q.length : Int) := by
     rw [Ac6 (by omega) (by simp only [List.length_cons] at hs ⊢; omega)]; simp only [List.length_cons]; omega
    rw [hw3]
    refine Aa1 (fun g => ?_) (fun g => ?_)
    . simp only [RT, Q0, Q1, Q2, Q3, Q4, Q5, Q6, Q7, Q8, fa, s1]
      rw [if_pos (by omega)]
      simp only [true_and]
      exact ⟨s2, .inl s3⟩
    . have hw4 : IntKind.i64.wrap (3 + (n : Int)) = ((3 + n : Nat) : Int) := by rw [Ac6 (by omega) (by omega)]; omega
      have hql : 3 + n <= (a :: b :: c :: q).length := by simp only [List.length_cons]; omega
      obtain ⟨w, u1, u2⟩ := h.sub (P := Try.prog) (t := 44) (lo := 3) (hi := 3 + n) (kl := .i64) (kh := .i64) Try.underlying44 sz5 (by omega) hql A
      have u1 : evSlice Try.prog 44 rv (some (.int .i64 3)) (some (.int .i64 ((3 + n : Nat) : Int))) none A = some w := u1
      obtain ⟨w2, v1, v2⟩ := h.subFrom (P := Try.prog) (t := 44) (lo := 3 + n) (kl := .i64) Try.underlying44 sz5 hql A
      obtain ⟨A2, t1, t2, t3⟩ := Bb5 hr v2.one
      simp only [RT, Q0, Q1, Q2, Q3, Q4, Q5, Q6, Q7, Q8, fa, ld, hw4, u1, v1, t1]
      rw [if_neg (by omega)]
      have e1 : ((a :: b :: c :: q).take (3 + n)).drop 3 = q.take n := by rw [show 3 + n = n + 3 by omega]; rfl
      have e2 : (a :: b :: c :: q).drop (3 + n) = q.drop n := by rw [show 3 + n = n + 3 by omega]; rfl
      rw [e1] at u2; rw [e2] at v2
      exact ⟨t2, .inr ⟨_, _, w2, rfl, u2, t3, v2⟩⟩
set_option maxRecDepth 10000 in
set_option maxHeartbeats 8000000 in
theorem AQ8 {m : Hp} {A : AS} {br : Nat} {rv xv : V} {s : Bts} (hm : m.on A) (hb : m br = none) (hr : A.blk[br]? = some ⟨[rv, .int .i64 0], .var⟩) (h : Slc eU8 m xv s) (hs : s.length <= 16777215) (hne : s ≠ []) :
 ∃ w A', EvF Try.prog HH 99 [.ptr br 0, xv] A w A' /\ ((numOf s = none /\ Fr (· = .row br) A A' /\ A'.blk[br]? = some ⟨[rv, .int .i64 23], .var⟩ /\ ∃ n : Int, w = .int .i64 n) ∨
  ∃ n : Nat, numOf s = some n /\ w = .int .i64 n /\ A' = A) := by
 refine Aa6 rfl Try.func99 (by unfold Try.f99; rfl) Try.ntmps99 (by unfold Try.f99; rfl) (by simp) ?_
 have fa := faR br
 have hlen := fun B => h.len (P := Try.prog) Try.underlying44 B
 obtain ⟨A1, s1, s2, s3⟩ := AQ6 (n := 23) hr
 obtain ⟨z, hz⟩ := Ad0 (l := s) (i := 0) (by have : s.length ≠ 0 := fun q => hne (List.eq_nil_of_length_eq_zero q); omega)
 obtain ⟨b0, o0, x0, y0⟩ := Ap0 h hm hz
 have x0 : evIndexAddr Try.prog 44 xv (.int .i64 0) = some (.ptr b0 o0) := x0
 have hzt := z.toNat_lt
 simp only [RT, Q0, Q1, Q2, Q3, Q4, Q5, Q6, Q7, Q8, hlen]
 refine Aa2 (fun k e B => B = A /\ e.get 0 = .ptr br 0 /\ e.get 1 = xv /\ e.get 8 = xv /\ e.get 9 = .int .i64 s.length /\ ∃ i : Nat, k = s.length - i /\ i <= s.length /\ i <= 6 /\ (i = 0 ∨ z ≠ 0) /\ e.get 10 = .int .i64 i /\ e.get 5 = .int .i64 (valOf (s.take i) : Nat))
  (fun x e B => B = A /\ Is x (.exit 0) /\ e.get 0 = .ptr br 0 /\ e.get 1 = xv /\ ∃ n : Nat, e.get 5 = .int .i64 n /\ n < 281474976710656 /\ (z ≠ 0 -> s.length <= 6 -> n = valOf s))
  ⟨_, rfl, rfl, rfl, rfl, rfl, 0, rfl, by simp, by simp, .inl rfl, rfl, by simp [valOf, Env.get]⟩ ?_ ?_
 . rintro k e B ⟨rfl, h0, h1, h8, h9, i, rfl, hi, hi6, hzi, h10, h5⟩
   have hv := A30 (s.take i)
   have hv2 : valOf (s.take i) < 281474976710656 := Nat.lt_of_lt_of_le hv (by
    have : (256 : Nat) ^ (s.take i).length <= 256 ^ 6 := Nat.pow_le_pow_right (by decide) (by rw [List.length_take]; omega)
    omega)
   simp only [RT, Q0, Q1, Q2, Q3, Q4, Q5, Q6, Q7, Q8, h10, h9]
   refine Aa1 (fun g => ?_) (fun g => ?_)
   . obtain ⟨x, hx⟩ := Ad0 (l := s) (i := i) (by omega)
     obtain ⟨b1, o1, x1, y1⟩ := Ap0 h hm hx
     have hxt := x.toNat_lt
     simp only [RT, Q0, Q1, Q2, Q3, Q4, Q5, Q6, Q7, Q8, h10, h8, x1, y1]
     refine Ab8 (fun g1 => ?_) (fun g1 => ?_)
     . simp only [RT, Q0, Q1, Q2, Q3, Q4, Q5, Q6, Q7, Q8, g1, h0, h1]
       exact ⟨rfl, _, h5, hv2, fun _ _ => by omega⟩
     . simp only [RT, Q0, Q1, Q2, Q3, Q4, Q5, Q6, Q7, Q8, g1, h1, x0, y0]
       refine Aa1 (fun g2 => ?_) (fun g2 => ?_)
       . simp only [RT, Q0, Q1, Q2, Q3, Q4, Q5, Q6, Q7, Q8, h0, h1]
         refine ⟨rfl, _, h5, hv2, fun q => ?_⟩
         exact absurd (UInt8.toNat_inj.1 (by simpa using g2)) q
       . have hz0 : z ≠ 0 := fun q => g2 (by rw [q]; rfl)
         have hv3 : valOf (s.take i) < 1099511627776 := Nat.lt_of_lt_of_le hv (by
          have : (256 : Nat) ^ (s.take i).length <= 256 ^ 5 := Nat.pow_le_pow_right (by decide) (by rw [List.length_take]; omega)
          omega)
         have sh8 : evShift .shl .i64 ((valOf (s.take i) : Nat) : Int) 8 = some (.int .i64 ((valOf (s.take i) * 256 : Nat) : Int)) := by
          rw [show (8 : Int) = ((8 : Nat) : Int) from rfl, A24 _ _ (by decide), Bi1 (by omega)]
         have or1 : evBits .or .i64 ((valOf (s.take i) * 256 : Nat) : Int) (x.toNat : Int) = some (.int .i64 ((valOf (s.take (i + 1)) : Nat) : Int)) := by
          rw [Bi8 (by omega) (by omega), AG8 hx]
          have := Bi9 (n := valOf (s.take i)) (i := 8) (b := x.toNat) (by omega)
          rw [show valOf (s.take i) * 256 = valOf (s.take i) * 2 ^ 8 from rfl, this]
         simp only [RT, Q0, Q1, Q2, Q3, Q4, Q5, Q6, Q7, Q8, h5, sh8, AX7, or1, h10]
         exact ⟨s.length - (i + 1), by omega, h0, h1, h8, h9, i + 1, rfl, by omega, by omega, .inr hz0, by rw [Af3 (by omega)], rfl⟩
   . have : i = s.length := by omega
     subst this
     simp only [RT, Q0, Q1, Q2, Q3, Q4, Q5, Q6, Q7, Q8, h0, h1]
     exact ⟨rfl, _, h5, hv2, fun _ _ => by rw [List.take_length]⟩
 rintro x e B hx ⟨rfl, rfl, h0, h1, n, h5, hn, hval⟩
 have hl0 : ¬ ((s.length : Int) = 0) := by have : s.length ≠ 0 := fun q => hne (List.eq_nil_of_length_eq_zero q); omega
 simp only [RT, Q0, Q1, Q2, Q3, Q4, Q5, Q6, Q7, Q8, h1, hlen, hl0, x0, y0]
 have bad : numOf s = none -> (numOf s = none /\ Fr (· = .row br) B A1 /\ A1.blk[br]? = some ⟨[rv, .int .i64 23], .var⟩ /\ ∃ k : Int, V.int .i64 (n : Int) = .int .i64 k) := fun q => ⟨q, s2, s3, _, rfl⟩
 have z0 : s[0]? = some 0 ↔ z = 0 := by rw [hz]; simp
 refine Ab8 (fun g1 => ?_) (fun g1 => ?_)
 . simp only [RT, Q0, Q1, Q2, Q3, Q4, Q5, Q6, Q7, Q8, g1, h0, h5, fa, s1]
   have : z = 0 := UInt8.toNat_inj.1 (by simpa using g1)
   exact .inl (bad (by unfold numOf; rw [if_pos (.inr (.inl (z0.2 this)))]))
 . have hz0 : z ≠ 0 := fun q => g1 (by rw [q]; rfl)
   simp only [RT, Q0, Q1, Q2, Q3, Q4, Q5, Q6, Q7, Q8, g1, h1, hlen]
   refine Ab8 (fun g2 => ?_) (fun g2 => ?_)
   . simp only [RT, Q0, Q1, Q2, Q3, Q4, Q5, Q6, Q7, Q8, g2, h0, h5, fa, s1]
     exact .inl (bad (by unfold numOf; rw [if_pos (.inr (.inr (.inl (by omega))))]))
   . have hnv := hval hz0 (by omega)
     simp only [RT, Q0, Q1, Q2, Q3, Q4, Q5, Q6, Q7, Q8, g2, h5]
     refine Aa1 (fun g3 => ?_) (fun g3 => ?_)
     . simp only [RT, Q0, Q1, Q2, Q3, Q4, Q5, Q6, Q7, Q8, h0, h5, fa, s1]
       exact .inl (bad (by unfold numOf; rw [if_pos (.inr (.inr (.inr (by omega))))]))
     . simp only [RT, Q0, Q1, Q2, Q3, Q4, Q5, Q6, Q7, Q8, h5]
       refine .inr ⟨n, ?_, rfl⟩
       unfold numOf
       rw [if_neg, hnv]
       rintro (q | q | q | q)
       . exact hne q
       . exact hz0 (z0.1 q)
       . omega
       . omega
end Go.Sv.Try
namespace Go.Sv.Try
open Go Go.Proofs
def argI (m : Hp) (_ : AS) (args : List V) (f : Nat × Bts) : Prop := ∃ xv, args = [.int .u8 (f.1 : Int), xv] /\ Slc eU8 m xv f.2 /\ f.2.length <= 16777215 /\ 1 <= f.1 /\ f.1 <= 9
def rowR (br : Nat) (c : Int) (B : AS) : Prop := ∃ rv, B.blk[br]? = some ⟨[rv, .int .i64 c], .var⟩
theorem Bk5 {A : AS} {br : Nat} : ∃ w A', EvF Try.prog HH 98 [.ptr br 0] A w A' /\ w = .fn 115 [] [.ptr A.blk.length 0] /\ Fr S0 A A' /\ A'.blk[A.blk.length]? = some ⟨[.ptr br 0], .var⟩ := by
 refine Aa6 rfl Try.func98 (by unfold Try.f98; rfl) Try.ntmps98 (by unfold Try.f98; rfl) (by simp) ?_
 simp only [RT, Q0, Q1, Q2, Q3, Q4, Q5, Q6, Q7, Q8]
 exact ⟨Fr.pushVar A _, Ab3 A _⟩
set_option maxRecDepth 10000 in
set_option maxHeartbeats 16000000 in
theorem Bb6 {m : Hp} {A : AS} {br bx : Nat} {rv : V} {s : Bts} {S : Loc -> Prop} (hm : m.on A) (hS : ∀ b, S (.row b) -> m b = none /\ b ≠ bx) (hSr : S (.row br)) (hb : A.blk[bx]? = some ⟨[.ptr br 0], .var⟩) (hr : A.blk[br]? = some ⟨[rv, .int .i64 0], .var⟩)
 (h : Slc eU8 m rv s) (hs : s.length <= 9223372036854775807) : GoesG Try.prog HH 115 [] [.ptr bx 0] A S (· = .row br) (· = br) (rowR br 0) (rowR br (items 0 s).2) (argI m) (items 0 s).1 := by
 intro lo J D hJ hD hstep hJ0
 refine Aa6 rfl Try.func115 (by unfold Try.f115; rfl) Try.ntmps115 (by unfold Try.f115; rfl) (by simp) ?_
 have fa := faR br
 have hmbr : m br = none := (hS br hSr).1
 have hld : ∀ {B}, Fr S A B -> evLoad Try.prog 176 (.ptr bx 0) B = some (.ptr br 0) := fun q => Al3 Bt0 (q.row _ _ hb fun w => (hS _ w).2 rfl)
 have hmB : ∀ {B}, Fr S A B -> m.on B := fun q => hm.fr q fun b w => (hS b w).1
 have inS : ∀ {B C : AS}, Fr (· = .row br) B C -> Fr S B C := fun q => q.mono fun x w => by subst w; exact hSr
 simp only [RT, Q0, Q1, Q2, Q3, Q4, Q5, Q6, Q7, Q8]
 refine Aa2 (fun n e B => Fr S A B /\ e.get 0 = .yield lo /\ e.get 1 = .ptr bx 0 /\ ∃ (done : List (Nat × Bts)) (last : Nat) (rest : Bts) (rv' : V), n = rest.length /\ e.get 3 = .int .u8 (last : Int) /\ B.blk[br]? = some ⟨[rv', .int .i64 0], .var⟩ /\ Slc eU8 m rv' rest /\ rest.length <= 9223372036854775807 /\
  J done.length B /\ (items 0 s).1 = done ++ (items last rest).1 /\ (items 0 s).2 = (items last rest).2)
  (fun z e B => Fr S A B /\ (Is z (.exit 0) ∨ Is z .ret) /\ ((J (items 0 s).1.length B /\ rowR br (items 0 s).2 B) ∨ ∃ i, i < (items 0 s).1.length /\ D i B))
  ⟨_, .refl S A, rfl, rfl, [], 0, s, rv, rfl, rfl, hr, h, hs, hJ0, rfl, rfl⟩ ?_ ?_
 rotate_left
 . rintro z e B hz ⟨hf, rfl | rfl, hd⟩
   . simp only [RT, Q0, Q1, Q2, Q3, Q4, Q5, Q6, Q7, Q8]
     exact ⟨hf, hd⟩
   . simp only [RT, Q0, Q1, Q2, Q3, Q4, Q5, Q6, Q7, Q8]
     exact ⟨hf, hd⟩
 rintro n e B ⟨hf, h0, h1, done, last, rest, rv', rfl, h3, row, hsl, hl, hj, e1, e2⟩
 have ld := ldR row
 have hlen := fun B => hsl.len (P := Try.prog) Try.underlying44 B
 simp only [RT, Q0, Q1, Q2, Q3, Q4, Q5, Q6, Q7, Q8, h1, hld hf, fa, ld, hlen]
 refine Ab8 (fun g => ?_) (fun g => ?_)
 rotate_left
 . simp only [RT, Q0, Q1, Q2, Q3, Q4, Q5, Q6, Q7, Q8, g]
   have : rest = [] := List.eq_nil_of_length_eq_zero (by omega)
   subst this
   rw [Ad5] at e1 e2
   refine ⟨hf, .inl rfl, .inl ⟨?_, _, by rw [e2]; exact row⟩⟩
   rw [e1, List.append_nil]; exact hj
 match rest, hsl, hl, e1, e2, hlen, g with
 | [], _, _, _, _, _, g => simp at g
 | t :: r, hsl, hl, e1, e2, hlen, g =>
  obtain ⟨b0, o0, x0, y0⟩ := Ap0 hsl (hmB hf) (i := 0) rfl
  have x0 : evIndexAddr Try.prog 44 rv' (.int .i64 0) = some (.ptr b0 o0) := x0
  obtain ⟨w1, u1, u2⟩ := hsl.subFrom (P := Try.prog) (t := 44) (lo := 1) (kl := .i64) Try.underlying44 sz5 (by simp) B
  have u1 : evSlice Try.prog 44 rv' (some (.int .i64 1)) none none B = some w1 := u1
  have u2 : Slc eU8 m w1 r := u2
  obtain ⟨B1, s1, s2, s3⟩ := Bb5 row u2.one
  have hf1 := hf.thn (inS s2)
  have ld1 := ldR s3
  simp only [RT, Q0, Q1, Q2, Q3, Q4, Q5, Q6, Q7, Q8, g, h1, hld hf, fa, ld, x0, y0]
  rw [Bs9, Aa8 (by rfl)]
  simp only [RT, Q0, Q1, Q2, Q3, Q4, Q5, Q6, Q7, Q8, h1, hld hf, fa, ld, x0, y0, u1, s1, h3]
  obtain ⟨B2, t1, t2, t3⟩ := AQ6 (n := 21) s3
  have hbadtag : (t.toNat <= last ∨ t.toNat > 9) -> (Fr S A B2 /\ ((J (items 0 s).1.length B2 /\ rowR br (items 0 s).2 B2) ∨ ∃ i, i < (items 0 s).1.length /\ D i B2)) := fun q => by
   rw [Aj2 q] at e1 e2
   refine ⟨hf1.thn (inS t2), .inl ⟨?_, _, by rw [e2]; exact t3⟩⟩
   rw [e1, List.append_nil]; exact hJ _ _ _ (hJ _ _ _ hj s2) t2
  refine Ab8 (fun g1 => ?_) (fun g1 => ?_)
  . simp only [RT, Q0, Q1, Q2, Q3, Q4, Q5, Q6, Q7, Q8, g1, h1, hld hf1, fa, t1]
    obtain ⟨q1, q2⟩ := hbadtag (.inl (by omega))
    exact ⟨q1, .inr rfl, q2⟩
  . simp only [RT, Q0, Q1, Q2, Q3, Q4, Q5, Q6, Q7, Q8, g1]
    refine Aa1 (fun g2 => ?_) (fun g2 => ?_)
    . simp only [RT, Q0, Q1, Q2, Q3, Q4, Q5, Q6, Q7, Q8, h1, hld hf1, fa, t1]
      obtain ⟨q1, q2⟩ := hbadtag (.inr (by omega))
      exact ⟨q1, .inr rfl, q2⟩
    have hgood : ¬ (t.toNat <= last ∨ t.toNat > 9) := by omega
    simp only [RT, Q0, Q1, Q2, Q3, Q4, Q5, Q6, Q7, Q8, h1, hld hf1]
    obtain ⟨w, B3, k1, k2, k3⟩ := AQ7 (hmB hf1) hmbr s3 u2 (by simp only [List.length_cons] at hl; omega)
    refine Aa0 k1 ?_
    have hf3 := hf1.thn (inS k2)
    have hj3 := hJ _ _ _ (hJ _ _ _ hj s2) k2
    rcases k3 with ⟨k3, rfl, k4⟩ | ⟨x, r', rv3, k3, k4, k5, k6⟩
    . have ld3 := ldR k4
      simp only [RT, Q0, Q1, Q2, Q3, Q4, Q5, Q6, Q7, Q8, h1, hld hf3, fa, ld3]
      rw [Af5 hgood k3] at e1 e2
      refine ⟨hf3, .inr rfl, .inl ⟨?_, _, by rw [e2]; exact k4⟩⟩
      rw [e1, List.append_nil]; exact hj3
    . have ld3 := ldR k5
      simp only [RT, Q0, Q1, Q2, Q3, Q4, Q5, Q6, Q7, Q8, h1, h0, hld hf3, fa, ld3]
      rw [Ae9 hgood k3] at e1 e2
      have hx := Ad4 k3
      have hat : (items 0 s).1[done.length]? = some (t.toNat, x) := by rw [e1]; simp
      obtain ⟨b, B4, y1, y2, y3, y4⟩ := hstep _ _ B3 _ hat hj3 hf3 ⟨_, k5⟩ ⟨w, rfl, k4, hx.2, by simp only []; omega, by simp only []; omega⟩
      refine ⟨_, B4, y1, ?_⟩
      simp only [RT, Q0, Q1, Q2, Q3, Q4, Q5, Q6, Q7, Q8]
      cases b with
      | true =>
       simp only [RT, Q0, Q1, Q2, Q3, Q4, Q5, Q6, Q7, Q8]
       obtain ⟨z1, z2⟩ := y3 rfl
       exact ⟨r'.length, by simp only [List.length_cons]; omega, hf3.thn y2, h0, h1, done ++ [(t.toNat, x)], t.toNat, r', rv3, rfl, rfl, by rw [z2 br rfl]; exact k5, k6, by simp only [List.length_cons] at hl; omega, by simpa using z1, by rw [e1]; simp, e2⟩
      | false =>
       simp only [RT, Q0, Q1, Q2, Q3, Q4, Q5, Q6, Q7, Q8]
       exact ⟨hf3.thn y2, .inr rfl, .inr ⟨_, (List.getElem?_eq_some_iff.1 hat).1, y4 rfl⟩⟩
end Go.Sv.Try
namespace Go.Sv.Try
open Go Go.Proofs
abbrev mcZ : List V := mc (msg0 0) .snil .snil .snil
theorem zcM : (zeroT Try.prog 70).bind V.cells = some mcZ := by kernel_rfl
theorem Af1 : evBuild Try.prog 70 [] = some (.agg mcZ) := by kernel_rfl
theorem BE6 (k : Int) : evBuild Try.prog 70 [(0, .int .i64 k)] = some (.agg (mc (msg0 k) .snil .snil .snil)) := by kernel_rfl
theorem Bk6 : evBuild Try.prog 178 [(0, .snil)] = some (.agg [.snil, .int .i64 0]) := by kernel_rfl
theorem Bv8 (b o n z : Nat) : evBuild Try.prog 178 [(0, .sl b o n z)] = some (.agg [.sl b o n z, .int .i64 0]) := by kernel_rfl
theorem BW9 {v : V} (h : v = .snil ∨ ∃ b o n z, v = .sl b o n z) : evBuild Try.prog 178 [(0, v)] = some (.agg [v, .int .i64 0]) := by
 rcases h with rfl | ⟨b, o, n, z, rfl⟩
 . exact Bk6
 . exact Bv8 b o n z
abbrev ptrs (b : Nat) : List V := [.ptr b 1, .ptr b 2, .ptr b 3, .ptr b 4, .ptr b 5]
theorem BP2 (b : Nat) : evBuild Try.prog 180 [(0, .ptr b 1), (1, .ptr b 2), (2, .ptr b 3), (3, .ptr b 4), (4, .ptr b 5)] = some (.agg (ptrs b)) := by kernel_rfl
theorem BX0 : bsl Try.prog 44 0 (some []) = some (.newSl [] 0 1) := by kernel_rfl
theorem Bk7 : bsl Try.prog 22 1 (some [(0, .snil)]) = some (.newSl [.snil] 1 1) := by kernel_rfl
theorem Bb7 (b o n z : Nat) : bsl Try.prog 22 1 (some [(0, .sl b o n z)]) = some (.newSl [.sl b o n z] 1 1) := by kernel_rfl
theorem BZ2 {v : V} (h : v = .snil ∨ ∃ b o n z, v = .sl b o n z) : bsl Try.prog 22 1 (some [(0, v)]) = some (.newSl [v] 1 1) := by
 rcases h with rfl | ⟨b, o, n, z, rfl⟩
 . exact Bk7
 . exact Bb7 b o n z
theorem BX1 {y : Bts} (h : y.length = 32) : bsl Try.prog 36 1 (some [(0, .agg (bc y))]) = some (.newSl (bc y) 1 32) :=
 A25 Try.underlying36 As0 zcI rfl (by rw [Aa5, h]) (by decide)
theorem AH6 {m : Hp} {k : Int} : MsgIn m (msg0 k) .snil .snil .snil := ⟨rfl, .inl ⟨rfl, rfl⟩, .inl ⟨rfl, rfl⟩, .inl ⟨rfl, rfl⟩⟩
theorem Bb8 {x : M} {dv iv lv : V} {t : Nat} (h1 : 1 <= t) (h2 : t < 6) (n : Int) : putAt (mc x dv iv lv) t [.int .i64 n] = mc (setNum x t n) dv iv lv := by
 match t, h1, h2 with
 | 1, _, _ => rfl
 | 2, _, _ => rfl
 | 3, _, _ => rfl
 | 4, _, _ => rfl
 | 5, _, _ => rfl
theorem BE7 {x : M} {dv iv lv : V} {y : Bts} (hx : x.id.length = 32) (hy : y.length = 32) : putAt (mc x dv iv lv) 6 (bc y) = mc { x with id := y } dv iv lv := by
 unfold putAt mc
 rw [Aa5, hy]
 show _ ++ _ ++ List.drop 32 (bc x.id ++ [dv, iv, lv]) = _
 rw [List.drop_left' (by rw [Aa5, hx])]
 simp
theorem AX8 {x : M} {dv iv lv : V} (hx : x.id.length = 32) (j : Nat) (hj : j < 3) (w : V) : putAt (mc x dv iv lv) (38 + j) [w] = (.int .i64 x.kind :: .int .i64 x.who :: .int .i64 x.height :: .int .i64 x.round :: .int .i64 x.valid :: .int .i64 x.num :: (bc x.id ++ putAt [dv, iv, lv] j [w])) := by
 have e : (bc x.id).length = 32 := by rw [Aa5, hx]
 unfold putAt mc
 rw [show 38 + j = (32 + j) + 6 by omega]
 simp only [List.length_singleton]
 rw [show 32 + j + 6 + 1 = (32 + (j + 1)) + 6 by omega]
 simp only [List.take_succ_cons, List.drop_succ_cons, List.cons_append]
 rw [List.take_append, List.drop_append, e, List.take_of_length_le (by rw [e]; omega), List.drop_eq_nil_of_le (by rw [e]; omega), show 32 + j - 32 = j by omega, show 32 + (j + 1) - 32 = j + 1 by omega]
 simp
theorem Bb9 {x : M} {dv iv lv w : V} (hx : x.id.length = 32) (y : Bts) : putAt (mc x dv iv lv) 38 [w] = mc { x with data := y } w iv lv := by rw [AX8 hx 0 (by decide)]; rfl
theorem Bt6 {x : M} {dv iv lv w : V} (hx : x.id.length = 32) (y : List Bts) : putAt (mc x dv iv lv) 39 [w] = mc { x with ids := y } dv w lv := by rw [AX8 hx 1 (by decide)]; rfl
theorem Bc0 {x : M} {dv iv lv w : V} (hx : x.id.length = 32) (y : List Bts) : putAt (mc x dv iv lv) 40 [w] = mc { x with list := y } dv iv w := by rw [AX8 hx 2 (by decide)]; rfl
theorem AC3 (x : M) (t : Nat) (n : Int) : (setNum x t n).id = x.id /\ (setNum x t n).data = x.data /\ (setNum x t n).ids = x.ids /\ (setNum x t n).list = x.list := by
 unfold setNum; split <;> exact ⟨rfl, rfl, rfl, rfl⟩
def cellsAllB (l : List Bts) : List V := l.flatMap bc
theorem Ay4 {l : List Bts} (h : ∀ b ∈ l, b.length = 32) : ∀ (i : Nat) x, l[i]? = some x -> ((cellsAllB l).drop (i * 32)).take 32 = bc x := by
 induction l with
 | nil => intro i x q; simp at q
 | cons y l ih =>
  intro i x q
  have hy : (bc y).length = 32 := by rw [Aa5]; exact h y (by simp)
  unfold cellsAllB
  rw [List.flatMap_cons]
  cases i with
  | zero => simp at q; subst q; rw [Nat.zero_mul, List.drop_zero, List.take_left' hy]
  | succ i =>
   have := ih (fun b hb => h b (by simp [hb])) i x (by simpa using q)
   rw [show (i + 1) * 32 = (bc y).length + i * 32 by rw [hy]; omega, List.drop_append, List.drop_eq_nil_of_le (by omega), List.nil_append, show (bc y).length + i * 32 - (bc y).length = i * 32 by omega]
   exact this
theorem AA1 {A : AS} {b o : Nat} {x : M} {dv iv lv : V} {t : TypeId} {w : V} {cs : List V} (h : A.blk[b]? = some ⟨mc x dv iv lv, .var⟩) (hx : x.id.length = 32) (hw : w.cells = some cs) (hs : szT Try.prog t = some cs.length) (ho : o + cs.length <= 41) (h1 : cs.all V.one = true) :
 ∃ A', evStore Try.prog t (.ptr b o) w A = some A' /\ Fr (· = .row b) A A' /\ A'.blk[b]? = some ⟨putAt (mc x dv iv lv) o cs, .var⟩ := by
 obtain ⟨A', h1, h2, h3, _⟩ := Ab7 (P := Try.prog) (t := t) (o := o) (x := w) h hw hs (by rw [Ab5 hx]; exact ho) h1
 exact ⟨A', h1, h2, h3⟩
theorem AQ9 {m : Hp} {A : AS} {v : V} {l : Bts} (h : Slc eU8 m v l) (hm : m.on A) (hl : l.length = 32) : ∃ b o, evS2ap Try.prog 32 v = some (.ptr b o) /\ evLoad Try.prog 32 (.ptr b o) A = some (.agg (bc l)) := by
 rcases h.bytes with ⟨rfl, rfl⟩ | ⟨b, o, cs, rfl, h2, h3, h4⟩
 . simp at hl
 . refine ⟨b, o, ?_, ?_⟩
   . rw [hl]
     unfold evS2ap
     simp only [Try.underlying32]
     rfl
   . rw [Ai5 AW4 As0, hm.range h2 (by omega)]
     rw [hl] at h4
     rw [h4]; rfl
structure CB (N b2 b5 b6 br bm : Nat) (m : Hp) (B : AS) : Prop where
 r2 : B.blk[b2]? = some ⟨mcZ, .var⟩
 r5 : B.blk[b5]? = some ⟨[.ptr br 0], .var⟩
 r6 : B.blk[b6]? = some ⟨ptrs bm, .var⟩
 on : m.on B
 wf : WF B
 len : N <= B.blk.length
theorem CB.fr {N b2 b5 b6 br bm : Nat} {m : Hp} {S : Loc -> Prop} {B C : AS} (h : CB N b2 b5 b6 br bm m B) (hf : Fr S B C) (h1 : ∀ b, S (.row b) -> b ≠ b2 /\ b ≠ b5 /\ b ≠ b6 /\ m b = none) : CB N b2 b5 b6 br bm m C :=
 ⟨hf.row _ _ h.r2 fun q => (h1 _ q).1 rfl, hf.row _ _ h.r5 fun q => (h1 _ q).2.1 rfl, hf.row _ _ h.r6 fun q => (h1 _ q).2.2.1 rfl, h.on.fr hf fun b q => (h1 b q).2.2.2, hf.wf h.wf, by have := hf.len; have := h.len; omega⟩
def RdJ (N bm br : Nat) (k : Int) (xs : List (Nat × Bts)) (i : Nat) (B : AS) : Prop := ∃ (M : Go.Sv.M) (dv iv lv : V), B.blk[bm]? = some ⟨mc M dv iv lv, .var⟩ /\ (∃ cs, B.blk[br]? = some ⟨cs, .var⟩) /\ putAll (msg0 k) (xs.take i) = .ok M /\ MsgIn (arrHq N B) M dv iv lv /\
 ∀ f, xs[i]? = some f -> (f.1 <= 8 -> iv = .snil /\ M.ids = []) /\ lv = .snil /\ M.list = []
def RdE (N bm br : Nat) (k : Int) (s : Bts) (B : AS) : Prop := (∃ rv c, c ≠ 0 /\ B.blk[br]? = some ⟨[rv, .int .i64 c], .var⟩ /\ restM (msg0 k) 0 s = .error c /\ ∃ (M : Go.Sv.M) (dv iv lv : V), B.blk[bm]? = some ⟨mc M dv iv lv, .var⟩ /\ M.id.length = 32) ∨
 ∃ (rv : V) (M : Go.Sv.M) (dv iv lv : V), B.blk[br]? = some ⟨[rv, .int .i64 0], .var⟩ /\ restM (msg0 k) 0 s = .ok M /\ B.blk[bm]? = some ⟨mc M dv iv lv, .var⟩ /\ MsgIn (arrHq N B) M dv iv lv
theorem RdJ.fr {N bm br : Nat} {k : Int} {xs : List (Nat × Bts)} {i : Nat} {S : Loc -> Prop} {B C : AS} (h : RdJ N bm br k xs i B) (hf : Fr S B C) (h1 : ∀ b, S (.row b) -> b = br) (hne : bm ≠ br) : RdJ N bm br k xs i C := by
 obtain ⟨M, dv, iv, lv, q1, ⟨cs, q2⟩, q3, q4, q5⟩ := h
 obtain ⟨cs', z1, _⟩ := hf.kind br _ q2
 exact ⟨M, dv, iv, lv, hf.row _ _ q1 fun z => hne (h1 _ z), ⟨cs', z1⟩, q3, q4.mono (Ac4 hf fun b z => by rw [h1 b z]; exact Ad1 q2), q5⟩
theorem RdE.fr {N bm br : Nat} {k : Int} {s : Bts} {S : Loc -> Prop} {B C : AS} (h : RdE N bm br k s B) (hf : Fr S B C) (h1 : ∀ b, ¬ S (.row b)) : RdE N bm br k s C := by
 rcases h with ⟨rv, c, q1, q2, q3, M, dv, iv, lv, q4, q5⟩ | ⟨rv, M, dv, iv, lv, q1, q2, q3, q4⟩
 . exact .inl ⟨rv, c, q1, hf.row _ _ q2 (h1 _), q3, M, dv, iv, lv, hf.row _ _ q4 (h1 _), q5⟩
 . exact .inr ⟨rv, M, dv, iv, lv, hf.row _ _ q1 (h1 _), q2, hf.row _ _ q3 (h1 _), q4.mono (Ac4 hf fun b z => absurd z (h1 b))⟩
theorem RdJ.step {N bm br : Nat} {k : Int} {s : Bts} {i : Nat} {f : Nat × Bts} {C : AS} {M M' : Go.Sv.M} {iv lv dv' iv' lv' : V} (hi : (items 0 s).1[i]? = some f) (h3 : putAll (msg0 k) ((items 0 s).1.take i) = .ok M)
 (h5 : (f.1 <= 8 -> iv = .snil /\ M.ids = []) /\ lv = .snil /\ M.list = []) (hp : putM M f.1 f.2 = .ok M') (hc : C.blk[bm]? = some ⟨mc M' dv' iv' lv', .var⟩) (hbr : ∃ cs, C.blk[br]? = some ⟨cs, .var⟩) (hM : MsgIn (arrHq N C) M' dv' iv' lv')
 (hiv : f.1 < 8 -> iv' = iv /\ M'.ids = M.ids) (hlv : f.1 < 9 -> lv' = lv /\ M'.list = M.list) : RdJ N bm br k (items 0 s).1 (i + 1) C := by
 refine ⟨M', dv', iv', lv', hc, hbr, AW8 h3 hi hp, hM, fun g hg => ?_⟩
 have h1 := A68 s.length s 0 i f g (Nat.le_refl _) hi hg
 have h2 := A31 s.length s 0 (Nat.le_refl _) g (List.mem_of_getElem? hg)
 refine ⟨fun q => ?_, ?_⟩
 . obtain ⟨z1, z2⟩ := hiv (by omega)
   obtain ⟨z3, z4⟩ := h5.1 (by omega)
   exact ⟨z1.trans z3, z2.trans z4⟩
 . obtain ⟨z1, z2⟩ := hlv (by omega)
   exact ⟨z1.trans h5.2.1, z2.trans h5.2.2⟩
end Go.Sv.Try
namespace Go.Sv.Try
open Go Go.Proofs
def RdOutN (N : Nat) (b : Bts) (w : V) (B : AS) : Prop := ∃ dv iv lv, w = .tup [.agg (mc (readMsg b) dv iv lv), .int .i64 (readErr b)] /\ MsgIn (arrHq N B) (readMsg b) dv iv lv
def RdOut (b : Bts) (w : V) (B : AS) : Prop := ∃ dv iv lv, w = .tup [.agg (mc (readMsg b) dv iv lv), .int .i64 (readErr b)] /\ MsgIn (arrHp B) (readMsg b) dv iv lv
theorem Bc1 {b : Bts} {e : Int} {B : AS} (h : readM b = .error e) : RdOut b (.tup [.agg mcZ, .int .i64 e]) B := by
 refine ⟨.snil, .snil, .snil, ?_, ?_⟩
 . unfold readMsg readErr; rw [h]
 . unfold readMsg; rw [h]; exact AH6
theorem Bk8 {b : Bts} {x : M} {dv iv lv : V} {B : AS} (h : readM b = .ok x) (hm : MsgIn (arrHp B) x dv iv lv) : RdOut b (.tup [.agg (mc x dv iv lv), .int .i64 0]) B := by
 refine ⟨dv, iv, lv, ?_, ?_⟩
 . unfold readMsg readErr; rw [h]
 . unfold readMsg; rw [h]; exact hm
theorem Aq6 {N : Nat} {b : Bts} {e : Int} {B : AS} (h : readM b = .error e) : RdOutN N b (.tup [.agg mcZ, .int .i64 e]) B := by
 refine ⟨.snil, .snil, .snil, ?_, ?_⟩
 . unfold readMsg readErr; rw [h]
 . unfold readMsg; rw [h]; exact AH6
theorem Bc2 {N : Nat} {b : Bts} {x : M} {dv iv lv : V} {B : AS} (h : readM b = .ok x) (hm : MsgIn (arrHq N B) x dv iv lv) : RdOutN N b (.tup [.agg (mc x dv iv lv), .int .i64 0]) B := by
 refine ⟨dv, iv, lv, ?_, ?_⟩
 . unfold readMsg readErr; rw [h]
 . unfold readMsg; rw [h]; exact hm
set_option maxRecDepth 10000 in
set_option maxHeartbeats 32000000 in
theorem AH7 {m : Hp} {A : AS} {v : V} {b : Bts} (hw : WF A) (hm : m.on A) (h : Slc eU8 m v b) (hb : b.length <= 1000000000000) :
 ∃ w A', EvF Try.prog HH 73 [v] A w A' /\ Fr S0 A A' /\ RdOutN A.blk.length b w A' := by
 refine Aa6 rfl Try.func73 (by unfold Try.f73; rfl) Try.ntmps73 (by unfold Try.f73; rfl) (by simp) ?_
 have hlen := fun B => h.len (P := Try.prog) Try.underlying44 B
 simp only [RT, Q0, Q1, Q2, Q3, Q4, Q5, Q6, Q7, Q8, zcM]
 obtain ⟨A1, e1, f1, r1, n1⟩ := Aa9 A mcZ
 rw [<- e1]
 have zid : (msg0 0).id.length = 32 := rfl
 obtain ⟨A2, s1, s2, s3⟩ := AA1 (o := 0) (t := 70) (w := .agg mcZ) (cs := mcZ) r1 zid rfl AP2 (by decide) rfl
 rw [Ab2 rfl] at s3
 have f2 : Fr S0 A A2 := f1.row_ s2 (Nat.le_refl _)
 have ld2 := (ldM s3 zid).2.2.2.2.2.2.2.2.2.2
 simp only [RT, Q0, Q1, Q2, Q3, Q4, Q5, Q6, Q7, Q8, hlen]
 refine Aa1 (fun g => ?_) (fun g => ?_)
 . simp only [RT, Q0, Q1, Q2, Q3, Q4, Q5, Q6, Q7, Q8, Af1, s1, ld2]
   have : b = [] := List.eq_nil_of_length_eq_zero (by omega)
   subst this
   exact ⟨f2, Aq6 rfl⟩
 match b, h, hb, hlen, g with
 | [], _, _, _, g => simp at g
 | kk :: s, h, hb, hlen, _ =>
  simp only [List.length_cons] at hb
  have hk := kk.toNat_lt
  obtain ⟨b0, o0, x0, y0⟩ := Ap0 h (hm.fr0 f1) (i := 0) rfl
  have x0 : evIndexAddr Try.prog 44 v (.int .i64 0) = some (.ptr b0 o0) := x0
  simp only [RT, Q0, Q1, Q2, Q3, Q4, Q5, Q6, Q7, Q8, x0, y0]
  refine Ab8 (fun g1 => ?_) (fun g1 => ?_)
  . simp only [RT, Q0, Q1, Q2, Q3, Q4, Q5, Q6, Q7, Q8, g1, Af1, s1, ld2]
    exact ⟨f2, Aq6 (by unfold readM; simp only []; rw [if_pos (.inl (by omega))])⟩
  simp only [RT, Q0, Q1, Q2, Q3, Q4, Q5, Q6, Q7, Q8, g1, x0, y0]
  refine Aa1 (fun g2 => ?_) (fun g2 => ?_)
  . simp only [RT, Q0, Q1, Q2, Q3, Q4, Q5, Q6, Q7, Q8, Af1, s1, ld2]
    exact ⟨f2, Aq6 (by unfold readM; simp only []; rw [if_pos (.inr (by omega))])⟩
  have hread : readM (kk :: s) = match restM (msg0 kk.toNat) 0 s with | .error e => .error e | .ok m => if checkM m ≠ 0 then .error (checkM m) else .ok m := by
   conv => lhs; unfold readM
   simp only []
   rw [if_neg (by omega)]
   try (cases restM (msg0 kk.toNat) 0 s <;> rfl)
  clear s1 s2 s3 f2 ld2 g1 g2 A2
  simp only [RT, Q0, Q1, Q2, Q3, Q4, Q5, Q6, Q7, Q8, x0, y0, AX7, BE6, zcM]
  obtain ⟨A2, s1, s2, s3, s4⟩ := Ag4 (P := Try.prog) A1 (z := mcZ) (t := 70) (x := .agg (mc (msg0 kk.toNat) .snil .snil .snil)) (cs := mc (msg0 kk.toNat) .snil .snil .snil) rfl AP2 rfl rfl
  obtain ⟨w1, u1, u2⟩ := h.subFrom (P := Try.prog) (t := 44) (lo := 1) (kl := .i64) Try.underlying44 sz5 (by simp) A2
  have u1 : evSlice Try.prog 44 v (some (.int .i64 1)) none none A2 = some w1 := u1
  have u2 : Slc eU8 m w1 s := u2
  simp only [RT, Q0, Q1, Q2, Q3, Q4, Q5, Q6, Q7, Q8, s1, u1, BW9 u2.form, BV7]
  obtain ⟨A3, e3, f3, r3, n3⟩ := Aa9 A2 [w1, .int .i64 0]
  rw [<- e3]
  obtain ⟨A4, t1, t2, t3, t4⟩ := Ag4 (P := Try.prog) A3 (z := [.pnil]) (t := 176) (x := .ptr A2.blk.length 0) (cs := [.ptr A2.blk.length 0]) rfl BV6 rfl rfl
  have fa := faM A1.blk.length
  simp only [RT, Q0, Q1, Q2, Q3, Q4, Q5, Q6, Q7, Q8, t1, fa, BP2, BW1]
  obtain ⟨A5, p1, p2, p3, p4⟩ := Ag4 (P := Try.prog) A4 (z := [.pnil, .pnil, .pnil, .pnil, .pnil]) (t := 180) (x := .agg (ptrs A1.blk.length)) (cs := ptrs A1.blk.length) rfl BW0 rfl rfl
  have ldp := Al3 (P := Try.prog) Bt0 (p2.row0 t3)
  simp only [RT, Q0, Q1, Q2, Q3, Q4, Q5, Q6, Q7, Q8, p1, ldp]
  obtain ⟨_, A6, q1, rfl, q2, q3⟩ := Bk5 (A := A5) (br := A2.blk.length)
  refine Aa0 q1 ?_
  obtain ⟨b2, hb2⟩ : ∃ x, x = A.blk.length := ⟨_, rfl⟩
  obtain ⟨bm, hbm⟩ : ∃ x, x = A1.blk.length := ⟨_, rfl⟩
  obtain ⟨br, hbr⟩ : ∃ x, x = A2.blk.length := ⟨_, rfl⟩
  obtain ⟨b5, hb5⟩ : ∃ x, x = A3.blk.length := ⟨_, rfl⟩
  obtain ⟨b6, hb6⟩ : ∃ x, x = A4.blk.length := ⟨_, rfl⟩
  obtain ⟨bx, hbx⟩ : ∃ x, x = A5.blk.length := ⟨_, rfl⟩
  have fA6 : Fr S0 A A6 := ((((f1.then0 s2).then0 f3).then0 t2).then0 p2).then0 q2
  have fm : ∀ {B}, Fr S0 A B -> ∀ b, A.blk.length <= b -> m b = none := fun _ b hb => hm.fresh hb
  have hno : ∀ b, A.blk.length <= b -> m b = none := fun b hb => hm.fresh hb
  have cb : CB A.blk.length b2 b5 b6 br bm m A6 := by
   subst hb2 hbm hbr hb5 hb6
   exact ⟨q2.row0 (p2.row0 (t2.row0 (f3.row0 (s2.row0 r1)))), q2.row0 (p2.row0 t3), q2.row0 p3, hm.fr0 fA6, fA6.wf hw, fA6.len⟩
  have rbm : A6.blk[bm]? = some ⟨mc (msg0 kk.toNat) .snil .snil .snil, .var⟩ := by subst hbm; exact q2.row0 (p2.row0 (t2.row0 (f3.row0 s3)))
  have rbr : A6.blk[br]? = some ⟨[w1, .int .i64 0], .var⟩ := by subst hbr; exact q2.row0 (p2.row0 (t2.row0 r3))
  have rbx : A6.blk[bx]? = some ⟨[.ptr br 0], .var⟩ := by subst hbx hbr; exact q3
  rw [<- hb2, <- hbm, <- hbr, <- hb5, <- hb6, <- hbx]
  have o1 : b2 < bm /\ bm < br /\ br < b5 /\ b5 < b6 /\ b6 < bx := by omega
  have hN : A.blk.length = b2 := hb2.symm
  rw [hN] at hno cb
  clear q1 p1 t1 s1 u1 e3 e1 q3 p3 t3 r3 s3 fa ldp s4 t4 p4 n1 n3 x0 y0 hb2 hbm hbr hb5 hb6 hbx r1 f1 s2 f3 t2 p2 q2 fm
  simp only [RT, Q0, Q1, Q2, Q3, Q4, Q5, Q6, Q7, Q8]
  have hmul : ∀ (x : Nat), x <= 9 -> x = x := fun _ _ => rfl
  refine AW1 (S := fun l => l = .row bm ∨ l = .row br ∨ famsFrom b2 l) (T := (· = .row br)) (K := (· = br)) (Pre := rowR br 0) (Fin := rowR br (items 0 s).2) (AR := argI m) (xs := (items 0 s).1)
   (fun i B => CB b2 b2 b5 b6 br bm m B /\ RdJ b2 bm br kk.toNat (items 0 s).1 i B) (fun B => CB b2 b2 b5 b6 br bm m B /\ RdE b2 bm br kk.toNat s B)
   rfl (fun q => by rcases q with q | q | q <;> cases q) (fun q => by cases q) ?_ ⟨cb, _, _, _, _, rbm, ⟨_, rbr⟩, rfl, AH6, fun f hf => ⟨fun _ => ⟨rfl, rfl⟩, rfl, rfl⟩⟩ ?_ ?_
   Try.func73 Try.ntmps73 (by simp) ?_ ?_ ?_
  . intro A0 hf0
    refine Bb6 (cb.on.fr0 hf0) ?_ (.inl (.inr (.inl rfl))) (hf0.row0 rbx) (hf0.row0 rbr) u2 (by omega)
    rintro b ((q | q | q) | q)
    . cases q; exact ⟨hno _ (by omega), by omega⟩
    . cases q; exact ⟨hno _ (by omega), by omega⟩
    . exact q.elim
    . cases q
  . rintro i B C ⟨c1, c2⟩ hf
    refine ⟨c1.fr hf ?_, c2.fr hf ?_ (by omega)⟩
    . rintro b (q | q) <;> cases q
      exact ⟨by omega, by omega, by omega, hno _ (by omega)⟩
    . rintro b (q | q) <;> cases q
      rfl
  . rintro B C ⟨c1, c2⟩ hf
    exact ⟨c1.fr hf (fun b q => by cases q), c2.fr hf (fun b q => by cases q)⟩
  ·
   rintro i f B args hi ⟨c1, M, dv, iv, lv, j1, _, j2, j3, j4⟩ hfB ⟨rv, rrow⟩ ⟨xv, rfl, hx, hxl, ht1, ht9⟩
   obtain ⟨t, x⟩ := f
   simp only [] at hx hxl ht1 ht9
   have j4 := j4 _ hi
   simp only [] at j4
   refine ⟨_, rfl, ?_⟩
   simp only [RT, Q0, Q1, Q2, Q3, Q4, Q5, Q6, Q7, Q8]
   refine ⟨rfl, .refl _ B, fun B1 hB1 => ?_⟩
   have c1 : CB b2 b2 b5 b6 br bm m B1 := c1.fr hB1 (fun b q => by cases q)
   have j1 := hB1.loop_row j1
   have rrow1 := hB1.loop_row rrow
   have j3 : MsgIn (arrHq b2 B1) M dv iv lv := j3.mono (Ac4 (N := b2) hB1 (fun b q => by cases q))
   have hkeep : B1.blk[br]? = B.blk[br]? := by rw [rrow1, rrow]
   have xlen := fun B => hx.len (P := Try.prog) Try.underlying44 B
   have ld5 : ∀ {C}, CB b2 b2 b5 b6 br bm m C -> evLoad Try.prog 176 (.ptr b5 0) C = some (.ptr br 0) := fun q => Al3 Bt0 q.r5
   have fr := faR br
   have fail : ∀ {C : AS} {rv' : V} {c n : Int} {M' : Go.Sv.M} {dv' iv' lv' : V}, CB b2 b2 b5 b6 br bm m C -> C.blk[br]? = some ⟨[rv', .int .i64 c], .var⟩ -> C.blk[bm]? = some ⟨mc M' dv' iv' lv', .var⟩ -> M'.id.length = 32 -> putM M t x = .error n -> n ≠ 0 ->
    ∃ C', evStore Try.prog 45 (.ptr br 1) (.int .i64 n) C = some C' /\ Fr (· = .row br) C C' /\ CB b2 b2 b5 b6 br bm m C' /\ RdE b2 bm br kk.toNat s C' := by
    intro C rv' c n M' dv' iv' lv' z1 z2 z3 z4 z5 z6
    obtain ⟨C', y1, y2, y3⟩ := AQ6 (n := n) z2
    exact ⟨C', y1, y2, z1.fr y2 (by rintro b q; cases q; exact ⟨by omega, by omega, by omega, hno _ (by omega)⟩), .inl ⟨_, n, z6, y3, Ay2 j2 hi z5, M', dv', iv', lv', y2.rowNe z3 (by omega), z4⟩⟩
   have inBr : ∀ {C D : AS}, Fr (· = .row br) C D -> Fr (fun l => l = .row bm ∨ l = .row br ∨ famsFrom b2 l) C D := fun q => q.mono fun _ z => .inr (.inl z)
   have inBm : ∀ {C D : AS}, Fr (· = .row bm) C D -> Fr (fun l => l = .row bm ∨ l = .row br ∨ famsFrom b2 l) C D := fun q => q.mono fun _ z => .inl z
   have inFam : ∀ {C D : AS}, Fr (famsFrom b2) C D -> Fr (fun l => l = .row bm ∨ l = .row br ∨ famsFrom b2 l) C D := fun q => q.mono fun _ z => .inr (.inr z)
   have cbm : ∀ {C D : AS}, CB b2 b2 b5 b6 br bm m C -> Fr (· = .row bm) C D -> CB b2 b2 b5 b6 br bm m D := fun q z => q.fr z (by rintro b q; cases q; exact ⟨by omega, by omega, by omega, hno _ (by omega)⟩)
   have famM : Fr (fun l => l = .row bm ∨ l = .row br ∨ famsFrom b2 l) B1 B1 := .refl _ _
   have hid := j3.id
   have faB := faM bm
   have ldm := ldM j1 hid
   simp only [RT, Q0, Q1, Q2, Q3, Q4, Q5, Q6, Q7, Q8, xlen]
   refine Aa1 (fun g => ?_) (fun g => ?_)
   . have hx0 : x = [] := List.eq_nil_of_length_eq_zero (by omega)
     have hp : putM M t x = .error 23 := by unfold putM; rw [if_pos hx0]
     obtain ⟨C, k1, k2, k3, k4⟩ := fail c1 rrow1 j1 hid hp (by decide)
     simp only [RT, Q0, Q1, Q2, Q3, Q4, Q5, Q6, Q7, Q8, ld5 c1, fr, k1]
     exact ⟨inBr k2, .inr ⟨rfl, k3, k4⟩⟩
   have hx0 : x ≠ [] := fun q => g (by rw [q]; rfl)
   simp only [RT, Q0, Q1, Q2, Q3, Q4, Q5, Q6, Q7, Q8]
   refine Aa1 (fun g1 => ?_) (fun g1 => ?_)
   ·
    have ht6 : t < 6 := by omega
    have hsub : IntKind.u8.wrap ((t : Int) - 1) = ((t - 1 : Nat) : Int) := by
     have : ((t : Int) - 1) = ((t - 1 : Nat) : Int) := by omega
     rw [this, AW0, UInt8.toNat_ofNat']
     omega
    have had : evIndexAddr Try.prog 180 (.ptr b6 0) (.int .u8 ((t - 1 : Nat) : Int)) = some (.ptr b6 (t - 1)) := by
     have := Ar1 (P := Try.prog) (t := 180) (b := b6) (o := 0) (k := .u8) (i := t - 1) Try.underlying180 BV8 (by omega)
     simpa using this
    have hptr : (ptrs bm)[t - 1]? = some (.ptr bm t) := by
     match t, ht1, ht6 with
     | 1, _, _ => rfl
     | 2, _, _ => rfl
     | 3, _, _ => rfl
     | 4, _, _ => rfl
     | 5, _, _ => rfl
    have ld6 : ∀ {C}, CB b2 b2 b5 b6 br bm m C -> evLoad Try.prog 179 (.ptr b6 (t - 1)) C = some (.ptr bm t) := fun q => by rw [Ab9 BV9 q.r6, hptr]
    obtain ⟨w, C, k1, k2⟩ := AQ8 c1.on (hno br (by omega)) rrow1 hx hxl hx0
    simp only [RT, Q0, Q1, Q2, Q3, Q4, Q5, Q6, Q7, Q8]
    simp only [RT, Q0, Q1, Q2, Q3, Q4, Q5, Q6, Q7, Q8, Br8, hsub, had, ld6 c1, ld5 c1, Aa4]
    refine Aa0 k1 ?_
    rcases k2 with ⟨k2, k3, k4, n, rfl⟩ | ⟨n, k2, rfl, rfl⟩
    . have cC : CB b2 b2 b5 b6 br bm m C := c1.fr k3 (by rintro b q; cases q; exact ⟨by omega, by omega, by omega, hno _ (by omega)⟩)
      have j1C := k3.rowNe j1 (show bm ≠ br by omega)
      obtain ⟨C', y1, y2, y3⟩ := AA1 (o := t) (t := 3) (w := .int .i64 n) (cs := [.int .i64 n]) j1C hid rfl sz3 (by simp only [List.length_singleton]; omega) rfl
      rw [Bb8 ht1 ht6] at y3
      have cC' := cbm cC y2
      have hp : putM M t x = .error 23 := by unfold putM; rw [if_neg hx0, if_pos ht6, k2]
      have row' := y2.rowNe k4 (show br ≠ bm by omega)
      have ldr' := ldR row'
      simp only [RT, Q0, Q1, Q2, Q3, Q4, Q5, Q6, Q7, Q8, Aa4]
      refine ⟨Aa3 (ha := rfl) rfl (ld6 cC) rfl Aa4, ?_⟩
      simp only [RT, Q0, Q1, Q2, Q3, Q4, Q5, Q6, Q7, Q8, y1, Aa4, ld5 cC', fr, ldr']
      exact ⟨(inBr k3).thn (inBm y2), .inr ⟨rfl, cC', .inl ⟨_, 23, by decide, row', Ay2 j2 hi hp, _, _, _, _, y3, by rw [(AC3 M t n).1]; exact hid⟩⟩⟩
    . obtain ⟨C', y1, y2, y3⟩ := AA1 (o := t) (t := 3) (w := .int .i64 n) (cs := [.int .i64 n]) j1 hid rfl sz3 (by simp only [List.length_singleton]; omega) rfl
      rw [Bb8 ht1 ht6] at y3
      have cC' := cbm c1 y2
      have hp : putM M t x = .ok (setNum M t n) := by unfold putM; rw [if_neg hx0, if_pos ht6, k2]
      have row' := y2.rowNe rrow1 (show br ≠ bm by omega)
      have ldr' := ldR row'
      obtain ⟨z1, z2, z3, z4⟩ := AC3 M t n
      simp only [RT, Q0, Q1, Q2, Q3, Q4, Q5, Q6, Q7, Q8, Aa4]
      refine ⟨Aa3 (ha := rfl) rfl (ld6 c1) rfl Aa4, ?_⟩
      simp only [RT, Q0, Q1, Q2, Q3, Q4, Q5, Q6, Q7, Q8, y1, Aa4, ld5 cC', fr, ldr']
      have le := Ac4 (N := b2) y2 (fun b q => by cases q; exact Ad1 j1)
      refine ⟨inBm y2, .inl ⟨rfl, ⟨cC', RdJ.step hi j2 j4 hp y3 ⟨_, row'⟩ ⟨by rw [z1]; exact hid, by rw [z2]; exact j3.data.mono le, by rw [z3]; exact j3.ids.mono le, by rw [z4]; exact j3.list.mono le⟩ (fun _ => ⟨rfl, z3⟩) (fun _ => ⟨rfl, z4⟩)⟩, ?_⟩⟩
      rintro r rfl
      rw [row', rrow]
   simp only [RT, Q0, Q1, Q2, Q3, Q4, Q5, Q6, Q7, Q8]
   have ht6 : ¬ t < 6 := by omega
   refine Aa1 (fun g2 => ?_) (fun g2 => ?_)
   ·
    have ht : t = 6 := by omega
    simp only [RT, Q0, Q1, Q2, Q3, Q4, Q5, Q6, Q7, Q8, xlen]
    refine Ab8 (fun g3 => ?_) (fun g3 => ?_)
    . have hp : putM M t x = .error 23 := by unfold putM; rw [if_neg hx0, if_neg ht6, if_pos ht, if_pos (.inl (by omega))]
      obtain ⟨C, k1, k2, k3, k4⟩ := fail c1 rrow1 j1 hid hp (by decide)
      simp only [RT, Q0, Q1, Q2, Q3, Q4, Q5, Q6, Q7, Q8, g3, ld5 c1, fr, k1]
      exact ⟨inBr k2, .inr ⟨rfl, k3, k4⟩⟩
    have hxl32 : x.length = 32 := by omega
    obtain ⟨b7, o7, z1, z2⟩ := AQ9 hx c1.on hxl32
    simp only [RT, Q0, Q1, Q2, Q3, Q4, Q5, Q6, Q7, Q8, g3, z1, z2, BD6, eqI hxl32 (rfl : zero32.length = 32)]
    refine Aa1 (fun g4 => ?_) (fun g4 => ?_)
    . have hp : putM M t x = .error 23 := by unfold putM; rw [if_neg hx0, if_neg ht6, if_pos ht, if_pos (.inr g4)]
      obtain ⟨C, k1, k2, k3, k4⟩ := fail c1 rrow1 j1 hid hp (by decide)
      simp only [RT, Q0, Q1, Q2, Q3, Q4, Q5, Q6, Q7, Q8, ld5 c1, fr, k1]
      exact ⟨inBr k2, .inr ⟨rfl, k3, k4⟩⟩
    . have hp : putM M t x = .ok { M with id := x } := by
       unfold putM; rw [if_neg hx0, if_neg ht6, if_pos ht, if_neg]
       rintro (q | q)
       . exact q hxl32
       . exact g4 q
      obtain ⟨C', y1, y2, y3⟩ := AA1 (o := 6) (t := 32) (w := .agg (bc x)) (cs := bc x) j1 hid rfl (by rw [Aa5, hxl32]; exact As0) (by rw [Aa5, hxl32]; decide) (Ae0 x)
      rw [BE7 hid hxl32] at y3
      have cC' := cbm c1 y2
      have row' := y2.rowNe rrow1 (show br ≠ bm by omega)
      have ldr' := ldR row'
      simp only [RT, Q0, Q1, Q2, Q3, Q4, Q5, Q6, Q7, Q8, z1, z2, faB, y1, ld5 cC', fr, ldr']
      have le := Ac4 (N := b2) y2 (fun b q => by cases q; exact Ad1 j1)
      refine ⟨inBm y2, .inl ⟨rfl, ⟨cC', RdJ.step hi j2 j4 hp y3 ⟨_, row'⟩ ⟨hxl32, j3.data.mono le, j3.ids.mono le, j3.list.mono le⟩ (fun _ => ⟨rfl, rfl⟩) (fun _ => ⟨rfl, rfl⟩)⟩, ?_⟩⟩
      rintro r rfl
      rw [row', rrow]
   simp only [RT, Q0, Q1, Q2, Q3, Q4, Q5, Q6, Q7, Q8]
   have ht7 : ¬ t = 6 := by omega
   refine Aa1 (fun g3 => ?_) (fun g3 => ?_)
   ·
    have ht : t = 7 := by omega
    have hp : putM M t x = .ok { M with data := x } := by unfold putM; rw [if_neg hx0, if_neg ht6, if_neg ht7, if_pos ht]
    simp only [RT, Q0, Q1, Q2, Q3, Q4, Q5, Q6, Q7, Q8, BX0]
    have o2 := Own.new (N := b2) (n := 0) (sz := 1) (cs := []) c1.wf c1.len rfl rfl
    have q1 := Fr.pushArr B1 []
    have cP := c1.fr q1 (fun b q => q.elim)
    have j1P := q1.row0 j1
    have rP := q1.row0 rrow1
    have leP := Ac4 (N := b2) q1 (fun b q => q.elim)
    generalize B1.push ⟨[], .arr B1.blk.length 0⟩ = C at *
    obtain ⟨v', D, p1, p2, p3⟩ := o2.app Bt2 cP.wf cP.len (Av9 (P := Try.prog) (tx := 44) Try.underlying44 hx cP.on) (by rw [List.length_map, Nat.mul_one]) (Ae0 x) (by omega) (by omega)
    have cD := cP.fr p3 (fun b q => q.elim)
    have j1D := p3.fam_row j1P
    have rD := p3.fam_row rP
    have leD := Ac4 (N := b2) p3 (fun b q => q.elim)
    obtain ⟨C', y1, y2, y3⟩ := AA1 (o := 38) (t := 44) (w := v') (cs := [v']) j1D hid p2.cells1 A28 (by simp) (by simp [p2.one])
    rw [Bb9 hid x] at y3
    have cC' := cbm cD y2
    have row' := y2.rowNe rD (show br ≠ bm by omega)
    have ldr' := ldR row'
    have leC := Ac4 (N := b2) y2 (fun b q => by cases q; exact Ad1 j1D)
    have le := fun {τ : Type} {E : Enc τ} {w : V} {l : List τ} (q : Slc E (arrHq b2 B1) w l) => ((q.mono leP).mono leD).mono leC
    have p2' : Own b2 C' v' x.length 1 (bc x) := (p2.cast (by omega) rfl).frRow y2 j1D
    simp only [RT, Q0, Q1, Q2, Q3, Q4, Q5, Q6, Q7, Q8, p1, faB, y1, ld5 cC', fr, ldr']
    refine ⟨(q1.after0 (inFam p3)).thn (inBm y2), .inl ⟨rfl, ⟨cC', RdJ.step hi j2 j4 hp y3 ⟨_, row'⟩ ⟨hid, p2'.arrBtsQ (Nat.le_refl _), le j3.ids, le j3.list⟩ (fun _ => ⟨rfl, rfl⟩) (fun _ => ⟨rfl, rfl⟩)⟩, ?_⟩⟩
    rintro r rfl
    rw [row', rrow]
   simp only [RT, Q0, Q1, Q2, Q3, Q4, Q5, Q6, Q7, Q8]
   have ht8 : ¬ t = 7 := by omega
   refine Aa1 (fun g4 => ?_) (fun g4 => ?_)
   ·
    have ht : t = 8 := by omega
    obtain ⟨rfl, hids⟩ := j4.1 (by omega)
    have hrem : evBin Try.prog .rem 3 (.int .i64 (x.length : Int)) (.int .i64 32) = some (.int .i64 ((x.length % 32 : Nat) : Int)) := Bi7 _ 32 (by decide)
    simp only [RT, Q0, Q1, Q2, Q3, Q4, Q5, Q6, Q7, Q8, xlen, hrem]
    refine Aa1 (fun g5 => ?_) (fun g5 => ?_)
    . have hp : putM M t x = .error 23 := by unfold putM; rw [if_neg hx0, if_neg ht6, if_neg ht7, if_neg ht8, if_pos ht, if_pos (by omega)]
      obtain ⟨C, k1, k2, k3, k4⟩ := fail c1 rrow1 j1 hid hp (by decide)
      simp only [RT, Q0, Q1, Q2, Q3, Q4, Q5, Q6, Q7, Q8, ld5 c1, fr, k1]
      exact ⟨inBr k2, .inr ⟨rfl, k3, k4⟩⟩
    have hp : putM M t x = .ok { M with ids := chunk32 x } := by unfold putM; rw [if_neg hx0, if_neg ht6, if_neg ht7, if_neg ht8, if_pos ht, if_neg (by omega), hids, List.nil_append]
    simp only [RT, Q0, Q1, Q2, Q3, Q4, Q5, Q6, Q7, Q8]
    refine Aa2 (fun n e C => Fr (fun l => l = .row bm ∨ l = .row br ∨ famsFrom b2 l) B1 C /\ CB b2 b2 b5 b6 br bm m C /\ C.blk[br]? = some ⟨[rv, .int .i64 0], .var⟩ /\ e.get 4 = .ptr bm 0 /\ e.get 5 = .ptr b5 0 /\ (arrHq b2 B1).le (arrHq b2 C) /\
     ∃ (done : List Bts) (rest : Bts) (xv' iv' : V), n = rest.length /\ e.get 8 = xv' /\ Slc eU8 m xv' rest /\ rest.length % 32 = 0 /\ rest.length <= x.length /\ done.length * 32 + rest.length = x.length /\ (∀ b ∈ done, b.length = 32) /\ chunk32 x = done ++ chunk32 rest /\ C.blk[bm]? = some ⟨mc { M with ids := done } dv iv' lv, .var⟩ /\ Own b2 C iv' done.length 32 (cellsAllB done))
     (fun z e C => Is z (.exit 3) /\ Fr (fun l => l = .row bm ∨ l = .row br ∨ famsFrom b2 l) B1 C /\ CB b2 b2 b5 b6 br bm m C /\ C.blk[br]? = some ⟨[rv, .int .i64 0], .var⟩ /\ e.get 5 = .ptr b5 0 /\ (arrHq b2 B1).le (arrHq b2 C) /\
      ∃ iv', C.blk[bm]? = some ⟨mc { M with ids := chunk32 x } dv iv' lv, .var⟩ /\ Slc eId (arrHq b2 C) iv' (chunk32 x))
     ⟨_, .refl _ B1, c1, rrow1, rfl, rfl, Hp.le_refl _, [], x, xv, .snil, rfl, rfl, hx, by omega, Nat.le_refl _, by simp, by simp, rfl, by rw [<- hids]; exact j1, by simpa [cellsAllB] using Own.nil b2 B1 32⟩ ?_ ?_
    . rintro n e C ⟨fC, cC, rC, h4, h5, leC, done, rest, xv', iv', rfl, h8, hx', hmod, hle, hsum, hall, hch, jC, own⟩
      have xlen' := fun B => hx'.len (P := Try.prog) Try.underlying44 B
      have ldc := ldM jC hid
      simp only [RT, Q0, Q1, Q2, Q3, Q4, Q5, Q6, Q7, Q8, h8, xlen']
      refine Aa1 (fun g6 => ?_) (fun g6 => ?_)
      . have hr32 : 32 <= rest.length := by omega
        have hrne : rest ≠ [] := by rintro rfl; simp at g6
        obtain ⟨w3, u3, u4⟩ := hx'.subTo (P := Try.prog) (t := 44) (hi := 32) (kh := .i64) Try.underlying44 sz5 hr32 C
        have u3 : evSlice Try.prog 44 xv' none (some (.int .i64 32)) none C = some w3 := u3
        obtain ⟨w4, u5, u6⟩ := hx'.subFrom (P := Try.prog) (t := 44) (lo := 32) (kl := .i64) Try.underlying44 sz5 hr32 C
        have htl : (rest.take 32).length = 32 := by rw [List.length_take]; omega
        obtain ⟨b7, o7, z1, z2⟩ := AQ9 u4 cC.on htl
        obtain ⟨v', D, p1, p2, p3⟩ := own.appNew (k := 1) (new := bc (rest.take 32)) Bv2 Try.underlying36 cC.wf cC.len (by rw [Aa5, htl]) (Ae0 _) (by omega) (by omega)
        have cD := cC.fr p3 (fun b q => q.elim)
        have jD := p3.fam_row jC
        have rD := p3.fam_row rC
        have leD := Ac4 (N := b2) p3 (fun b q => q.elim)
        obtain ⟨E, y1, y2, y3⟩ := AA1 (o := 39) (t := 36) (w := v') (cs := [v']) jD hid p2.cells1 BV1 (by simp) (by simp [p2.one])
        rw [Bt6 (x := { M with ids := done }) hid (done ++ [rest.take 32])] at y3
        have cE := cbm cD y2
        have rE := y2.rowNe rD (show br ≠ bm by omega)
        have leE := Ac4 (N := b2) y2 (fun b q => by cases q; exact Ad1 jD)
        have u5 : ∀ B, evSlice Try.prog 44 xv' (some (.int .i64 32)) none none B = some w4 := fun B => by
         rw [<- u5]
         rcases hx'.form with rfl | ⟨b, o, n, z, rfl⟩ <;> rfl
        simp only [RT, Q0, Q1, Q2, Q3, Q4, Q5, Q6, Q7, Q8]
        rw [Br9, Aa8 (by rfl)]
        simp only [RT, Q0, Q1, Q2, Q3, Q4, Q5, Q6, Q7, Q8, h4, h8, faB, ldc, u3, z1, z2, BX1 htl, p1, y1, u5]
        refine ⟨(rest.drop 32).length, by rw [List.length_drop]; omega, (fC.thn (inFam p3)).thn (inBm y2), cE, rE, h5, Hp.le_trans leC (Hp.le_trans leD leE), done ++ [rest.take 32], rest.drop 32, w4, v', rfl, rfl, u6, by rw [List.length_drop]; omega, by rw [List.length_drop]; omega, by rw [List.length_append, List.length_drop]; simp; omega, ?_, ?_, y3, (p2.frRow y2 jD).cast (by simp) (by simp [cellsAllB])⟩
        . intro b hb
          rcases List.mem_append.1 hb with q | q
          . exact hall b q
          . simp at q; rw [q]; exact htl
        . rw [hch, Ak5 hrne]; simp
      . have : rest = [] := List.eq_nil_of_length_eq_zero (by omega)
        subst this
        simp only [RT, Q0, Q1, Q2, Q3, Q4, Q5, Q6, Q7, Q8]
        rw [An6, List.append_nil] at hch
        subst hch
        refine ⟨rfl, fC, cC, rC, h5, leC, iv', jC, Own.arrHq (E := eId) own (Nat.le_refl _) rfl fun i y hy => ⟨?_, hall y (List.mem_of_getElem? hy)⟩⟩
        exact Ay4 hall i y hy
    . rintro z e C hz ⟨rfl, fC, cC, rC, h5, leC, iv', jC, hiv'⟩
      have ldr' := ldR rC
      simp only [RT, Q0, Q1, Q2, Q3, Q4, Q5, Q6, Q7, Q8, h5, ld5 cC, fr, ldr']
      refine ⟨fC, .inl ⟨rfl, ⟨cC, RdJ.step hi j2 j4 hp jC ⟨_, rC⟩ ⟨hid, j3.data.mono leC, hiv', j3.list.mono leC⟩ (fun q => absurd q (by simp only []; omega)) (fun _ => ⟨rfl, rfl⟩)⟩, ?_⟩⟩
      rintro r rfl
      rw [rC, rrow]
   simp only [RT, Q0, Q1, Q2, Q3, Q4, Q5, Q6, Q7, Q8]
   have ht9' : ¬ t = 8 := by omega
   have ht : t = 9 := by omega
   have g5 : ((t : Int) = 9) := by omega
   obtain ⟨rfl, hlist⟩ := j4.2
   have hnv : arrHq b2 B1 br = none := Ad1 rrow1
   simp only [RT, Q0, Q1, Q2, Q3, Q4, Q5, Q6, Q7, Q8, g5, BW9 hx.form]
   obtain ⟨B2, e2, f2, r2, n2⟩ := Aa9 B1 [xv, .int .i64 0]
   rw [<- e2]
   obtain ⟨bi, hbi⟩ : ∃ y, y = B1.blk.length := ⟨_, rfl⟩
   rw [<- hbi] at r2 ⊢
   have l1 := Ac9 c1.r6
   have hbi1 : b2 <= bi := by have := c1.len; omega
   have hbi2 : bi ≠ b2 /\ bi ≠ b5 /\ bi ≠ b6 /\ bi ≠ br /\ bi ≠ bm := by
    have z1 := Ac9 c1.r2; have z2 := Ac9 c1.r5; have z3 := Ac9 c1.r6; have z4 := Ac9 rrow1; have z5 := Ac9 j1
    omega
   have c2 := c1.fr f2 (fun b q => q.elim)
   have fi := faR bi
   have le2 := Ac4 (N := b2) f2 (fun b q => q.elim)
   clear e2
   refine Aa2 (fun n e C => Fr (fun l => l = .row bm ∨ l = .row br ∨ famsFrom b2 l) B1 C /\ CB b2 b2 b5 b6 br bm m C /\ C.blk[br]? = some ⟨[rv, .int .i64 0], .var⟩ /\ e.get 4 = .ptr bm 0 /\ e.get 5 = .ptr b5 0 /\ e.get 9 = .ptr bi 0 /\ (arrHq b2 B1).le (arrHq b2 C) /\
    ∃ (done : List Bts) (rest : Bts) (rv' lv' : V) (lvs : List V), n = rest.length /\ C.blk[bi]? = some ⟨[rv', .int .i64 0], .var⟩ /\ Slc eU8 m rv' rest /\ rest.length + done.length <= x.length /\ runsOf x = (runsOf rest).map (done ++ ·) /\ C.blk[bm]? = some ⟨mc { M with list := done } dv iv lv', .var⟩ /\
     Own b2 C lv' done.length 1 lvs /\ ∀ (i : Nat) b, done[i]? = some b -> ∃ w, lvs[i]? = some w /\ Slc eU8 (arrHq b2 C) w b)
    (fun z e C => Fr (fun l => l = .row bm ∨ l = .row br ∨ famsFrom b2 l) B1 C /\ CB b2 b2 b5 b6 br bm m C /\ e.get 5 = .ptr b5 0 /\ ((Is z (.exit 5) /\ C.blk[br]? = some ⟨[rv, .int .i64 0], .var⟩ /\ (arrHq b2 B1).le (arrHq b2 C) /\
     ∃ lv' l, runsOf x = some l /\ C.blk[bm]? = some ⟨mc { M with list := l } dv iv lv', .var⟩ /\ Slc (eSl eU8) (arrHq b2 C) lv' l) ∨ (Is z (.exit 0) /\ RdE b2 bm br kk.toNat s C)))
    ⟨_, f2.mono fun _ q => q.elim, c2, f2.row0 rrow1, rfl, rfl, rfl, le2, [], x, xv, .snil, [], rfl, r2, hx, by simp, by simp, by rw [<- hlist]; exact f2.row0 j1, Own.nil b2 B2 1, by simp⟩ ?_ ?_
   . rintro n e C ⟨fC, cC, rC, h4, h5, h9, leC, done, rest, rv', lv', lvs, rfl, riC, hx', hle, hrun, jC, own, hlv⟩
     have ldi := ldR riC
     have xlen' := fun B => hx'.len (P := Try.prog) Try.underlying44 B
     simp only [RT, Q0, Q1, Q2, Q3, Q4, Q5, Q6, Q7, Q8, h9, fi, ldi, xlen']
     refine Aa1 (fun g6 => ?_) (fun g6 => ?_)
     . have hrne : rest ≠ [] := by rintro rfl; simp at g6
       simp only [RT, Q0, Q1, Q2, Q3, Q4, Q5, Q6, Q7, Q8, h9]
       obtain ⟨w, D, k1, k2, k3⟩ := AQ7 cC.on (hno bi hbi1) riC hx' (by omega)
       refine Aa0 k1 ?_
       have cD := cC.fr k2 (by rintro b q; cases q; exact ⟨hbi2.1, hbi2.2.1, hbi2.2.2.1, hno _ hbi1⟩)
       have inBi : Fr (fun l => l = .row bm ∨ l = .row br ∨ famsFrom b2 l) B1 D := fC.trans k2 (by rintro l rfl; exact .inr (by show B1.blk.length <= bi; omega))
       have rD := k2.rowNe rC (show br ≠ bi by omega)
       have jD := k2.rowNe jC (show bm ≠ bi by omega)
       have leD := Ac4 (N := b2) k2 (fun b q => by cases q; exact Ad1 riC)
       rcases k3 with ⟨k3, rfl, k4⟩ | ⟨y, r', rv2, k3, k4, k5, k6⟩
       . have ldi2 := ldR k4
         have hp : putM M t x = .error 20 := by
          unfold putM; rw [if_neg hx0, if_neg ht6, if_neg ht7, if_neg ht8, if_neg ht9', hrun, An5 hrne k3]; rfl
         obtain ⟨C', y1, y2, y3, y4⟩ := fail cD rD jD hid hp (by decide)
         simp only [RT, Q0, Q1, Q2, Q3, Q4, Q5, Q6, Q7, Q8, h9, fi, ldi2]
         rw [Bs0, Aa8 (by rfl)]
         simp only [RT, Q0, Q1, Q2, Q3, Q4, Q5, Q6, Q7, Q8, h5, h9, ld5 cD, fr, fi, ldi2, y1]
         exact ⟨inBi.thn (inBr y2), y3, .inr ⟨rfl, y4⟩⟩
       . have ldi2 := ldR k5
         have hl3 := Ad4 k3
         have ldd := ldM jD hid
         simp only [RT, Q0, Q1, Q2, Q3, Q4, Q5, Q6, Q7, Q8, h9, fi, ldi2]
         simp only [RT, Q0, Q1, Q2, Q3, Q4, Q5, Q6, Q7, Q8, Bs1, h4, faB, ldd, BX0, Aa4]
         have o2 := Own.new (N := D.blk.length) (n := 0) (sz := 1) (cs := []) cD.wf (Nat.le_refl _) rfl rfl
         have q1 := Fr.pushArr D []
         have onP := cD.on.fr0 q1
         have wP := q1.wf cD.wf
         have nP := q1.len
         generalize D.push ⟨[], .arr D.blk.length 0⟩ = F at *
         obtain ⟨v1, G, p1, p2, p3⟩ := o2.app Bt2 wP nP (Av9 (P := Try.prog) (tx := 44) Try.underlying44 k4 onP) (by rw [List.length_map, Nat.mul_one]) (Ae0 y) (by omega) (by omega)
         have fDG := q1.after0 p3
         have inFamN : ∀ {X Y : AS} {n : Nat}, b2 <= n -> Fr (famsFrom n) X Y -> Fr (fun l => l = .row bm ∨ l = .row br ∨ famsFrom b2 l) X Y := fun hn q => q.mono fun l z => .inr (.inr (by
          cases l <;> first | exact Nat.le_trans hn z | exact z))
         have cG := cD.fr fDG (fun b q => q.elim)
         have jG := fDG.fam_row jD
         have rG := fDG.fam_row rD
         have iG := fDG.fam_row k5
         have leG := Ac4 (N := b2) fDG (fun b q => q.elim)
         have ownG := (own.frRow k2 riC).fams0 (Nat.le_refl _) fDG
         have ldg := ldM jG hid
         have p2' : Own D.blk.length G v1 y.length 1 (bc y) := p2.cast (by omega) rfl
         obtain ⟨v2, K, u1, u2, u3⟩ := ownG.appNew (k := 1) (new := [v1]) BO2 Try.underlying22 cG.wf cG.len rfl (by simp [p2'.one]) (by omega) (by omega)
         have cK := cG.fr u3 (fun b q => q.elim)
         have jK := u3.fam_row jG
         have rK := u3.fam_row rG
         have iK := u3.fam_row iG
         have leK := Ac4 (N := b2) u3 (fun b q => q.elim)
         obtain ⟨E, y1, y2, y3⟩ := AA1 (o := 40) (t := 22) (w := v2) (cs := [v2]) jK hid u2.cells1 BO8 (by simp) (by simp [u2.one])
         rw [Bc0 (x := { M with list := done }) hid (done ++ [y])] at y3
         have cE := cbm cK y2
         have rE := y2.rowNe rK (show br ≠ bm by omega)
         have iE := y2.rowNe iK (show bi ≠ bm from hbi2.2.2.2.2)
         have leE := Ac4 (N := b2) y2 (fun b q => by cases q; exact Ad1 jK)
         have leGE := Hp.le_trans leK leE
         have hv1 := (p2'.arrBtsQ cD.len).mono leGE
         simp only [RT, Q0, Q1, Q2, Q3, Q4, Q5, Q6, Q7, Q8, p1, Aa4]
         refine ⟨Aa3 (ha := rfl) rfl ldg.2.2.2.2.2.2.2.2.2.1 rfl Aa4, ?_⟩
         simp only [RT, Q0, Q1, Q2, Q3, Q4, Q5, Q6, Q7, Q8, BZ2 p2'.form, u1, h4, faB, y1, Aa4]
         refine ⟨r'.length, by omega, (((inBi.thn (inFamN cD.len fDG))).thn (inFam u3)).thn (inBm y2), cE, rE, h5, h9, Hp.le_trans leC (Hp.le_trans leD (Hp.le_trans leG leGE)), done ++ [y], r', rv2, v2, lvs ++ [v1], rfl, iE, k6, by rw [List.length_append]; simp; omega, ?_, y3, (u2.frRow y2 jK).cast (by simp) rfl, ?_⟩
         . rw [hrun, Aj1 k3]
           cases runsOf r' <;> simp
         . intro j bb hj
           have hln : lvs.length = done.length := by have := own.1; omega
           rcases Nat.lt_or_ge j done.length with q | q
           . rw [List.getElem?_append_left q] at hj
             obtain ⟨w', z1, z2⟩ := hlv j bb hj
             exact ⟨w', by rw [List.getElem?_append_left (by omega)]; exact z1, z2.mono (Hp.le_trans leD (Hp.le_trans leG leGE))⟩
           . have hj' := (List.getElem?_eq_some_iff.1 hj).1
             simp only [List.length_append, List.length_singleton] at hj'
             have : j = done.length := by omega
             subst this
             simp at hj
             subst hj
             exact ⟨v1, by rw [<- hln]; simp, hv1⟩
     . have : rest = [] := List.eq_nil_of_length_eq_zero (by omega)
       subst this
       simp only [RT, Q0, Q1, Q2, Q3, Q4, Q5, Q6, Q7, Q8]
       rw [Ag6] at hrun
       refine ⟨fC, cC, h5, .inl ⟨rfl, rC, leC, lv', done, by rw [hrun]; simp, jC, Own.arrHq (E := eSl eU8) own (Nat.le_refl _) rfl fun j bb hj => ?_⟩⟩
       obtain ⟨w', z1, z2⟩ := hlv j bb hj
       refine ⟨w', ?_, z2⟩
       show (lvs.drop (j * 1)).take 1 = _
       rw [Nat.mul_one, List.take_one, List.head?_drop, z1]; rfl
   . rintro z e C hz ⟨fC, cC, h5, ⟨rfl, rC, leC, lv', l, hrun, jC, hlv⟩ | ⟨rfl, hE⟩⟩
     . have ldr' := ldR rC
       have hp : putM M t x = .ok { M with list := l } := by
        unfold putM; rw [if_neg hx0, if_neg ht6, if_neg ht7, if_neg ht8, if_neg ht9', hrun]; simp only [hlist, List.nil_append]
       simp only [RT, Q0, Q1, Q2, Q3, Q4, Q5, Q6, Q7, Q8, h5, ld5 cC, fr, ldr']
       refine ⟨fC, .inl ⟨rfl, ⟨cC, RdJ.step hi j2 j4 hp jC ⟨_, rC⟩ ⟨hid, j3.data.mono leC, j3.ids.mono leC, hlv⟩ (fun q => absurd q (by simp only []; omega)) (fun q => absurd q (by simp only []; omega))⟩, ?_⟩⟩
       rintro r rfl
       rw [rC, rrow]
     . simp only [RT, Q0, Q1, Q2, Q3, Q4, Q5, Q6, Q7, Q8]
       exact ⟨fC, .inr ⟨rfl, cC, hE⟩⟩
  . rintro B ⟨c1, M, dv, iv, lv, j1, _, j2, j3, _⟩ ⟨rv, rrow⟩
    refine ⟨c1, ?_⟩
    rw [List.take_length] at j2
    have hrest := AB7 j2
    by_cases hc : (items 0 s).2 = 0
    . rw [if_neg (by simpa using hc)] at hrest
      rw [hc] at rrow
      exact .inr ⟨rv, M, dv, iv, lv, rrow, hrest, j1, j3⟩
    . rw [if_pos hc] at hrest
      exact .inl ⟨rv, _, hc, rrow, hrest, M, dv, iv, lv, j1, j3.id⟩
  . rintro B ⟨cB, hE⟩ hfB
    have fB : Fr S0 A B := fA6.trans hfB (by
     rintro l (rfl | rfl | q)
     . exact .inr (by show A.blk.length <= bm; omega)
     . exact .inr (by show A.blk.length <= br; omega)
     . rw [<- hN] at q
       cases l <;> first | exact .inr q | exact q.elim)
    have ld5 : ∀ {C}, CB b2 b2 b5 b6 br bm m C -> evLoad Try.prog 176 (.ptr b5 0) C = some (.ptr br 0) := fun q => Al3 Bt0 q.r5
    have fr := faR br
    have fin : ∀ {C : AS} {c : Int} {rv : V}, CB b2 b2 b5 b6 br bm m C -> Fr S0 A C -> c ≠ 0 -> readM (kk :: s) = .error c ->
     ∃ C', evStore Try.prog 70 (.ptr b2 0) (.agg mcZ) C = some C' /\ CB b2 b2 b5 b6 br bm m C' /\ Fr (· = .row b2) C C' /\ evLoad Try.prog 70 (.ptr b2 0) C' = some (.agg mcZ) /\ Fr S0 A C' /\ RdOutN b2 (kk :: s) (.tup [.agg mcZ, .int .i64 c]) C' := by
     intro C c rv z1 z2 z3 z4
     obtain ⟨C', y1, y2, y3⟩ := AA1 (o := 0) (t := 70) (w := .agg mcZ) (cs := mcZ) z1.r2 zid rfl AP2 (by decide) rfl
     rw [Ab2 rfl] at y3
     exact ⟨C', y1, ⟨y3, y2.rowNe z1.r5 (by omega), y2.rowNe z1.r6 (by omega), z1.on.row y2 (hno _ (Nat.le_refl _)), y2.wf z1.wf, by have := y2.len; have := z1.len; omega⟩, y2, (ldM y3 zid).2.2.2.2.2.2.2.2.2.2, z2.row_ y2 (by omega), Aq6 z4⟩
    rcases hE with ⟨rv, c, q1, q2, q3, M, dv, iv, lv, q4, q5⟩ | ⟨rv, M, dv, iv, lv, q1, q2, q3, q4⟩
    . have ldr' := ldR q2
      have hrd : readM (kk :: s) = .error c := by rw [hread, q3]
      obtain ⟨C', y1, y2, y3, y4, y5, y6⟩ := fin (rv := rv) cB fB q1 hrd
      have row' := y3.rowNe q2 (show br ≠ b2 by omega)
      have ldr2 := ldR row'
      simp only [RT, Q0, Q1, Q2, Q3, Q4, Q5, Q6, Q7, Q8, ld5 cB, fr, ldr', q1]
      simp only [RT, Q0, Q1, Q2, Q3, Q4, Q5, Q6, Q7, Q8, A65, Af1, ld5 cB, fr, ldr', y1, Aa4]
      refine ⟨Aa3 (ha := rfl) rfl (ld5 y2) rfl (Aa3 (ha := rfl) rfl ldr2.2 rfl Aa4), ?_⟩
      simp only [RT, Q0, Q1, Q2, Q3, Q4, Q5, Q6, Q7, Q8, y4, Aa4]
      exact ⟨y5, y6⟩
    . have ldr' := ldR q1
      have ldm := ldM q3 q4.id
      have hsz := AL0 q2
      have hz0 : szM (msg0 kk.toNat) = 0 := rfl
      have hsized : Sized M := ⟨by simp only [szM] at hsz hz0; omega, by simp only [szM] at hsz hz0; omega, by simp only [szM] at hsz hz0; omega, fun b hb => by have := Aj3 hb; simp only [szM] at hsz hz0; omega⟩
      obtain ⟨_, C, k1, rfl, k2⟩ := AH4 (A63 b2 B) q4 hsized.ids hsized.data hsized.list hsized.each
      have cC := cB.fr k2 (fun b q => q.elim)
      have rC := k2.row0 q1
      obtain ⟨D, y1, y2, y3⟩ := AQ6 (n := checkM M) rC
      have cD := cC.fr y2 (by rintro b q; cases q; exact ⟨by omega, by omega, by omega, hno _ (by omega)⟩)
      have fD := (fB.then0 k2).row_ y2 (by omega)
      have ldd := ldR y3
      simp only [RT, Q0, Q1, Q2, Q3, Q4, Q5, Q6, Q7, Q8, ld5 cB, fr, ldr']
      simp only [RT, Q0, Q1, Q2, Q3, Q4, Q5, Q6, Q7, Q8, Bs2, ld5 cB, ldm, Aa4]
      refine Aa0 k1 ?_
      simp only [RT, Q0, Q1, Q2, Q3, Q4, Q5, Q6, Q7, Q8, Aa4]
      refine ⟨Aa3 (ha := rfl) rfl (ld5 cC) rfl Aa4, ?_⟩
      simp only [RT, Q0, Q1, Q2, Q3, Q4, Q5, Q6, Q7, Q8, fr, y1, ld5 cD, ldd, Aa4]
      refine Aa1 (fun g => ?_) (fun g => ?_)
      . have hrd : readM (kk :: s) = .error (checkM M) := by rw [hread, q2]; simp only []; rw [if_pos g]
        obtain ⟨E, z1, z2, z3, z4, z5, z6⟩ := fin (rv := rv) cD fD g hrd
        have row' := z3.rowNe y3 (show br ≠ b2 by omega)
        have ldr2 := ldR row'
        simp only [RT, Q0, Q1, Q2, Q3, Q4, Q5, Q6, Q7, Q8]
        simp only [RT, Q0, Q1, Q2, Q3, Q4, Q5, Q6, Q7, Q8, A65, Af1, ld5 cD, fr, ldd, z1, Aa4]
        refine ⟨Aa3 (ha := rfl) rfl (ld5 z2) rfl (Aa3 (ha := rfl) rfl ldr2.2 rfl Aa4), ?_⟩
        simp only [RT, Q0, Q1, Q2, Q3, Q4, Q5, Q6, Q7, Q8, z4, Aa4]
        exact ⟨z5, z6⟩
      . have hrd : readM (kk :: s) = .ok M := by rw [hread, q2]; simp only []; rw [if_neg g]
        have mD := y2.rowNe (k2.row0 q3) (show bm ≠ br by omega)
        have ldmD := ldM mD q4.id
        obtain ⟨E, z1, z2, z3⟩ := AA1 (o := 0) (t := 70) (w := .agg (mc M dv iv lv)) (cs := mc M dv iv lv) cD.r2 zid rfl (by rw [Ab5 q4.id]; exact AP2) (by rw [Ab5 q4.id]; decide) (Al7 q4)
        rw [Ab2 (by rw [Ab5 zid, Ab5 q4.id])] at z3
        have lde := (ldM z3 q4.id).2.2.2.2.2.2.2.2.2.2
        simp only [RT, Q0, Q1, Q2, Q3, Q4, Q5, Q6, Q7, Q8, ldmD, z1, lde]
        have le1 := Ac4 (N := b2) k2 (fun b q => q.elim)
        have le2 := Ac4 (N := b2) y2 (fun b q => by cases q; exact Ad1 rC)
        have le3 := Ac4 (N := b2) z2 (fun b q => by cases q; exact Ad1 cD.r2)
        exact ⟨fD.row_ z2 (by omega), Bc2 hrd (q4.mono (Hp.le_trans le1 (Hp.le_trans le2 le3)))⟩
theorem Bc3 {m : Hp} {A : AS} {v : V} {b : Bts} (hw : WF A) (hm : m.on A) (h : Slc eU8 m v b) (hb : b.length <= 1000000000000) :
 ∃ w A', EvF Try.prog HH 73 [v] A w A' /\ Fr S0 A A' /\ RdOut b w A' := by
 obtain ⟨w, A', h1, h2, dv, iv, lv, h3, h4⟩ := AH7 hw hm h hb
 exact ⟨w, A', h1, h2, dv, iv, lv, h3, h4.mono (AW2 _ _)⟩
end Go.Sv.Try
namespace Go.Sv.Try
open Go Go.Proofs
theorem AA7 {s : Bts} {i : Nat} {x : UInt8} {r : Bts} (h : s.drop i = x :: r) : s[i]? = some x /\ s.drop (i + 1) = r /\ i < s.length := by
 have h1 : (s.drop i)[0]? = some x := by rw [h]; rfl
 rw [List.getElem?_drop, Nat.add_zero] at h1
 refine ⟨h1, ?_, (List.getElem?_eq_some_iff.1 h1).1⟩
 rw [<- List.drop_drop, h]; rfl
set_option maxRecDepth 10000 in
set_option maxHeartbeats 8000000 in
theorem Ay5 {A : AS} {s : Bts} {i : Nat} (hi : i <= s.length) (hs : s.length <= 1000000000000) :
 ∃ w A', EvF Try.prog HH 101 [.str s, .int .i64 i] A w A' /\ A' = A /\ ((takeB (s.drop i) = none /\ w = .tup [.str [], .int .i64 i, .bool false]) ∨
  ∃ x r, takeB (s.drop i) = some (x, r) /\ w = .tup [.str x, .int .i64 ((i + 3 + x.length : Nat) : Int), .bool true] /\ r = s.drop (i + 3 + x.length) /\ i + 3 + x.length <= s.length) := by
 refine Aa6 rfl Try.func101 (by unfold Try.f101; rfl) Try.ntmps101 (by unfold Try.f101; rfl) (by simp) ?_
 have hw1 : IntKind.i64.wrap ((s.length : Int) - i) = (((s.drop i).length : Nat) : Int) := by rw [Ac6 (by omega) (by omega), List.length_drop]; omega
 simp only [RT, Q0, Q1, Q2, Q3, Q4, Q5, Q6, Q7, Q8, Ap8 Try.underlying9, hw1]
 refine Aa1 (fun g => ?_) (fun g => ?_)
 . have ht : takeB (s.drop i) = none := by
    match s.drop i, g with
    | [], _ => rfl
    | [a], _ => rfl
    | [a, b], _ => rfl
    | a :: b :: c :: q, g => simp at g; omega
   simp only [RT, Q0, Q1, Q2, Q3, Q4, Q5, Q6, Q7, Q8]
   exact .inl ht
 . match hd : s.drop i, g with
   | [], g => simp at g
   | [a], g => simp at g
   | [a, b], g => simp at g
   | a :: b :: c :: q, g =>
    clear g
    obtain ⟨x0, d0, i0⟩ := AA7 hd
    obtain ⟨x1, d1, i1⟩ := AA7 d0
    obtain ⟨x2, d2, i2⟩ := AA7 d1
    have ha := a.toNat_lt; have hbb := b.toNat_lt; have hc := c.toNat_lt
    have hql : (s.drop i).length = q.length + 3 := by rw [hd]; rfl
    rw [List.length_drop] at hql
    obtain ⟨n, hn⟩ : ∃ n, n = a.toNat * 65536 + b.toNat * 256 + c.toNat := ⟨_, rfl⟩
    have hnn : n < 16777216 := by omega
    have y0 := AA0 (P := Try.prog) (t := 9) (k := .i64) Try.underlying9 x0
    have y1 := AA0 (P := Try.prog) (t := 9) (k := .i64) Try.underlying9 x1
    have y2 := AA0 (P := Try.prog) (t := 9) (k := .i64) Try.underlying9 x2
    have e1 : IntKind.i64.wrap ((i : Int) + 1) = ((i + 1 : Nat) : Int) := Af3 (by omega)
    have e2 : IntKind.i64.wrap ((i : Int) + 2) = ((i + 1 + 1 : Nat) : Int) := by rw [Ac6 (by omega) (by omega)]; omega
    have m1 : IntKind.i64.wrap ((a.toNat : Int) * 65536) = ((a.toNat * 65536 : Nat) : Int) := by rw [Ac6 (by omega) (by omega)]; omega
    have m2 : IntKind.i64.wrap ((b.toNat : Int) * 256) = ((b.toNat * 256 : Nat) : Int) := by rw [Ac6 (by omega) (by omega)]; omega
    have m3 : IntKind.i64.wrap (((a.toNat * 65536 : Nat) : Int) + ((b.toNat * 256 : Nat) : Int)) = ((a.toNat * 65536 + b.toNat * 256 : Nat) : Int) := by rw [Ac6 (by omega) (by omega)]; omega
    have m4 : IntKind.i64.wrap (((a.toNat * 65536 + b.toNat * 256 : Nat) : Int) + (c.toNat : Int)) = (n : Int) := by rw [Ac6 (by omega) (by omega)]; omega
    have m5 : IntKind.i64.wrap (((a :: b :: c :: q).length : Int) - 3) = (q.length : Int) := by rw [Ac6 (by simp only [List.length_cons]; omega) (by simp only [List.length_cons]; omega)]; simp only [List.length_cons]; omega
    have hw1' : IntKind.i64.wrap ((s.length : Int) - i) = ((a :: b :: c :: q).length : Int) := by rw [<- hd]; exact hw1
    have e3 : IntKind.i64.wrap ((i : Int) + 3) = ((i + 3 : Nat) : Int) := by rw [Ac6 (by omega) (by omega)]; omega
    have e4 : IntKind.i64.wrap (((i + 3 : Nat) : Int) + (n : Int)) = ((i + 3 + n : Nat) : Int) := by rw [Ac6 (by omega) (by omega)]; omega
    simp only [RT, Q0, Q1, Q2, Q3, Q4, Q5, Q6, Q7, Q8]
    rw [Bs6, Aa8 (by rfl)]
    simp only [RT, Q0, Q1, Q2, Q3, Q4, Q5, Q6, Q7, Q8, y0, y1, y2, AX7, e1, e2, m1, m2, m3, m4, Ap8 Try.underlying9, hw1', m5]
    simp only [takeB, <- hn]
    refine Aa1 (fun g => ?_) (fun g => ?_)
    . simp only [RT, Q0, Q1, Q2, Q3, Q4, Q5, Q6, Q7, Q8]
      exact .inl (if_pos (by omega))
    . have hsub := BC5 (P := Try.prog) (A := A) (t := 9) (l := s) (k := .i64) (k' := .i64) (lo := i + 3) (hi := i + 3 + n) Try.underlying9 (by omega) (by omega)
      simp only [RT, Q0, Q1, Q2, Q3, Q4, Q5, Q6, Q7, Q8, e3, e4, hsub]
      rw [if_neg (by omega)]
      have hx : (s.take (i + 3 + n)).drop (i + 3) = q.take n := by
       have d3 : s.drop (i + 3) = q := d2
       rw [List.drop_take, d3, show i + 3 + n - (i + 3) = n by omega]
      have hxl : (q.take n).length = n := by rw [List.length_take]; omega
      rw [hx]
      refine .inr ⟨_, _, rfl, by rw [hxl], ?_, by rw [hxl]; omega⟩
      rw [hxl, <- List.drop_drop]
      rw [show s.drop (i + 3) = q from d2]
set_option maxRecDepth 10000 in
set_option maxHeartbeats 8000000 in
theorem AF7 {A : AS} {s : Bts} (hs : s.length <= 1000000000000) (hne : s ≠ []) :
 ∃ w A', EvF Try.prog HH 116 [.str s] A w A' /\ A' = A /\ ((numOf s = none /\ ∃ n : Int, w = .tup [.int .i64 n, .bool false]) ∨ ∃ n : Nat, numOf s = some n /\ w = .tup [.int .i64 n, .bool true]) := by
 refine Aa6 rfl Try.func116 (by unfold Try.f116; rfl) Try.ntmps116 (by unfold Try.f116; rfl) (by simp) ?_
 obtain ⟨z, hz⟩ := Ad0 (l := s) (i := 0) (by have : s.length ≠ 0 := fun q => hne (List.eq_nil_of_length_eq_zero q); omega)
 have y0 := AA0 (P := Try.prog) (t := 9) (k := .i64) Try.underlying9 hz
 have y0 : evIndex Try.prog 9 (.str s) (.int .i64 0) = some (.int .u8 z.toNat) := y0
 have z0 : s[0]? = some 0 ↔ z = 0 := by rw [hz]; simp
 have hlen := fun B => Ap8 (P := Try.prog) Try.underlying9 s B
 simp only [RT, Q0, Q1, Q2, Q3, Q4, Q5, Q6, Q7, Q8, hne, y0]
 refine Ab8 (fun g1 => ?_) (fun g1 => ?_)
 . simp only [RT, Q0, Q1, Q2, Q3, Q4, Q5, Q6, Q7, Q8, g1]
   have : z = 0 := UInt8.toNat_inj.1 (by simpa using g1)
   exact .inl ⟨by unfold numOf; rw [if_pos (.inr (.inl (z0.2 this)))], _, rfl⟩
 have hz0 : z ≠ 0 := fun q => g1 (by rw [q]; rfl)
 simp only [RT, Q0, Q1, Q2, Q3, Q4, Q5, Q6, Q7, Q8, g1, hlen]
 refine Aa1 (fun g2 => ?_) (fun g2 => ?_)
 . simp only [RT, Q0, Q1, Q2, Q3, Q4, Q5, Q6, Q7, Q8]
   exact .inl ⟨by unfold numOf; rw [if_pos (.inr (.inr (.inl (by omega))))], _, rfl⟩
 simp only [RT, Q0, Q1, Q2, Q3, Q4, Q5, Q6, Q7, Q8]
 refine AB5 (fun k e B => B = A /\ e.get 0 = .str s /\ ∃ i : Nat, k = s.length - i /\ i <= s.length /\ e.get 5 = .int .i64 i /\ e.get 4 = .int .i64 (valOf (s.take i) : Nat))
  ⟨_, rfl, rfl, 0, rfl, by simp, rfl, by simp [valOf, Env.get]⟩ ?_
 rintro k e B ⟨rfl, h0, i, rfl, hi, h5, h4⟩
 have hv := A30 (s.take i)
 have hv2 : valOf (s.take i) < 281474976710656 := Nat.lt_of_lt_of_le hv (by
  have : (256 : Nat) ^ (s.take i).length <= 256 ^ 6 := Nat.pow_le_pow_right (by decide) (by rw [List.length_take]; omega)
  omega)
 simp only [RT, Q0, Q1, Q2, Q3, Q4, Q5, Q6, Q7, Q8, h5, h0, hlen]
 refine Aa1 (fun g => ?_) (fun g => ?_)
 . obtain ⟨x, hx⟩ := Ad0 (l := s) (i := i) (by omega)
   have hxt := x.toNat_lt
   have y1 := AA0 (P := Try.prog) (t := 9) (k := .i64) Try.underlying9 hx
   have m1 : IntKind.i64.wrap (((valOf (s.take i) : Nat) : Int) * 256) = ((valOf (s.take i) * 256 : Nat) : Int) := by rw [Ac6 (by omega) (by omega)]; omega
   have m2 : IntKind.i64.wrap (((valOf (s.take i) * 256 : Nat) : Int) + (x.toNat : Int)) = ((valOf (s.take (i + 1)) : Nat) : Int) := by rw [AG8 hx, Ac6 (by omega) (by omega)]; omega
   simp only [RT, Q0, Q1, Q2, Q3, Q4, Q5, Q6, Q7, Q8, h4, h0, h5, y1, AX7, m1, m2]
   exact ⟨s.length - (i + 1), by omega, i + 1, rfl, by omega, by rw [Af3 (by omega)], rfl⟩
 . have : i = s.length := by omega
   subst this
   rw [List.take_length] at h4 hv2
   simp only [RT, Q0, Q1, Q2, Q3, Q4, Q5, Q6, Q7, Q8, h4]
   by_cases hc : valOf s <= 1099511627776
   . refine .inr ⟨valOf s, ?_, ?_⟩
     . unfold numOf
       rw [if_neg]
       rintro (q | q | q | q)
       . exact hne q
       . exact hz0 (z0.1 q)
       . omega
       . omega
     . have : ((valOf s : Nat) : Int) <= 1099511627776 := by omega
       simp only [this, decide_true]
   . refine .inl ⟨by unfold numOf; rw [if_pos (.inr (.inr (.inr (by omega))))], ((valOf s : Nat) : Int), ?_⟩
     have : ¬ ((valOf s : Nat) : Int) <= 1099511627776 := by omega
     simp only [this, decide_false]
theorem Bk9 {l : Bts} {i : Nat} {x : UInt8} (hi : i < l.length) : putAt (bc l) i [.int .u8 (x.toNat : Int)] = bc (l.set i x) := by
 unfold putAt
 simp only [List.length_singleton, bc]
 rw [List.map_set, List.set_eq_take_append_cons_drop, if_pos (by simpa using hi)]
 simp
theorem Bl0 {s : Bts} {n i : Nat} {x : UInt8} (hx : s[i]? = some x) (hi : i < n) (hn : n <= s.length) : (s.take i ++ List.replicate (n - i) 0).set i x = s.take (i + 1) ++ List.replicate (n - (i + 1)) 0 := by
 have hl : (s.take i).length = i := by rw [List.length_take]; omega
 rw [List.set_append_right _ _ (by omega), hl, Nat.sub_self, show n - i = (n - (i + 1)) + 1 by omega, List.replicate_succ, List.set_cons_zero, List.take_add_one, hx]
 simp
set_option maxRecDepth 10000 in
set_option maxHeartbeats 8000000 in
theorem Aw7 {A : AS} {s : Bts} {at_ : Nat} (hs : s.length <= 1000000000000) (ha : at_ + 32 <= s.length) :
 ∃ w A', EvF Try.prog HH 117 [.str s, .int .i64 at_] A w A' /\ w = .agg (bc ((s.drop at_).take 32)) /\ Fr S0 A A' := by
 refine Aa6 rfl Try.func117 (by unfold Try.f117; rfl) Try.ntmps117 (by unfold Try.f117; rfl) (by simp) ?_
 simp only [RT, Q0, Q1, Q2, Q3, Q4, Q5, Q6, Q7, Q8, zcI, BD6]
 obtain ⟨A1, e1, f1, r1, n1⟩ := Aa9 A (bc zero32)
 rw [<- e1]
 obtain ⟨A2, s1, s2, s3, s4⟩ := Ag4 (P := Try.prog) A1 (z := bc zero32) (t := 32) (x := .agg (bc zero32)) (cs := bc zero32) rfl As0 rfl (Ae0 zero32)
 simp only [RT, Q0, Q1, Q2, Q3, Q4, Q5, Q6, Q7, Q8, s1]
 obtain ⟨u, hu⟩ : ∃ u, u = (s.drop at_).take 32 := ⟨_, rfl⟩
 have hul : u.length = 32 := by rw [hu, List.length_take, List.length_drop]; omega
 rw [<- hu]
 refine AB5 (fun k e B => Fr S0 A B /\ B.blk[A.blk.length]? = some ⟨bc zero32, .var⟩ /\ e.get 0 = .str s /\ e.get 1 = .int .i64 at_ /\ e.get 5 = .ptr A1.blk.length 0 /\ e.get 4 = .ptr A.blk.length 0 /\ ∃ i : Nat, k = 32 - i /\ i <= 32 /\ e.get 6 = .int .i64 i /\ B.blk[A1.blk.length]? = some ⟨bc (u.take i ++ List.replicate (32 - i) 0), .var⟩)
  ⟨_, f1.then0 s2, s2.row0 r1, rfl, rfl, rfl, rfl, 0, rfl, by simp, rfl, s3⟩ ?_
 rintro k e B ⟨hf, hr, h0, h1, h5, h4, i, rfl, hi, h6, row⟩
 have l1 := Ac9 r1
 simp only [RT, Q0, Q1, Q2, Q3, Q4, Q5, Q6, Q7, Q8, h6]
 refine Aa1 (fun g => ?_) (fun g => ?_)
 . obtain ⟨x, hx⟩ := Ad0 (l := u) (i := i) (by omega)
   have hxs : s[at_ + i]? = some x := by
    rw [hu, List.getElem?_take_of_lt (by omega), List.getElem?_drop] at hx; exact hx
   have y1 := AA0 (P := Try.prog) (t := 9) (k := .i64) Try.underlying9 hxs
   have e2 : IntKind.i64.wrap ((at_ : Int) + (i : Int)) = ((at_ + i : Nat) : Int) := by rw [Ac6 (by omega) (by omega)]; omega
   have had : evIndexAddr Try.prog 32 (.ptr A1.blk.length 0) (.int .i64 (i : Int)) = some (.ptr A1.blk.length i) := by
    have := Ar1 (P := Try.prog) (t := 32) (b := A1.blk.length) (o := 0) (k := .i64) (i := i) Try.underlying32 sz5 (by omega)
    simpa using this
   have hll : (u.take i ++ List.replicate (32 - i) (0 : UInt8)).length = 32 := by rw [List.length_append, List.length_take, List.length_replicate]; omega
   obtain ⟨C, t1, t2, t3, t4⟩ := Ab7 (P := Try.prog) (t := 5) (o := i) (x := .int .u8 x.toNat) row rfl sz5 (by rw [Aa5, hll]; simp; omega) rfl
   rw [Bk9 (by omega), Bl0 hx (by omega) (by omega)] at t3
   simp only [RT, Q0, Q1, Q2, Q3, Q4, Q5, Q6, Q7, Q8, h6, h0, h1, e2, y1, h5, had, t1]
   exact ⟨32 - (i + 1), by omega, hf.row_ t2 (by omega), t2.rowNe hr (by omega), h4, i + 1, rfl, by omega, by rw [Af3 (by omega)], t3⟩
 . have : i = 32 := by omega
   subst this
   rw [List.take_of_length_le (by omega), Nat.sub_self, List.replicate_zero, List.append_nil] at row
   have ld : evLoad Try.prog 32 (.ptr A1.blk.length 0) B = some (.agg (bc u)) := by
    rw [Ai5 AW4 As0]
    unfold AS.range
    rw [row]
    simp only [Aa5, hul]
    rw [if_pos (by decide), List.drop_zero, List.take_of_length_le (by rw [Aa5, hul]; decide)]; rfl
   obtain ⟨C, t1, t2, t3, t4⟩ := Ab7 (P := Try.prog) (t := 32) (o := 0) (x := .agg (bc u)) hr rfl (by rw [Aa5, hul]; exact As0) (by rw [Aa5, Aa5, hul]; decide) (Ae0 u)
   rw [Ab2 (by rw [Aa5, Aa5, hul]; rfl)] at t3
   have ld2 : evLoad Try.prog 32 (.ptr A.blk.length 0) C = some (.agg (bc u)) := by
    rw [Ai5 AW4 As0]
    unfold AS.range
    rw [t3]
    simp only [Aa5, hul]
    rw [if_pos (by decide), List.drop_zero, List.take_of_length_le (by rw [Aa5, hul]; decide)]; rfl
   simp only [RT, Q0, Q1, Q2, Q3, Q4, Q5, Q6, Q7, Q8, h5, ld, h4, t1, ld2]
   exact hf.row_ t2 (Nat.le_refl _)
end Go.Sv.Try
namespace Go.Sv.Try
open Go Go.Proofs
def PutOut (M : M) (t : Nat) (x : Bts) (w : V) (B : AS) : Prop := (∃ e cs, putM M t x = .error e /\ e ≠ 0 /\ w = .tup [.agg cs, .int .i64 e] /\ cs.length = 41 /\ cs.all V.one = true) ∨
 ∃ M' dv iv lv, putM M t x = .ok M' /\ w = .tup [.agg (mc M' dv iv lv), .int .i64 0] /\ MsgIn (arrHp B) M' dv iv lv /\ (t < 8 -> M.ids = [] -> iv = .snil /\ M'.ids = []) /\ (t < 9 -> M.list = [] -> lv = .snil /\ M'.list = [])
set_option maxRecDepth 10000 in
set_option maxHeartbeats 32000000 in
theorem AX9 {A : AS} {x : Bts} {t : Nat} {M : Go.Sv.M} {dv iv lv : V} (hw : WF A) (hM : MsgIn (arrHp A) M dv iv lv) (ht1 : 1 <= t) (ht9 : t <= 9) (hxl : x.length <= 16777215) (hiv : t <= 8 -> iv = .snil /\ M.ids = []) (hlv : lv = .snil /\ M.list = []) :
 ∃ w A', EvF Try.prog HH 102 [.agg (mc M dv iv lv), .int .i64 t, .str x] A w A' /\ Fr S0 A A' /\ PutOut M t x w A' := by
 refine Aa6 rfl Try.func102 (by unfold Try.f102; rfl) Try.ntmps102 (by unfold Try.f102; rfl) (by simp) ?_
 have hid := hM.id
 have zid : (msg0 0).id.length = 32 := rfl
 simp only [RT, Q0, Q1, Q2, Q3, Q4, Q5, Q6, Q7, Q8, zcM]
 obtain ⟨A1, e1, f1, r1, n1⟩ := Aa9 A (mc M dv iv lv)
 rw [<- e1]
 obtain ⟨A2, e2, f2, r2, n2⟩ := Aa9 A1 mcZ
 rw [<- e2]
 have hM2 : MsgIn (arrHp A2) M dv iv lv := hM.mono (Hp.le_trans (Ac0 f1 fun b q => q.elim) (Ac0 f2 fun b q => q.elim))
 have fA2 := f1.then0 f2
 obtain ⟨bm, hbm⟩ : ∃ y, y = A.blk.length := ⟨_, rfl⟩
 obtain ⟨b6, hb6⟩ : ∃ y, y = A1.blk.length := ⟨_, rfl⟩
 rw [<- hbm, <- hb6]
 have r1 : A2.blk[bm]? = some ⟨mc M dv iv lv, .var⟩ := by rw [hbm]; exact f2.row0 r1
 have r2 : A2.blk[b6]? = some ⟨mcZ, .var⟩ := by rw [hb6]; exact r2
 have hne : bm ≠ b6 := by omega
 have hbmN : A.blk.length <= bm := by omega
 have hb6N : A.blk.length <= b6 := by omega
 have fa := faM bm
 have ldm := ldM r1 hid
 have fail : ∀ {C : AS} {n : Int} {M' : Go.Sv.M} {dv' iv' lv' : V}, Fr S0 A C -> C.blk[bm]? = some ⟨mc M' dv' iv' lv', .var⟩ -> C.blk[b6]? = some ⟨mcZ, .var⟩ -> M'.id.length = 32 -> (mc M' dv' iv' lv').all V.one = true -> putM M t x = .error n -> n ≠ 0 ->
  ∃ C', evStore Try.prog 70 (.ptr b6 0) (.agg (mc M' dv' iv' lv')) C = some C' /\ evLoad Try.prog 70 (.ptr b6 0) C' = some (.agg (mc M' dv' iv' lv')) /\ Fr S0 A C' /\ PutOut M t x (.tup [.agg (mc M' dv' iv' lv'), .int .i64 n]) C' := by
  intro C n M' dv' iv' lv' z1 z2 z3 z4 z5 z6 z7
  obtain ⟨C', y1, y2, y3⟩ := AA1 (o := 0) (t := 70) (w := .agg (mc M' dv' iv' lv')) (cs := mc M' dv' iv' lv') z3 zid rfl (by rw [Ab5 z4]; exact AP2) (by rw [Ab5 z4]; decide) z5
  rw [Ab2 (by rw [Ab5 zid, Ab5 z4])] at y3
  exact ⟨C', y1, (ldM y3 z4).2.2.2.2.2.2.2.2.2.2, z1.row_ y2 hb6N, .inl ⟨n, _, z6, z7, rfl, Ab5 z4, z5⟩⟩
 have good : ∀ {C : AS} {M' : Go.Sv.M} {dv' iv' lv' : V}, Fr S0 A C -> C.blk[bm]? = some ⟨mc M' dv' iv' lv', .var⟩ -> C.blk[b6]? = some ⟨mcZ, .var⟩ -> MsgIn (arrHp C) M' dv' iv' lv' -> putM M t x = .ok M' -> (t < 8 -> M.ids = [] -> iv' = .snil /\ M'.ids = []) -> (t < 9 -> M.list = [] -> lv' = .snil /\ M'.list = []) ->
  ∃ C', evStore Try.prog 70 (.ptr b6 0) (.agg (mc M' dv' iv' lv')) C = some C' /\ evLoad Try.prog 70 (.ptr b6 0) C' = some (.agg (mc M' dv' iv' lv')) /\ Fr S0 A C' /\ PutOut M t x (.tup [.agg (mc M' dv' iv' lv'), .int .i64 0]) C' := by
  intro C M' dv' iv' lv' z1 z2 z3 z4 z6 z7 z8
  obtain ⟨C', y1, y2, y3⟩ := AA1 (o := 0) (t := 70) (w := .agg (mc M' dv' iv' lv')) (cs := mc M' dv' iv' lv') z3 zid rfl (by rw [Ab5 z4.id]; exact AP2) (by rw [Ab5 z4.id]; decide) (Al7 z4)
  rw [Ab2 (by rw [Ab5 zid, Ab5 z4.id])] at y3
  exact ⟨C', y1, (ldM y3 z4.id).2.2.2.2.2.2.2.2.2.2, z1.row_ y2 hb6N, .inr ⟨M', dv', iv', lv', z6, rfl, z4.mono (Ac0 y2 fun b q => by cases q; exact Ae7 z3), z7, z8⟩⟩
 by_cases hx0 : x = []
 . have hp : putM M t x = .error 23 := by unfold putM; rw [if_pos hx0]
   obtain ⟨C, y1, y2, y3, y4⟩ := fail fA2 r1 r2 hid (Al7 hM2) hp (by decide)
   simp only [RT, Q0, Q1, Q2, Q3, Q4, Q5, Q6, Q7, Q8, hx0, ldm, y1, y2]
   rw [hx0] at y4
   exact ⟨y3, y4⟩
 simp only [RT, Q0, Q1, Q2, Q3, Q4, Q5, Q6, Q7, Q8, hx0]
 refine Aa1 (fun g1 => ?_) (fun g1 => ?_)
 ·
  have ht6 : t < 6 := by omega
  obtain ⟨w, _, k1, rfl, k2⟩ := AF7 (A := A2) (s := x) (by omega) hx0
  have ne6 : ¬ ((t : Int) = 6) := by omega
  have ne7 : ¬ ((t : Int) = 7) := by omega
  have ne8 : ¬ ((t : Int) = 8) := by omega
  have ne9 : ¬ ((t : Int) = 9) := by omega
  simp only [RT, Q0, Q1, Q2, Q3, Q4, Q5, Q6, Q7, Q8]
  refine Aa0 k1 ?_
  rcases k2 with ⟨k2, n, rfl⟩ | ⟨n, k2, rfl⟩
  . have hp : putM M t x = .error 23 := by unfold putM; rw [if_neg hx0, if_pos ht6, k2]
    obtain ⟨C, y1, y2, y3, y4⟩ := fail fA2 r1 r2 hid (Al7 hM2) hp (by decide)
    simp only [RT, Q0, Q1, Q2, Q3, Q4, Q5, Q6, Q7, Q8, ldm, y1, y2]
    exact ⟨y3, y4⟩
  . have hp : putM M t x = .ok (setNum M t n) := by unfold putM; rw [if_neg hx0, if_pos ht6, k2]
    obtain ⟨z1, z2, z3, z4⟩ := AC3 M t n
    obtain ⟨C, y1, y2, y3⟩ := AA1 (o := t) (t := 3) (w := .int .i64 n) (cs := [.int .i64 n]) r1 hid rfl sz3 (by simp only [List.length_singleton]; omega) rfl
    rw [Bb8 ht1 ht6] at y3
    have le := Ac0 y2 (fun b q => by cases q; exact Ae7 r1)
    have hMC : MsgIn (arrHp C) (setNum M t n) dv iv lv := ⟨by rw [z1]; exact hid, by rw [z2]; exact hM2.data.mono le, by rw [z3]; exact hM2.ids.mono le, by rw [z4]; exact hM2.list.mono le⟩
    have fC := fA2.row_ y2 hbmN
    have ldc := ldM y3 hMC.id
    obtain ⟨D, v1, v2, v3, v4⟩ := good fC y3 (y2.rowNe r2 (show b6 ≠ bm by omega)) hMC hp (fun _ q => ⟨(hiv (by omega)).1, by rw [z3]; exact q⟩) (fun _ q => ⟨hlv.1, by rw [z4]; exact q⟩)
    have d1 : ((1 : Nat) : Int) = 1 := rfl
    have d2 : ((2 : Nat) : Int) = 2 := rfl
    have d3 : ((3 : Nat) : Int) = 3 := rfl
    have d4 : ((4 : Nat) : Int) = 4 := rfl
    have d5 : ((5 : Nat) : Int) = 5 := rfl
    have ht : t = 1 ∨ t = 2 ∨ t = 3 ∨ t = 4 ∨ t = 5 := by omega
    rcases ht with rfl | rfl | rfl | rfl | rfl
    . simp only [RT, Q0, Q1, Q2, Q3, Q4, Q5, Q6, Q7, Q8, fa, y1, d1, ldc, v1, v2]
      exact ⟨v3, v4⟩
    . simp only [RT, Q0, Q1, Q2, Q3, Q4, Q5, Q6, Q7, Q8, fa, y1, d2, ldc, v1, v2]
      exact ⟨v3, v4⟩
    . simp only [RT, Q0, Q1, Q2, Q3, Q4, Q5, Q6, Q7, Q8, fa, y1, d3, ldc, v1, v2]
      exact ⟨v3, v4⟩
    . simp only [RT, Q0, Q1, Q2, Q3, Q4, Q5, Q6, Q7, Q8, fa, y1, d4, ldc, v1, v2]
      exact ⟨v3, v4⟩
    . simp only [RT, Q0, Q1, Q2, Q3, Q4, Q5, Q6, Q7, Q8, fa, y1, d5, ldc, v1, v2]
      exact ⟨v3, v4⟩
 have ht6 : ¬ t < 6 := by omega
 have hlen := fun B => Ap8 (P := Try.prog) Try.underlying9 x B
 simp only [RT, Q0, Q1, Q2, Q3, Q4, Q5, Q6, Q7, Q8]
 refine Aa1 (fun g2 => ?_) (fun g2 => ?_)
 ·
  have ht : t = 6 := by omega
  have ne7 : ¬ ((t : Int) = 7) := by omega
  have ne8 : ¬ ((t : Int) = 8) := by omega
  have ne9 : ¬ ((t : Int) = 9) := by omega
  simp only [RT, Q0, Q1, Q2, Q3, Q4, Q5, Q6, Q7, Q8, hlen]
  refine Ab8 (fun g3 => ?_) (fun g3 => ?_)
  . have hp : putM M t x = .error 23 := by unfold putM; rw [if_neg hx0, if_neg ht6, if_pos ht, if_pos (.inl (by omega))]
    obtain ⟨C, y1, y2, y3, y4⟩ := fail fA2 r1 r2 hid (Al7 hM2) hp (by decide)
    simp only [RT, Q0, Q1, Q2, Q3, Q4, Q5, Q6, Q7, Q8, g3, ldm, y1, y2]
    exact ⟨y3, y4⟩
  have hx32 : x.length = 32 := by omega
  obtain ⟨_, C, k1, rfl, k2⟩ := Aw7 (A := A2) (s := x) (at_ := 0) (by omega) (by omega)
  rw [List.drop_zero, List.take_of_length_le (by omega)] at k1
  have k1 : EvF Try.prog HH 117 [.str x, .int .i64 0] A2 (.agg (bc x)) C := k1
  simp only [RT, Q0, Q1, Q2, Q3, Q4, Q5, Q6, Q7, Q8, g3]
  refine Aa0 k1 ?_
  simp only [RT, Q0, Q1, Q2, Q3, Q4, Q5, Q6, Q7, Q8, g3, BD6, eqI hx32 (rfl : zero32.length = 32)]
  have r1C := k2.row0 r1
  have r2C := k2.row0 r2
  have leC := Ac0 k2 (fun b q => q.elim)
  have ldc := ldM r1C hid
  refine Aa1 (fun g4 => ?_) (fun g4 => ?_)
  . have hp : putM M t x = .error 23 := by unfold putM; rw [if_neg hx0, if_neg ht6, if_pos ht, if_pos (.inr g4)]
    obtain ⟨D, y1, y2, y3, y4⟩ := fail (fA2.then0 k2) r1C r2C hid (Al7 hM2) hp (by decide)
    simp only [RT, Q0, Q1, Q2, Q3, Q4, Q5, Q6, Q7, Q8, ldc, y1, y2]
    exact ⟨y3, y4⟩
  . have hp : putM M t x = .ok { M with id := x } := by
     unfold putM; rw [if_neg hx0, if_neg ht6, if_pos ht, if_neg]
     rintro (q | q)
     . exact q hx32
     . exact g4 q
    obtain ⟨_, D, u1, rfl, u2⟩ := Aw7 (A := C) (s := x) (at_ := 0) (by omega) (by omega)
    rw [List.drop_zero, List.take_of_length_le (by omega)] at u1
    have u1 : EvF Try.prog HH 117 [.str x, .int .i64 0] C (.agg (bc x)) D := u1
    simp only [RT, Q0, Q1, Q2, Q3, Q4, Q5, Q6, Q7, Q8]
    refine Aa0 u1 ?_
    obtain ⟨E, y1, y2, y3⟩ := AA1 (o := 6) (t := 32) (w := .agg (bc x)) (cs := bc x) (u2.row0 r1C) hid rfl (by rw [Aa5, hx32]; exact As0) (by rw [Aa5, hx32]; decide) (Ae0 x)
    rw [BE7 hid hx32] at y3
    have leD := Ac0 u2 (fun b q => q.elim)
    have leE := Ac0 y2 (fun b q => by cases q; exact Ae7 (u2.row0 r1C))
    have le := Hp.le_trans leC (Hp.le_trans leD leE)
    have hME : MsgIn (arrHp E) { M with id := x } dv iv lv := ⟨hx32, hM2.data.mono le, hM2.ids.mono le, hM2.list.mono le⟩
    have fE := ((fA2.then0 k2).then0 u2).row_ y2 hbmN
    have lde := ldM y3 hME.id
    obtain ⟨F, v1, v2, v3, v4⟩ := good fE y3 (y2.rowNe (u2.row0 r2C) (show b6 ≠ bm by omega)) hME hp (fun _ q => ⟨(hiv (by omega)).1, q⟩) (fun _ q => ⟨hlv.1, q⟩)
    simp only [RT, Q0, Q1, Q2, Q3, Q4, Q5, Q6, Q7, Q8, fa, y1, ne7, ne8, ne9, lde, v1, v2]
    exact ⟨v3, v4⟩
 have ht7 : ¬ t = 6 := by omega
 simp only [RT, Q0, Q1, Q2, Q3, Q4, Q5, Q6, Q7, Q8]
 refine Aa1 (fun g3 => ?_) (fun g3 => ?_)
 ·
  have ht : t = 7 := by omega
  have ne8 : ¬ ((t : Int) = 8) := by omega
  have ne9 : ¬ ((t : Int) = 9) := by omega
  have hp : putM M t x = .ok { M with data := x } := by unfold putM; rw [if_neg hx0, if_neg ht6, if_neg ht7, if_pos ht]
  have hcv := fun B => AV8 (P := Try.prog) (A := B) (s := 9) (d := 44) (l := x) (by decide) Try.underlying9 Try.underlying44 Try.underlying5
  simp only [RT, Q0, Q1, Q2, Q3, Q4, Q5, Q6, Q7, Q8, hcv]
  have q1 := Fr.pushArr A2 (bc x)
  have hsl := Ay0 A2 x (sz := 1) rfl
  have r1C := q1.row0 r1
  have r2C := q1.row0 r2
  have leC := Ac0 q1 (fun b q => q.elim)
  have e9 : (A2.push ⟨x.map fun u => V.int .u8 u.toNat, .arr A2.blk.length 0⟩) = A2.push ⟨bc x, .arr A2.blk.length 0⟩ := rfl
  rw [e9]
  generalize A2.push ⟨bc x, .arr A2.blk.length 0⟩ = C at *
  obtain ⟨E, y1, y2, y3⟩ := AA1 (o := 38) (t := 44) (w := .sl A2.blk.length 0 x.length 1) (cs := [.sl A2.blk.length 0 x.length 1]) r1C hid rfl A28 (by simp) rfl
  rw [Bb9 hid x] at y3
  have leE := Ac0 y2 (fun b q => by cases q; exact Ae7 r1C)
  have le := Hp.le_trans leC leE
  have hME : MsgIn (arrHp E) { M with data := x } (.sl A2.blk.length 0 x.length 1) iv lv := ⟨hid, hsl.mono leE, hM2.ids.mono le, hM2.list.mono le⟩
  have fE := (fA2.then0 q1).row_ y2 hbmN
  have lde := ldM y3 hME.id
  obtain ⟨F, v1, v2, v3, v4⟩ := good fE y3 (y2.rowNe r2C (show b6 ≠ bm by omega)) hME hp (fun _ q => ⟨(hiv (by omega)).1, q⟩) (fun _ q => ⟨hlv.1, q⟩)
  simp only [RT, Q0, Q1, Q2, Q3, Q4, Q5, Q6, Q7, Q8, fa, y1, ne8, ne9, lde, v1, v2]
  exact ⟨v3, v4⟩
 have ht8 : ¬ t = 7 := by omega
 simp only [RT, Q0, Q1, Q2, Q3, Q4, Q5, Q6, Q7, Q8]
 refine Aa1 (fun g4 => ?_) (fun g4 => ?_)
 ·
  have ht : t = 8 := by omega
  have ne9 : ¬ ((t : Int) = 9) := by omega
  obtain ⟨rfl, hids⟩ := hiv (by omega)
  have hrem : evBin Try.prog .rem 3 (.int .i64 (x.length : Int)) (.int .i64 32) = some (.int .i64 ((x.length % 32 : Nat) : Int)) := Bi7 _ 32 (by decide)
  simp only [RT, Q0, Q1, Q2, Q3, Q4, Q5, Q6, Q7, Q8, hlen, hrem]
  refine Aa1 (fun g5 => ?_) (fun g5 => ?_)
  . have hp : putM M t x = .error 23 := by unfold putM; rw [if_neg hx0, if_neg ht6, if_neg ht7, if_neg ht8, if_pos ht, if_pos (by omega)]
    obtain ⟨C, y1, y2, y3, y4⟩ := fail fA2 r1 r2 hid (Al7 hM2) hp (by decide)
    simp only [RT, Q0, Q1, Q2, Q3, Q4, Q5, Q6, Q7, Q8, ldm, y1, y2]
    exact ⟨y3, y4⟩
  have hp : putM M t x = .ok { M with ids := chunk32 x } := by unfold putM; rw [if_neg hx0, if_neg ht6, if_neg ht7, if_neg ht8, if_pos ht, if_neg (by omega), hids, List.nil_append]
  simp only [RT, Q0, Q1, Q2, Q3, Q4, Q5, Q6, Q7, Q8]
  refine Aa2 (fun n e C => Fr S0 A C /\ C.blk[b6]? = some ⟨mcZ, .var⟩ /\ e.get 3 = .ptr bm 0 /\ e.get 6 = .ptr b6 0 /\ e.get 2 = .str x /\ e.get 1 = .int .i64 t /\ (arrHp A2).le (arrHp C) /\
   ∃ (done : List Bts) (p : Nat) (iv' : V), n = x.length - p /\ e.get 10 = .int .i64 p /\ p <= x.length /\ p % 32 = 0 /\ done.length * 32 = p /\ (∀ b ∈ done, b.length = 32) /\ chunk32 x = done ++ chunk32 (x.drop p) /\ C.blk[bm]? = some ⟨mc { M with ids := done } dv iv' lv, .var⟩ /\ Own A.blk.length C iv' done.length 32 (cellsAllB done))
   (fun z e C => Is z (.exit 1) /\ Fr S0 A C /\ C.blk[b6]? = some ⟨mcZ, .var⟩ /\ e.get 3 = .ptr bm 0 /\ e.get 6 = .ptr b6 0 /\ e.get 1 = .int .i64 t /\ (arrHp A2).le (arrHp C) /\
    ∃ iv', C.blk[bm]? = some ⟨mc { M with ids := chunk32 x } dv iv' lv, .var⟩ /\ Slc eId (arrHp C) iv' (chunk32 x))
   ⟨_, fA2, r2, rfl, rfl, rfl, rfl, Hp.le_refl _, [], 0, .snil, rfl, rfl, by omega, rfl, rfl, by simp, by simp, by rw [<- hids]; exact r1, by simpa [cellsAllB] using Own.nil A.blk.length A2 32⟩ ?_ ?_
  . rintro n e C ⟨fC, r6C, h3, h6, h2, h1, leC, done, p, iv', rfl, h10, hple, hpm, hsum, hall, hch, jC, own⟩
    have ldc := ldM jC hid
    simp only [RT, Q0, Q1, Q2, Q3, Q4, Q5, Q6, Q7, Q8, h10, h2, hlen]
    refine Aa1 (fun g6 => ?_) (fun g6 => ?_)
    . have hp32 : p + 32 <= x.length := by omega
      obtain ⟨_, D, k1, rfl, k2⟩ := Aw7 (A := C) (s := x) (at_ := p) (by omega) hp32
      have hdl : (x.drop p).length = x.length - p := List.length_drop
      have hrne : x.drop p ≠ [] := by intro q; rw [q] at hdl; simp at hdl; omega
      have htl : ((x.drop p).take 32).length = 32 := by rw [List.length_take]; omega
      have ldd := ldM (k2.row0 jC) hid
      have wD := k2.wf (fC.wf hw)
      have nD : A.blk.length <= D.blk.length := by have := fC.len; have := k2.len; omega
      obtain ⟨v', E, p1, p2, p3⟩ := (own.fr0 k2).appNew (k := 1) (new := bc ((x.drop p).take 32)) Bv2 Try.underlying36 wD nD (by rw [Aa5, htl]) (Ae0 _) (by omega) (by omega)
      have jE := p3.fam_row (k2.row0 jC)
      have r6E := p3.fam_row (k2.row0 r6C)
      obtain ⟨F, y1, y2, y3⟩ := AA1 (o := 39) (t := 36) (w := v') (cs := [v']) jE hid p2.cells1 BV1 (by simp) (by simp [p2.one])
      rw [Bt6 (x := { M with ids := done }) hid (done ++ [(x.drop p).take 32])] at y3
      have leD := Ac0 k2 (fun b q => q.elim)
      have leE := Ac0 p3 (fun b q => q.elim)
      have leF := Ac0 y2 (fun b q => by cases q; exact Ae7 jE)
      have e10 : IntKind.i64.wrap ((p : Int) + 32) = ((p + 32 : Nat) : Int) := by rw [Ac6 (by omega) (by omega)]; omega
      simp only [RT, Q0, Q1, Q2, Q3, Q4, Q5, Q6, Q7, Q8]
      simp only [RT, Q0, Q1, Q2, Q3, Q4, Q5, Q6, Q7, Q8, Bj3, h3, h2, h10, fa, ldc, Aa4]
      refine Aa0 k1 ?_
      simp only [RT, Q0, Q1, Q2, Q3, Q4, Q5, Q6, Q7, Q8, Aa4]
      refine ⟨Aa3 (ha := rfl) rfl ldd.2.2.2.2.2.2.2.2.1 rfl Aa4, ?_⟩
      simp only [RT, Q0, Q1, Q2, Q3, Q4, Q5, Q6, Q7, Q8, BX1 htl, p1, h3, fa, y1, h10, e10, Aa4]
      refine ⟨x.length - (p + 32), by omega, ((fC.then0 k2).fams p3).row_ y2 hbmN, y2.rowNe r6E (show b6 ≠ bm by omega), h6, h2, h1, Hp.le_trans leC (Hp.le_trans leD (Hp.le_trans leE leF)), done ++ [(x.drop p).take 32], p + 32, v', rfl, rfl, hp32, by omega, by rw [List.length_append]; simp; omega, ?_, ?_, y3, (p2.frRow y2 jE).cast (by simp) (by simp [cellsAllB])⟩
      . intro b hb
        rcases List.mem_append.1 hb with q | q
        . exact hall b q
        . simp at q; rw [q]; exact htl
      . rw [hch, Ak5 hrne, List.drop_drop]; simp
    . have : p = x.length := by omega
      subst this
      simp only [RT, Q0, Q1, Q2, Q3, Q4, Q5, Q6, Q7, Q8]
      rw [List.drop_length, An6, List.append_nil] at hch
      subst hch
      refine ⟨rfl, fC, r6C, h3, h6, h1, leC, iv', jC, Own.arrHp (E := eId) own rfl fun i y hy => ⟨?_, hall y (List.mem_of_getElem? hy)⟩⟩
      exact Ay4 hall i y hy
  . rintro z e C hz ⟨rfl, fC, r6C, h3, h6, h1, leC, iv', jC, hiv'⟩
    have hMC : MsgIn (arrHp C) { M with ids := chunk32 x } dv iv' lv := ⟨hid, hM2.data.mono leC, hiv', hM2.list.mono leC⟩
    have ldc := ldM jC hMC.id
    obtain ⟨F, v1, v2, v3, v4⟩ := good fC jC r6C hMC hp (fun q => absurd q (by omega)) (fun _ q => ⟨hlv.1, q⟩)
    simp only [RT, Q0, Q1, Q2, Q3, Q4, Q5, Q6, Q7, Q8, h1, ne9, h3, h6, ldc, v1, v2]
    exact ⟨v3, v4⟩
 have ht9' : ¬ t = 8 := by omega
 have ht : t = 9 := by omega
 have g5 : (t : Int) = 9 := by omega
 obtain ⟨rfl, hlist⟩ := hlv
 simp only [RT, Q0, Q1, Q2, Q3, Q4, Q5, Q6, Q7, Q8, g5]
 refine Aa2 (fun n e C => Fr S0 A C /\ C.blk[b6]? = some ⟨mcZ, .var⟩ /\ e.get 3 = .ptr bm 0 /\ e.get 6 = .ptr b6 0 /\ e.get 2 = .str x /\ (arrHp A2).le (arrHp C) /\
  ∃ (done : List Bts) (p : Nat) (lv' : V) (lvs : List V), n = x.length - p /\ e.get 11 = .int .i64 p /\ p <= x.length /\ done.length <= p /\ runsOf x = (runsOf (x.drop p)).map (done ++ ·) /\ C.blk[bm]? = some ⟨mc { M with list := done } dv iv lv', .var⟩ /\
   Own A.blk.length C lv' done.length 1 lvs /\ ∀ (i : Nat) b, done[i]? = some b -> ∃ w, lvs[i]? = some w /\ Slc eU8 (arrHp C) w b)
  (fun z e C => Fr S0 A C /\ ((Is z (.exit 3) /\ C.blk[b6]? = some ⟨mcZ, .var⟩ /\ e.get 3 = .ptr bm 0 /\ e.get 6 = .ptr b6 0 /\ (arrHp A2).le (arrHp C) /\
   ∃ lv' l, runsOf x = some l /\ C.blk[bm]? = some ⟨mc { M with list := l } dv iv lv', .var⟩ /\ Slc (eSl eU8) (arrHp C) lv' l) ∨
   (Is z .ret /\ e.get 6 = .ptr b6 0 /\ ∃ mv, evLoad Try.prog 70 (.ptr b6 0) C = some mv /\ ∃ cv, e.get 7 = cv /\ PutOut M t x (.tup [mv, cv]) C)))
  ⟨_, fA2, r2, rfl, rfl, rfl, Hp.le_refl _, [], 0, .snil, [], rfl, rfl, by omega, by simp, by simp, by rw [<- hlist]; exact r1, Own.nil _ A2 1, by simp⟩ ?_ ?_
 . rintro n e C ⟨fC, r6C, h3, h6, h2, leC, done, p, lv', lvs, rfl, h11, hple, hdp, hrun, jC, own, hlvs⟩
   have ldc := ldM jC hid
   simp only [RT, Q0, Q1, Q2, Q3, Q4, Q5, Q6, Q7, Q8, h11, h2, hlen]
   refine Aa1 (fun g6 => ?_) (fun g6 => ?_)
   . have hdl : (x.drop p).length = x.length - p := List.length_drop
     have hrne : x.drop p ≠ [] := by intro q; rw [q] at hdl; simp at hdl; omega
     obtain ⟨w, C', k1, hC', k2⟩ := Ay5 (A := C) (s := x) (i := p) (by omega) (by omega)
     rw [hC'] at k1
     simp only [RT, Q0, Q1, Q2, Q3, Q4, Q5, Q6, Q7, Q8, h2, h11]
     refine Aa0 k1 ?_
     rcases k2 with ⟨k2, rfl⟩ | ⟨y, r', k2, rfl, k3, k4⟩
     . have hp : putM M t x = .error 20 := by
        unfold putM; rw [if_neg hx0, if_neg ht6, if_neg ht7, if_neg ht8, if_neg ht9', hrun, An5 hrne k2]; rfl
       have hone : (mc { M with list := done } dv iv lv').all V.one = true := by
        simp only [mc, List.all_cons, List.all_append, Ae0, hM2.data.one, hM2.ids.one, own.one, AW5, List.all_nil, Bool.and_self]
       obtain ⟨D, y1, y2, y3, y4⟩ := fail fC jC r6C hid hone hp (by decide)
       simp only [RT, Q0, Q1, Q2, Q3, Q4, Q5, Q6, Q7, Q8, h3, ldc, h6, y1]
       exact ⟨y3, .inr ⟨rfl, _, y2, _, rfl, y4⟩⟩
     . have hcv := fun B => AV8 (P := Try.prog) (A := B) (s := 9) (d := 44) (l := y) (by decide) Try.underlying9 Try.underlying44 Try.underlying5
       have e9 : ∀ B : AS, (B.push ⟨y.map fun u => V.int .u8 u.toNat, .arr B.blk.length 0⟩) = B.push ⟨bc y, .arr B.blk.length 0⟩ := fun _ => rfl
       have q1 := Fr.pushArr C (bc y)
       have hsl := Ay0 C y (sz := 1) rfl
       have ownD := own.fr0 q1
       simp only [RT, Q0, Q1, Q2, Q3, Q4, Q5, Q6, Q7, Q8, h3, fa, ldc, hcv]
       rw [e9]
       generalize C.push ⟨bc y, .arr C.blk.length 0⟩ = D at *
       have jD := q1.row0 jC
       have r6D := q1.row0 r6C
       have ldd := ldM jD hid
       have wD := q1.wf (fC.wf hw)
       have nD : A.blk.length <= D.blk.length := by have := fC.len; have := q1.len; omega
       have hl3 := Ad4 k2
       obtain ⟨v2, K, u1, u2, u3⟩ := ownD.appNew (k := 1) (new := [.sl C.blk.length 0 y.length 1]) BO2 Try.underlying22 wD nD rfl rfl (by omega) (by omega)
       have jK := u3.fam_row jD
       have r6K := u3.fam_row r6D
       obtain ⟨E, y1, y2, y3⟩ := AA1 (o := 40) (t := 22) (w := v2) (cs := [v2]) jK hid u2.cells1 BO8 (by simp) (by simp [u2.one])
       rw [Bc0 (x := { M with list := done }) hid (done ++ [y])] at y3
       have leD := Ac0 q1 (fun b q => q.elim)
       have leK := Ac0 u3 (fun b q => q.elim)
       have leE := Ac0 y2 (fun b q => by cases q; exact Ae7 jK)
       have leDE := Hp.le_trans leK leE
       simp only [RT, Q0, Q1, Q2, Q3, Q4, Q5, Q6, Q7, Q8, Bb7, u1, h3, fa, y1]
       refine ⟨x.length - (p + 3 + y.length), by omega, ((fC.then0 q1).fams u3).row_ y2 hbmN, y2.rowNe r6K (show b6 ≠ bm by omega), h6, h2, Hp.le_trans leC (Hp.le_trans leD leDE), done ++ [y], p + 3 + y.length, v2, lvs ++ [.sl C.blk.length 0 y.length 1], rfl, rfl, k4, by rw [List.length_append]; simp; omega, ?_, y3, (u2.frRow y2 jK).cast (by simp) rfl, ?_⟩
       . rw [hrun, Aj1 k2, k3]
         cases runsOf (x.drop (p + 3 + y.length)) <;> simp
       . intro j bb hj
         have hln : lvs.length = done.length := by have := own.1; omega
         rcases Nat.lt_or_ge j done.length with q | q
         . rw [List.getElem?_append_left q] at hj
           obtain ⟨w', z1, z2⟩ := hlvs j bb hj
           exact ⟨w', by rw [List.getElem?_append_left (by omega)]; exact z1, z2.mono (Hp.le_trans leD leDE)⟩
         . have hj' := (List.getElem?_eq_some_iff.1 hj).1
           simp only [List.length_append, List.length_singleton] at hj'
           have : j = done.length := by omega
           subst this
           simp at hj
           subst hj
           exact ⟨_, by rw [<- hln]; simp, hsl.mono leDE⟩
   . have : p = x.length := by omega
     subst this
     simp only [RT, Q0, Q1, Q2, Q3, Q4, Q5, Q6, Q7, Q8]
     rw [List.drop_length, Ag6] at hrun
     refine ⟨fC, .inl ⟨rfl, r6C, h3, h6, leC, lv', done, by rw [hrun]; simp, jC, Own.arrHp (E := eSl eU8) own rfl fun j bb hj => ?_⟩⟩
     obtain ⟨w', z1, z2⟩ := hlvs j bb hj
     refine ⟨w', ?_, z2⟩
     show (lvs.drop (j * 1)).take 1 = _
     rw [Nat.mul_one, List.take_one, List.head?_drop, z1]; rfl
 . rintro z e C hz ⟨fC, ⟨rfl, r6C, h3, h6, leC, lv', l, hrun, jC, hlv'⟩ | ⟨rfl, h6, mv, h7, cv, h8, h9⟩⟩
   . have hp : putM M t x = .ok { M with list := l } := by
      unfold putM; rw [if_neg hx0, if_neg ht6, if_neg ht7, if_neg ht8, if_neg ht9', hrun]; simp only [hlist, List.nil_append]
     have hMC : MsgIn (arrHp C) { M with list := l } dv iv lv' := ⟨hid, hM2.data.mono leC, hM2.ids.mono leC, hlv'⟩
     have ldc := ldM jC hMC.id
     obtain ⟨F, v1, v2, v3, v4⟩ := good fC jC r6C hMC hp (fun q => absurd q (by omega)) (fun q => absurd q (by omega))
     simp only [RT, Q0, Q1, Q2, Q3, Q4, Q5, Q6, Q7, Q8, h3, h6, ldc, v1, v2]
     exact ⟨v3, v4⟩
   . simp only [RT, Q0, Q1, Q2, Q3, Q4, Q5, Q6, Q7, Q8, h6, h7, h8]
     exact ⟨fC, h9⟩
end Go.Sv.Try
namespace Go.Sv.Try
open Go Go.Proofs
set_option maxRecDepth 10000 in
set_option maxHeartbeats 32000000 in
theorem Ay6 {A : AS} {b : Bts} (hw : WF A) (hb : b.length <= 1000000000000) :
 ∃ w A', EvF Try.prog HH 74 [.str b] A w A' /\ Fr S0 A A' /\ RdOut b w A' := by
 refine Aa6 rfl Try.func74 (by unfold Try.f74; rfl) Try.ntmps74 (by unfold Try.f74; rfl) (by simp) ?_
 simp only [RT, Q0, Q1, Q2, Q3, Q4, Q5, Q6, Q7, Q8, zcM]
 obtain ⟨A1, e1, f1, r1, n1⟩ := Aa9 A mcZ
 rw [<- e1]
 have zid : (msg0 0).id.length = 32 := rfl
 obtain ⟨b2, hb2⟩ : ∃ y, y = A.blk.length := ⟨_, rfl⟩
 rw [<- hb2]
 rw [<- hb2] at r1
 have hN : A.blk.length <= b2 := by omega
 have fin : ∀ (C : AS) (c : Int), Fr S0 A C -> C.blk[b2]? = some ⟨mcZ, .var⟩ -> readM b = .error c ->
  ∃ C', evStore Try.prog 70 (.ptr b2 0) (.agg mcZ) C = some C' /\ evLoad Try.prog 70 (.ptr b2 0) C' = some (.agg mcZ) /\ Fr S0 A C' /\ RdOut b (.tup [.agg mcZ, .int .i64 c]) C' := by
  intro C c z1 z2 z3
  obtain ⟨C', y1, y2, y3⟩ := AA1 (o := 0) (t := 70) (w := .agg mcZ) (cs := mcZ) z2 zid rfl AP2 (by decide) rfl
  rw [Ab2 rfl] at y3
  exact ⟨C', y1, (ldM y3 zid).2.2.2.2.2.2.2.2.2.2, z1.row_ y2 hN, Bc1 z3⟩
 match b, hb, fin with
 | [], hb, fin =>
  obtain ⟨C, y1, y2, y3, y4⟩ := fin _ 20 f1 r1 rfl
  simp only [RT, Q0, Q1, Q2, Q3, Q4, Q5, Q6, Q7, Q8, Af1, y1, y2]
  exact ⟨y3, y4⟩
 | kk :: s, hb, fin =>
  simp only [List.length_cons] at hb
  have hne : ¬ (kk :: s = []) := by simp
  have hk := kk.toNat_lt
  have x0 : evIndex Try.prog 9 (.str (kk :: s)) (.int .i64 0) = some (.int .u8 kk.toNat) := AA0 (P := Try.prog) (t := 9) (k := .i64) (i := 0) (l := kk :: s) Try.underlying9 rfl
  simp only [RT, Q0, Q1, Q2, Q3, Q4, Q5, Q6, Q7, Q8, hne, x0]
  refine Ab8 (fun g1 => ?_) (fun g1 => ?_)
  . obtain ⟨C, y1, y2, y3, y4⟩ := fin _ 21 f1 r1 (by unfold readM; simp only []; rw [if_pos (.inl (by omega))])
    simp only [RT, Q0, Q1, Q2, Q3, Q4, Q5, Q6, Q7, Q8, g1, Af1, y1, y2]
    exact ⟨y3, y4⟩
  simp only [RT, Q0, Q1, Q2, Q3, Q4, Q5, Q6, Q7, Q8, g1, x0]
  refine Aa1 (fun g2 => ?_) (fun g2 => ?_)
  . obtain ⟨C, y1, y2, y3, y4⟩ := fin _ 21 f1 r1 (by unfold readM; simp only []; rw [if_pos (.inr (by omega))])
    simp only [RT, Q0, Q1, Q2, Q3, Q4, Q5, Q6, Q7, Q8, Af1, y1, y2]
    exact ⟨y3, y4⟩
  have hread : readM (kk :: s) = match restM (msg0 kk.toNat) 0 s with | .error e => .error e | .ok m => if checkM m ≠ 0 then .error (checkM m) else .ok m := by
   conv => lhs; unfold readM
   simp only []
   rw [if_neg (by omega)]
   try (cases restM (msg0 kk.toNat) 0 s <;> rfl)
  simp only [RT, Q0, Q1, Q2, Q3, Q4, Q5, Q6, Q7, Q8, x0, AX7, BE6, zcM]
  obtain ⟨A2, s1, s2, s3, s4⟩ := Ag4 (P := Try.prog) A1 (z := mcZ) (t := 70) (x := .agg (mc (msg0 kk.toNat) .snil .snil .snil)) (cs := mc (msg0 kk.toNat) .snil .snil .snil) rfl AP2 rfl rfl
  obtain ⟨b4, hb4⟩ : ∃ y, y = A1.blk.length := ⟨_, rfl⟩
  rw [<- hb4] at s1 s3 ⊢
  have h24 : b2 ≠ b4 := by omega
  have hN4 : A.blk.length <= b4 := by omega
  simp only [RT, Q0, Q1, Q2, Q3, Q4, Q5, Q6, Q7, Q8, s1]
  have hlen := fun B => Ap8 (P := Try.prog) Try.underlying9 (kk :: s) B
  refine Aa2 (fun n e C => Fr S0 A C /\ C.blk[b2]? = some ⟨mcZ, .var⟩ /\ e.get 0 = .str (kk :: s) /\ e.get 2 = .ptr b2 0 /\ e.get 4 = .ptr b4 0 /\
   ∃ (p last : Nat) (M : Go.Sv.M) (dv iv lv : V), n = s.length + 1 - p /\ 1 <= p /\ p <= s.length + 1 /\ e.get 5 = .int .i64 p /\ e.get 6 = .int .i64 last /\ C.blk[b4]? = some ⟨mc M dv iv lv, .var⟩ /\ MsgIn (arrHp C) M dv iv lv /\
    restM (msg0 kk.toNat) 0 s = restM M last ((kk :: s).drop p) /\ (last < 8 -> iv = .snil /\ M.ids = []) /\ (last < 9 -> lv = .snil /\ M.list = []))
   (fun z e C => Fr S0 A C /\ e.get 2 = .ptr b2 0 /\ ((Is z (.exit 0) /\ C.blk[b2]? = some ⟨mcZ, .var⟩ /\ e.get 4 = .ptr b4 0 /\ ∃ (M : Go.Sv.M) (dv iv lv : V), C.blk[b4]? = some ⟨mc M dv iv lv, .var⟩ /\ MsgIn (arrHp C) M dv iv lv /\ restM (msg0 kk.toNat) 0 s = .ok M) ∨
    (Is z .ret /\ ∃ c, e.get 3 = .int .i64 c /\ evLoad Try.prog 70 (.ptr b2 0) C = some (.agg mcZ) /\ RdOut (kk :: s) (.tup [.agg mcZ, .int .i64 c]) C)))
   ⟨_, f1.then0 s2, s2.row0 r1, rfl, rfl, rfl, 1, 0, msg0 kk.toNat, .snil, .snil, .snil, rfl, by omega, by omega, rfl, rfl, s3, AH6, rfl, fun _ => ⟨rfl, rfl⟩, fun _ => ⟨rfl, rfl⟩⟩ ?_ ?_
  . clear s1 s3 s2 s4
    rintro n e C ⟨fC, r2C, h0, h2, h4, p, last, M, dv, iv, lv, rfl, hp1, hple, h5, h6, jC, hM, hrest, hiv, hlv⟩
    have ldc := ldM jC hM.id
    have hcl : (((kk :: s).length : Nat) : Int) = ((s.length + 1 : Nat) : Int) := by simp
    simp only [RT, Q0, Q1, Q2, Q3, Q4, Q5, Q6, Q7, Q8, h5, h0, hlen, hcl]
    refine Aa1 (fun g => ?_) (fun g => ?_)
    . have hdl : ((kk :: s).drop p).length = s.length + 1 - p := by rw [List.length_drop]; rfl
      match hd : (kk :: s).drop p with
      | [] => rw [hd] at hdl; simp at hdl; omega
      | t :: r =>
       obtain ⟨xp, dp, ip⟩ := AA7 hd
       have ht := t.toNat_lt
       have y1 := AA0 (P := Try.prog) (t := 9) (k := .i64) Try.underlying9 xp
       rw [hd] at hrest
       have hr : ∀ {e : Int}, restM M last (t :: r) = .error e -> readM (kk :: s) = .error e := fun q => by rw [hread, hrest, q]
       simp only [RT, Q0, Q1, Q2, Q3, Q4, Q5, Q6, Q7, Q8, h0, h5, h6, y1, AX7]
       refine Ab8 (fun g1 => ?_) (fun g1 => ?_)
       . obtain ⟨D, z1, z2, z3, z4⟩ := fin _ _ fC r2C (hr (AP5 (.inl (by omega))))
         simp only [RT, Q0, Q1, Q2, Q3, Q4, Q5, Q6, Q7, Q8, g1, Af1, h2, z1]
         exact ⟨z3, .inr ⟨rfl, _, rfl, z2, z4⟩⟩
       simp only [RT, Q0, Q1, Q2, Q3, Q4, Q5, Q6, Q7, Q8, g1]
       refine Aa1 (fun g2 => ?_) (fun g2 => ?_)
       . obtain ⟨D, z1, z2, z3, z4⟩ := fin _ _ fC r2C (hr (AP5 (.inr (by omega))))
         simp only [RT, Q0, Q1, Q2, Q3, Q4, Q5, Q6, Q7, Q8, Af1, h2, z1]
         exact ⟨z3, .inr ⟨rfl, _, rfl, z2, z4⟩⟩
       have hgood : ¬ (t.toNat <= last ∨ t.toNat > 9) := by omega
       have e5 : IntKind.i64.wrap ((p : Int) + 1) = ((p + 1 : Nat) : Int) := Af3 (by omega)
       obtain ⟨w, C', k1, hC', k2⟩ := Ay5 (A := C) (s := kk :: s) (i := p + 1) (by simp only [List.length_cons]; omega) (by simp only [List.length_cons]; omega)
       rw [hC'] at k1
       rw [dp] at k2
       simp only [RT, Q0, Q1, Q2, Q3, Q4, Q5, Q6, Q7, Q8, h0, h5, e5]
       refine Aa0 k1 ?_
       rcases k2 with ⟨k2, rfl⟩ | ⟨x, r', k2, rfl, k3, k4⟩
       . obtain ⟨D, z1, z2, z3, z4⟩ := fin _ _ fC r2C (hr (AW7 hgood k2))
         simp only [RT, Q0, Q1, Q2, Q3, Q4, Q5, Q6, Q7, Q8, Af1, h2, z1]
         exact ⟨z3, .inr ⟨rfl, _, rfl, z2, z4⟩⟩
       . have hl3 := Ad4 k2
         obtain ⟨w, D, u1, u2, u3⟩ := AX9 (A := C) (x := x) (t := t.toNat) (fC.wf hw) hM (by omega) (by omega) hl3.2 (fun q => hiv (by omega)) (hlv (by omega))
         simp only [RT, Q0, Q1, Q2, Q3, Q4, Q5, Q6, Q7, Q8, h4, ldc]
         refine Aa0 u1 ?_
         have fD := fC.then0 u2
         have jD := u2.row0 jC
         have r2D := u2.row0 r2C
         rcases u3 with ⟨c, cs, hp, hc0, rfl, hcl2, hcone⟩ | ⟨M', dv', iv', lv', hp, rfl, hM', hiv', hlv'⟩
         . obtain ⟨E, v1, v2, v3⟩ := AA1 (o := 0) (t := 70) (w := .agg cs) (cs := cs) jD hM.id rfl (by rw [hcl2]; exact AP2) (by rw [hcl2]; decide) hcone
           obtain ⟨F, z1, z2, z3, z4⟩ := fin _ _ (fD.row_ v2 hN4) (v2.rowNe r2D h24) (hr (Ba6 hgood k2 hp))
           simp only [RT, Q0, Q1, Q2, Q3, Q4, Q5, Q6, Q7, Q8, h4, v1, hc0, Af1, h2, z1]
           exact ⟨z3, .inr ⟨rfl, _, rfl, z2, z4⟩⟩
         . obtain ⟨E, v1, v2, v3⟩ := AA1 (o := 0) (t := 70) (w := .agg (mc M' dv' iv' lv')) (cs := mc M' dv' iv' lv') jD hM.id rfl (by rw [Ab5 hM'.id]; exact AP2) (by rw [Ab5 hM'.id]; decide) (Al7 hM')
           rw [Ab2 (by rw [Ab5 hM.id, Ab5 hM'.id])] at v3
           have leE := Ac0 v2 (fun b q => by cases q; exact Ae7 jD)
           have hrest' : restM (msg0 kk.toNat) 0 s = restM M' t.toNat ((kk :: s).drop (p + 1 + 3 + x.length)) := by rw [hrest, A67 hgood k2 hp, k3]
           simp only [RT, Q0, Q1, Q2, Q3, Q4, Q5, Q6, Q7, Q8, h4, v1]
           exact ⟨s.length + 1 - (p + 1 + 3 + x.length), by simp only [List.length_cons] at k4; omega, fD.row_ v2 hN4, v2.rowNe r2D h24, h0, h2, p + 1 + 3 + x.length, t.toNat, M', dv', iv', lv', rfl, by omega, by simp only [List.length_cons] at k4; omega, rfl, rfl, v3, hM'.mono leE, hrest', fun q => hiv' q (hiv (by omega)).2, fun q => hlv' q (hlv (by omega)).2⟩
    . have : p = s.length + 1 := by omega
      subst this
      rw [show (kk :: s).drop (s.length + 1) = [] from List.drop_eq_nil_of_le (by simp), Ba5] at hrest
      simp only [RT, Q0, Q1, Q2, Q3, Q4, Q5, Q6, Q7, Q8]
      exact ⟨fC, h2, .inl ⟨rfl, r2C, h4, M, dv, iv, lv, jC, hM, hrest⟩⟩
  . rintro z e C hz ⟨fC, h2, ⟨rfl, r2C, h4, M, dv, iv, lv, jC, hM, hrest⟩ | ⟨rfl, c, h3, hld, hout⟩⟩
    rotate_left
    . simp only [RT, Q0, Q1, Q2, Q3, Q4, Q5, Q6, Q7, Q8, h2, h3, hld]
      exact ⟨fC, hout⟩
    have hsz := AL0 hrest
    have hz0 : szM (msg0 kk.toNat) = 0 := rfl
    have hsized : Sized M := ⟨by simp only [szM] at hsz hz0; omega, by simp only [szM] at hsz hz0; omega, by simp only [szM] at hsz hz0; omega, fun b hb => by have := Aj3 hb; simp only [szM] at hsz hz0; omega⟩
    have ldc := ldM jC hM.id
    obtain ⟨_, D, k1, rfl, k2⟩ := AL3 (Af0 C) hM hsized.ids hsized.data hsized.list hsized.each
    simp only [RT, Q0, Q1, Q2, Q3, Q4, Q5, Q6, Q7, Q8, h4, ldc]
    refine Aa0 k1 ?_
    have fD := fC.then0 k2
    have jD := k2.row0 jC
    have r2D := k2.row0 r2C
    simp only [RT, Q0, Q1, Q2, Q3, Q4, Q5, Q6, Q7, Q8]
    refine Aa1 (fun g => ?_) (fun g => ?_)
    . have hrd : readM (kk :: s) = .error (checkM M) := by rw [hread, hrest]; simp only []; rw [if_pos g]
      obtain ⟨E, z1, z2, z3, z4⟩ := fin _ _ fD r2D hrd
      simp only [RT, Q0, Q1, Q2, Q3, Q4, Q5, Q6, Q7, Q8, Af1, h2, z1, z2]
      exact ⟨z3, z4⟩
    . have hrd : readM (kk :: s) = .ok M := by rw [hread, hrest]; simp only []; rw [if_neg g]
      obtain ⟨E, z1, z2, z3⟩ := AA1 (o := 0) (t := 70) (w := .agg (mc M dv iv lv)) (cs := mc M dv iv lv) r2D zid rfl (by rw [Ab5 hM.id]; exact AP2) (by rw [Ab5 hM.id]; decide) (Al7 hM)
      rw [Ab2 (by rw [Ab5 zid, Ab5 hM.id])] at z3
      have ldd := ldM jD hM.id
      have lde := (ldM z3 hM.id).2.2.2.2.2.2.2.2.2.2
      simp only [RT, Q0, Q1, Q2, Q3, Q4, Q5, Q6, Q7, Q8, h4, ldd, h2, z1, lde]
      have le1 := Ac0 k2 (fun b q => q.elim)
      have le3 := Ac0 z2 (fun b q => by cases q; exact Ae7 r2D)
      exact ⟨fD.row_ z2 hN, Bk8 hrd (hM.mono (Hp.le_trans le1 le3))⟩
end Go.Sv.Try
namespace Go.Sv.Try
open Go Go.Proofs
theorem M.ext' {x y : Go.Sv.M} (h0 : x.kind = y.kind) (h1 : x.who = y.who) (h2 : x.height = y.height) (h3 : x.round = y.round) (h4 : x.valid = y.valid) (h5 : x.num = y.num) (h6 : x.id = y.id) (h7 : x.data = y.data) (h8 : x.ids = y.ids) (h9 : x.list = y.list) : x = y := by
 cases x; cases y; simp at h0 h1 h2 h3 h4 h5 h6 h7 h8 h9; simp [*]
theorem AH8 (b : Bts) : szM (readMsg b) <= b.length := by
 unfold readMsg
 cases h : readM b with
 | error e => show szM (msg0 0) <= _; exact Nat.zero_le _
 | ok m =>
  show szM m <= _
  match b, h with
  | k :: r, h =>
   unfold readM at h
   simp only [] at h
   split at h
   . simp at h
   . split at h
     . simp at h
     . rename_i m' hm
       split at h
       . simp at h
       . simp at h; subst h
         have := AL0 hm
         have hz : szM (msg0 k.toNat) = 0 := rfl
         simp only [List.length_cons]; omega
end Go.Sv.Try
namespace Go.Sv.Try
open Go Go.Proofs
theorem Bl1 {b : Bts} {x : Go.Sv.M} (h : readM b = .ok x) : readMsg b = x /\ readErr b = 0 := by
 unfold readMsg readErr; rw [h]; exact ⟨rfl, rfl⟩
theorem AH9 {x : Go.Sv.M} {m : Hp} {dv iv lv : V} (h : MsgIn m x dv iv lv) (hok : OkM x) : (writeB x).length <= 1800091 := by
 have h1 := AC2 (P9 x) 1 (AX4 hok h.id (AX5 h.ids))
 have h3 : (P9 x).length = 9 := rfl
 rw [h3] at h1
 simp only [writeB, fieldList, List.length_cons]; omega
theorem As3 {A : AS} {x : Go.Sv.M} {dv iv lv : V} {m : Hp} (h : MsgIn m x dv iv lv) : ∃ A', evStore Try.prog 70 (.ptr A.blk.length 0) (.agg (mc x dv iv lv)) (A.push ⟨mcZ, .var⟩) = some A' /\ Fr S0 A A' /\ A'.blk[A.blk.length]? = some ⟨mc x dv iv lv, .var⟩ := by
 obtain ⟨A2, s1, s2, s3, s4⟩ := Ag4 (P := Try.prog) A (z := mcZ) (t := 70) (x := .agg (mc x dv iv lv)) (cs := mc x dv iv lv) rfl (by rw [Ab5 h.id]; exact AP2) (by rw [Ab5 h.id]; rfl) (Al7 h)
 exact ⟨A2, s1, s2, s3⟩
end Go.Sv.Try
namespace Go.Sv.Try
open Go Go.Proofs
end Go.Sv.Try
namespace Go.Sv.Try
open Go Go.Proofs
def entBad (x : Go.Sv.M) : Prop := x.kind ≠ 1 ∨ x.num < 1 ∨ x.who > 15 ∨ x.height ≠ 0 ∨ x.round ≠ 0 ∨ x.valid ≠ 0 ∨ x.id ≠ zero32 ∨ x.ids.length > 0 ∨ x.list.length > 0
open Classical in
noncomputable def entC (b : Bts) : Int := if readErr b ≠ 0 then readErr b else if entBad (readMsg b) then 23 else if (readMsg b).data.length > 256 then 2 else 0
theorem At6 {b : Bts} (h : readErr b ≠ 0) : entC b = readErr b := by unfold entC; rw [if_pos h]
theorem AL4 {b : Bts} (h : readErr b = 0) (hb : entBad (readMsg b)) : entC b = 23 := by unfold entC; rw [if_neg (by simpa using h), if_pos hb]
theorem AC4 {b : Bts} (h : readErr b = 0) (hb : ¬ entBad (readMsg b)) (hl : (readMsg b).data.length > 256) : entC b = 2 := by unfold entC; rw [if_neg (by simpa using h), if_neg hb, if_pos hl]
theorem AY0 {b : Bts} (h : readErr b = 0) (hb : ¬ entBad (readMsg b)) (hl : ¬ (readMsg b).data.length > 256) : entC b = 0 := by unfold entC; rw [if_neg (by simpa using h), if_neg hb, if_neg hl]
theorem Bl2 {b : Bts} (h : readErr b = 0) : OkM (readMsg b) := by
 obtain ⟨x, hx⟩ := AH2.1 h
 rw [(Bl1 hx).1]
 exact AG7 (AH0 hx).2.1
def EntOut (b : Bts) (w : V) (B : AS) : Prop := ∃ (X : Go.Sv.M) (dv iv lv : V), w = .tup [.agg (mc X dv iv lv), .int .i64 (entC b)] /\ MsgIn (arrHp B) X dv iv lv /\ (entC b = 0 -> X = readMsg b)
def EntOutZ (b : Bts) (w : V) (B : AS) : Prop := EntOut b w B /\ (entC b ≠ 0 -> w = .tup [.agg mcZ, .int .i64 (entC b)])
set_option maxRecDepth 10000 in
set_option maxHeartbeats 32000000 in
theorem AC5 {m : Hp} {A : AS} {v : V} {b : Bts} (hw : WF A) (hm : m.on A) (h : Slc eU8 m v b) (hb : b.length <= 1000000000000) :
 ∃ w A', EvF Try.prog HH 36 [v] A w A' /\ Fr S0 A A' /\ EntOutZ b w A' := by
 refine Aa6 rfl Try.func36 (by unfold Try.f36; rfl) Try.ntmps36 (by unfold Try.f36; rfl) (by simp) ?_
 simp only [RT, Q0, Q1, Q2, Q3, Q4, Q5, Q6, Q7, Q8, zcM]
 obtain ⟨A1, e1, f1, r1, n1⟩ := Aa9 A mcZ
 rw [<- e1]
 have zid : (msg0 0).id.length = 32 := rfl
 obtain ⟨w, A2, k1, k2, dv, iv, lv, rfl, k3⟩ := Bc3 (f1.wf hw) (hm.fr0 f1) h hb
 refine Aa0 k1 ?_
 obtain ⟨A3, s1, s2, s3⟩ := As3 (A := A2) k3
 have f3 := (f1.then0 k2).then0 s2
 have r2 := s2.row0 (k2.row0 r1)
 have hM : MsgIn (arrHp A3) (readMsg b) dv iv lv := k3.mono (Ac0 s2 fun b q => q.elim)
 have ld := ldM s3 k3.id
 have fa := faM A2.blk.length
 have dl := fun B => hM.data.len (P := Try.prog) Try.underlying44 B
 have il := fun B => hM.ids.len (P := Try.prog) Try.underlying36 B
 have ll := fun B => hM.list.len (P := Try.prog) Try.underlying22 B
 have bad : ∃ C, evStore Try.prog 70 (.ptr A.blk.length 0) (.agg mcZ) A3 = some C /\ evLoad Try.prog 70 (.ptr A.blk.length 0) C = some (.agg mcZ) /\ Fr S0 A C /\ (entC b ≠ 0 -> EntOutZ b (.tup [.agg mcZ, .int .i64 (entC b)]) C) := by
  obtain ⟨C, y1, y2, y3⟩ := AA1 (o := 0) (t := 70) (w := .agg mcZ) (cs := mcZ) r2 zid rfl AP2 (by decide) rfl
  rw [Ab2 rfl] at y3
  exact ⟨C, y1, (ldM y3 zid).2.2.2.2.2.2.2.2.2.2, f3.row_ y2 (Nat.le_refl _), fun q => ⟨⟨_, _, _, _, rfl, AH6 (k := 0), fun z => absurd z q⟩, fun _ => rfl⟩⟩
 obtain ⟨C, b1, b2, b3, b4⟩ := bad
 obtain ⟨D, g1, g2, g3⟩ := AA1 (o := 0) (t := 70) (w := .agg (mc (readMsg b) dv iv lv)) (cs := mc (readMsg b) dv iv lv) r2 zid rfl (by rw [Ab5 hM.id]; exact AP2) (by rw [Ab5 hM.id]; decide) (Al7 hM)
 rw [Ab2 (by rw [Ab5 zid, Ab5 hM.id])] at g3
 have ldD := (ldM g3 hM.id).2.2.2.2.2.2.2.2.2.2
 have fD := f3.row_ g2 (Nat.le_refl _)
 have hMD : MsgIn (arrHp D) (readMsg b) dv iv lv := hM.mono (Ac0 g2 fun b q => by cases q; exact Ae7 r2)
 simp only [RT, Q0, Q1, Q2, Q3, Q4, Q5, Q6, Q7, Q8, zcM, s1]
 refine Aa1 (fun h0 => ?_) (fun h0 => ?_)
 . simp only [RT, Q0, Q1, Q2, Q3, Q4, Q5, Q6, Q7, Q8, Af1, b1, b2]
   rw [<- At6 h0]
   exact ⟨b3, b4 (by rw [At6 h0]; exact h0)⟩
 have he : readErr b = 0 := by omega
 have hok := Bl2 he
 have hn := hok.nums
 simp only [M.nums, List.mem_cons, List.mem_nil_iff, or_false, forall_eq_or_imp, forall_eq] at hn
 obtain ⟨⟨a1, c1⟩, ⟨a2, c2⟩, ⟨a3, c3⟩, ⟨a4, c4⟩, a5, c5⟩ := hn
 have hsz := AH8 b
 generalize hX : readMsg b = X at *
 have no : entBad X -> EntOutZ b (.tup [.agg mcZ, .int .i64 23]) C := fun q => by
  have e := AL4 he (by rw [hX]; exact q)
  rw [e] at b4; exact b4 (by decide)
 simp only [RT, Q0, Q1, Q2, Q3, Q4, Q5, Q6, Q7, Q8, fa, ld]
 by_cases q1 : X.kind = 1
 rotate_left
 . simp only [RT, Q0, Q1, Q2, Q3, Q4, Q5, Q6, Q7, Q8, q1, Af1, b1, b2]
   exact ⟨b3, no (.inl q1)⟩
 simp only [RT, Q0, Q1, Q2, Q3, Q4, Q5, Q6, Q7, Q8, q1, fa, ld]
 by_cases q2 : X.num < 1
 . simp only [RT, Q0, Q1, Q2, Q3, Q4, Q5, Q6, Q7, Q8, q2, Af1, b1, b2]
   exact ⟨b3, no (.inr (.inl q2))⟩
 simp only [RT, Q0, Q1, Q2, Q3, Q4, Q5, Q6, Q7, Q8, q2, fa, ld]
 by_cases q3 : X.who > 15
 . simp only [RT, Q0, Q1, Q2, Q3, Q4, Q5, Q6, Q7, Q8, q3, Af1, b1, b2]
   exact ⟨b3, no (.inr (.inr (.inl q3)))⟩
 have w1 : IntKind.i64.wrap (X.height + X.round) = X.height + X.round := Ac6 (by omega) (by omega)
 have w2 : IntKind.i64.wrap (X.height + X.round + X.valid) = X.height + X.round + X.valid := Ac6 (by omega) (by omega)
 simp only [RT, Q0, Q1, Q2, Q3, Q4, Q5, Q6, Q7, Q8, q3, fa, ld, w1, w2]
 by_cases q4 : X.height + X.round + X.valid > 0
 . simp only [RT, Q0, Q1, Q2, Q3, Q4, Q5, Q6, Q7, Q8, q4, Af1, b1, b2]
   refine ⟨b3, no (.inr (.inr (.inr ?_)))⟩
   omega
 simp only [RT, Q0, Q1, Q2, Q3, Q4, Q5, Q6, Q7, Q8, q4, fa, ld, BD6, eqI hM.id (rfl : zero32.length = 32)]
 by_cases q5 : X.id = zero32
 rotate_left
 . simp only [RT, Q0, Q1, Q2, Q3, Q4, Q5, Q6, Q7, Q8, q5, Af1, b1, b2]
   exact ⟨b3, no (.inr (.inr (.inr (.inr (.inr (.inr (.inl q5)))))))⟩
 have w3 : IntKind.i64.wrap ((X.ids.length : Int) + (X.list.length : Int)) = (X.ids.length : Int) + (X.list.length : Int) := by simp only [szM] at hsz; exact Ac6 (by omega) (by omega)
 simp only [RT, Q0, Q1, Q2, Q3, Q4, Q5, Q6, Q7, Q8, q5, fa, ld, il, ll, w3]
 refine Aa1 (fun q6 => ?_) (fun q6 => ?_)
 . simp only [RT, Q0, Q1, Q2, Q3, Q4, Q5, Q6, Q7, Q8, Af1, b1, b2]
   refine ⟨b3, no (.inr (.inr (.inr (.inr (.inr (.inr (.inr ?_)))))))⟩
   omega
 have good : ¬ entBad X := by
  rintro (z | z | z | z | z | z | z | z | z)
  . exact z q1
  . exact q2 z
  . exact q3 z
  . omega
  . omega
  . omega
  . exact z q5
  . omega
  . omega
 simp only [RT, Q0, Q1, Q2, Q3, Q4, Q5, Q6, Q7, Q8, fa, ld, dl]
 refine Aa1 (fun q7 => ?_) (fun q7 => ?_)
 . simp only [RT, Q0, Q1, Q2, Q3, Q4, Q5, Q6, Q7, Q8, Af1, b1, b2]
   have e := AC4 he (by rw [hX]; exact good) (by rw [hX]; omega)
   rw [e] at b4
   exact ⟨b3, b4 (by decide)⟩
 . simp only [RT, Q0, Q1, Q2, Q3, Q4, Q5, Q6, Q7, Q8, ld, g1, ldD]
   have e := AY0 he (by rw [hX]; exact good) (by rw [hX]; omega)
   exact ⟨fD, ⟨X, dv, iv, lv, by rw [e], hMD, fun _ => hX.symm⟩, fun q => absurd e q⟩
set_option maxRecDepth 10000 in
set_option maxHeartbeats 32000000 in
theorem AR0 {A : AS} {b : Bts} (hw : WF A) (hb : b.length <= 1000000000000) :
 ∃ w A', EvF Try.prog HH 37 [.str b] A w A' /\ Fr S0 A A' /\ EntOutZ b w A' := by
 refine Aa6 rfl Try.func37 (by unfold Try.f37; rfl) Try.ntmps37 (by unfold Try.f37; rfl) (by simp) ?_
 simp only [RT, Q0, Q1, Q2, Q3, Q4, Q5, Q6, Q7, Q8, zcM]
 obtain ⟨A1, e1, f1, r1, n1⟩ := Aa9 A mcZ
 rw [<- e1]
 have zid : (msg0 0).id.length = 32 := rfl
 obtain ⟨w, A2, k1, k2, dv, iv, lv, rfl, k3⟩ := Ay6 (A := A1) (b := b) (f1.wf hw) hb
 refine Aa0 k1 ?_
 obtain ⟨A3, s1, s2, s3⟩ := As3 (A := A2) k3
 have f3 := (f1.then0 k2).then0 s2
 have r2 := s2.row0 (k2.row0 r1)
 have hM : MsgIn (arrHp A3) (readMsg b) dv iv lv := k3.mono (Ac0 s2 fun b q => q.elim)
 have ld := ldM s3 k3.id
 have fa := faM A2.blk.length
 have dl := fun B => hM.data.len (P := Try.prog) Try.underlying44 B
 have il := fun B => hM.ids.len (P := Try.prog) Try.underlying36 B
 have ll := fun B => hM.list.len (P := Try.prog) Try.underlying22 B
 have bad : ∃ C, evStore Try.prog 70 (.ptr A.blk.length 0) (.agg mcZ) A3 = some C /\ evLoad Try.prog 70 (.ptr A.blk.length 0) C = some (.agg mcZ) /\ Fr S0 A C /\ (entC b ≠ 0 -> EntOutZ b (.tup [.agg mcZ, .int .i64 (entC b)]) C) := by
  obtain ⟨C, y1, y2, y3⟩ := AA1 (o := 0) (t := 70) (w := .agg mcZ) (cs := mcZ) r2 zid rfl AP2 (by decide) rfl
  rw [Ab2 rfl] at y3
  exact ⟨C, y1, (ldM y3 zid).2.2.2.2.2.2.2.2.2.2, f3.row_ y2 (Nat.le_refl _), fun q => ⟨⟨_, _, _, _, rfl, AH6 (k := 0), fun z => absurd z q⟩, fun _ => rfl⟩⟩
 obtain ⟨C, b1, b2, b3, b4⟩ := bad
 obtain ⟨D, g1, g2, g3⟩ := AA1 (o := 0) (t := 70) (w := .agg (mc (readMsg b) dv iv lv)) (cs := mc (readMsg b) dv iv lv) r2 zid rfl (by rw [Ab5 hM.id]; exact AP2) (by rw [Ab5 hM.id]; decide) (Al7 hM)
 rw [Ab2 (by rw [Ab5 zid, Ab5 hM.id])] at g3
 have ldD := (ldM g3 hM.id).2.2.2.2.2.2.2.2.2.2
 have fD := f3.row_ g2 (Nat.le_refl _)
 have hMD : MsgIn (arrHp D) (readMsg b) dv iv lv := hM.mono (Ac0 g2 fun b q => by cases q; exact Ae7 r2)
 simp only [RT, Q0, Q1, Q2, Q3, Q4, Q5, Q6, Q7, Q8, zcM, s1]
 refine Aa1 (fun h0 => ?_) (fun h0 => ?_)
 . simp only [RT, Q0, Q1, Q2, Q3, Q4, Q5, Q6, Q7, Q8, Af1, b1, b2]
   rw [<- At6 h0]
   exact ⟨b3, b4 (by rw [At6 h0]; exact h0)⟩
 have he : readErr b = 0 := by omega
 generalize hX : readMsg b = X at *
 have no : entBad X -> EntOutZ b (.tup [.agg mcZ, .int .i64 23]) C := fun q => by
  have e := AL4 he (by rw [hX]; exact q)
  rw [e] at b4; exact b4 (by decide)
 simp only [RT, Q0, Q1, Q2, Q3, Q4, Q5, Q6, Q7, Q8, fa, ld]
 by_cases q1 : X.kind = 1
 rotate_left
 . simp only [RT, Q0, Q1, Q2, Q3, Q4, Q5, Q6, Q7, Q8, q1, Af1, b1, b2]
   exact ⟨b3, no (.inl q1)⟩
 simp only [RT, Q0, Q1, Q2, Q3, Q4, Q5, Q6, Q7, Q8, q1, fa, ld]
 by_cases q2 : X.num < 1
 . simp only [RT, Q0, Q1, Q2, Q3, Q4, Q5, Q6, Q7, Q8, q2, Af1, b1, b2]
   exact ⟨b3, no (.inr (.inl q2))⟩
 simp only [RT, Q0, Q1, Q2, Q3, Q4, Q5, Q6, Q7, Q8, q2, fa, ld]
 by_cases q3 : X.who > 15
 . simp only [RT, Q0, Q1, Q2, Q3, Q4, Q5, Q6, Q7, Q8, q3, Af1, b1, b2]
   exact ⟨b3, no (.inr (.inr (.inl q3)))⟩
 simp only [RT, Q0, Q1, Q2, Q3, Q4, Q5, Q6, Q7, Q8, q3, fa, ld]
 by_cases q4 : X.height = 0
 rotate_left
 . simp only [RT, Q0, Q1, Q2, Q3, Q4, Q5, Q6, Q7, Q8, q4, Af1, b1, b2]
   exact ⟨b3, no (.inr (.inr (.inr (.inl q4))))⟩
 simp only [RT, Q0, Q1, Q2, Q3, Q4, Q5, Q6, Q7, Q8, q4, fa, ld]
 by_cases q5 : X.round = 0
 rotate_left
 . simp only [RT, Q0, Q1, Q2, Q3, Q4, Q5, Q6, Q7, Q8, q5, Af1, b1, b2]
   exact ⟨b3, no (.inr (.inr (.inr (.inr (.inl q5)))))⟩
 simp only [RT, Q0, Q1, Q2, Q3, Q4, Q5, Q6, Q7, Q8, q5, fa, ld]
 by_cases q6 : X.valid = 0
 rotate_left
 . simp only [RT, Q0, Q1, Q2, Q3, Q4, Q5, Q6, Q7, Q8, q6, Af1, b1, b2]
   exact ⟨b3, no (.inr (.inr (.inr (.inr (.inr (.inl q6))))))⟩
 simp only [RT, Q0, Q1, Q2, Q3, Q4, Q5, Q6, Q7, Q8, q6, fa, ld, BD6, eqI hM.id (rfl : zero32.length = 32)]
 by_cases q7 : X.id = zero32
 rotate_left
 . simp only [RT, Q0, Q1, Q2, Q3, Q4, Q5, Q6, Q7, Q8, q7, Af1, b1, b2]
   exact ⟨b3, no (.inr (.inr (.inr (.inr (.inr (.inr (.inl q7)))))))⟩
 simp only [RT, Q0, Q1, Q2, Q3, Q4, Q5, Q6, Q7, Q8, q7, fa, ld, il]
 by_cases q8 : (X.ids.length : Int) > 0
 . simp only [RT, Q0, Q1, Q2, Q3, Q4, Q5, Q6, Q7, Q8, q8, Af1, b1, b2]
   exact ⟨b3, no (.inr (.inr (.inr (.inr (.inr (.inr (.inr (.inl (by omega)))))))))⟩
 simp only [RT, Q0, Q1, Q2, Q3, Q4, Q5, Q6, Q7, Q8, q8, fa, ld, ll]
 refine Aa1 (fun q9 => ?_) (fun q9 => ?_)
 . simp only [RT, Q0, Q1, Q2, Q3, Q4, Q5, Q6, Q7, Q8, Af1, b1, b2]
   exact ⟨b3, no (.inr (.inr (.inr (.inr (.inr (.inr (.inr (.inr (by omega)))))))))⟩
 have good : ¬ entBad X := by
  rintro (z | z | z | z | z | z | z | z | z)
  . exact z q1
  . exact q2 z
  . exact q3 z
  . exact z q4
  . exact z q5
  . exact z q6
  . exact z q7
  . omega
  . omega
 simp only [RT, Q0, Q1, Q2, Q3, Q4, Q5, Q6, Q7, Q8, fa, ld, dl]
 refine Aa1 (fun q7 => ?_) (fun q7 => ?_)
 . simp only [RT, Q0, Q1, Q2, Q3, Q4, Q5, Q6, Q7, Q8, Af1, b1, b2]
   have e := AC4 he (by rw [hX]; exact good) (by rw [hX]; omega)
   rw [e] at b4
   exact ⟨b3, b4 (by decide)⟩
 . simp only [RT, Q0, Q1, Q2, Q3, Q4, Q5, Q6, Q7, Q8, ld, g1, ldD]
   have e := AY0 he (by rw [hX]; exact good) (by rw [hX]; omega)
   exact ⟨fD, ⟨X, dv, iv, lv, by rw [e], hMD, fun _ => hX.symm⟩, fun q => absurd e q⟩
theorem Ar3 {m : Hp} {A : AS} {v : V} {b : Bts} (hw : WF A) (hm : m.on A) (h : Slc eU8 m v b) (hb : b.length <= 1000000000000) :
 ∃ w A', EvF Try.prog HH 36 [v] A w A' /\ Fr S0 A A' /\ EntOut b w A' := by
 obtain ⟨w, A', h1, h2, h3, _⟩ := AC5 hw hm h hb
 exact ⟨w, A', h1, h2, h3⟩
theorem AC6 {A : AS} {b : Bts} (hw : WF A) (hb : b.length <= 1000000000000) :
 ∃ w A', EvF Try.prog HH 37 [.str b] A w A' /\ Fr S0 A A' /\ EntOut b w A' := by
 obtain ⟨w, A', h1, h2, h3, _⟩ := AR0 (b := b) hw hb
 exact ⟨w, A', h1, h2, h3⟩
end Go.Sv.Try
namespace Go.Sv.Try
open Go Go.Proofs
theorem zB : zeroT Try.prog 4 = some (.bool false) := by kernel_rfl
end Go.Sv.Try
namespace Go.Sv.Try
open Go Go.Proofs
noncomputable def nameOf (b : Bts) : Option (Int × Int) := if entC b = 0 then some ((readMsg b).who, (readMsg b).num) else none
noncomputable def nm (list : List Bts) (i : Nat) : Option (Int × Int) := (list[i]?).bind nameOf
theorem A35 {P : Program} {A : AS} {b n : Nat} {t : TypeId} {cs : List V} {k : BK} (ha : aggT P t = some true) (hs : szT P t = some n) (hb : A.blk[b]? = some ⟨cs, k⟩) (hl : cs.length = n) : evLoad P t (.ptr b 0) A = some (.agg cs) := by
 rw [Ai5 ha hs]
 unfold AS.range
 rw [hb]
 simp only [hl, Nat.zero_add, Nat.le_refl, if_true, List.drop_zero]
 rw [<- hl, List.take_length]; rfl
end Go.Sv.Try
