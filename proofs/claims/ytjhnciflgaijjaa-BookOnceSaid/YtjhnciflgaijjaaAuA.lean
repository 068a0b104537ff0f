/- Parts of writing messages: what they come to. -/
import Derived.Test.YtjhnciflgaijjaaSvBase
import Derived.Test.YtjhnciflgaijjaaAu0
import Derived.Test.YtjhnciflgaijjaaSv4
namespace Go.Sv.Try
open Go Go.Proofs
set_option linter.unusedVariables false
set_option linter.unusedSimpArgs false
theorem faM (b : Nat) : evFieldAddr Try.prog 70 (.ptr b 0) 0 = some (.ptr b 0) ∧ evFieldAddr Try.prog 70 (.ptr b 0) 1 = some (.ptr b 1) ∧ evFieldAddr Try.prog 70 (.ptr b 0) 2 = some (.ptr b 2) ∧ evFieldAddr Try.prog 70 (.ptr b 0) 3 = some (.ptr b 3) ∧ evFieldAddr Try.prog 70 (.ptr b 0) 4 = some (.ptr b 4)
    ∧ evFieldAddr Try.prog 70 (.ptr b 0) 5 = some (.ptr b 5) ∧ evFieldAddr Try.prog 70 (.ptr b 0) 6 = some (.ptr b 6) ∧ evFieldAddr Try.prog 70 (.ptr b 0) 7 = some (.ptr b 38) ∧ evFieldAddr Try.prog 70 (.ptr b 0) 8 = some (.ptr b 39) ∧ evFieldAddr Try.prog 70 (.ptr b 0) 9 = some (.ptr b 40) :=
  ⟨by kernel_rfl, by kernel_rfl, by kernel_rfl, by kernel_rfl, by kernel_rfl, by kernel_rfl, by kernel_rfl, by kernel_rfl, by kernel_rfl, by kernel_rfl⟩
theorem mc_at {x : M} {dv iv lv : V} (h : x.id.length = 32) : (mc x dv iv lv)[38]? = some dv ∧ (mc x dv iv lv)[39]? = some iv ∧ (mc x dv iv lv)[40]? = some lv := by
  have e : (bc x.id).length = 32 := by rw [bc_len, h]
  have key : ∀ j, (mc x dv iv lv)[38 + j]? = [dv, iv, lv][j]? := fun j => by
    have : 38 + j = (32 + j) + 6 := by omega
    rw [this]
    show (bc x.id ++ [dv, iv, lv])[32 + j]? = _
    rw [List.getElem?_append_right (by omega), e]; congr 1; omega
  exact ⟨key 0, key 1, key 2⟩
theorem ldM {x : M} {dv iv lv : V} {A : AS} {b : Nat} {k : BK} (hb : A.blk[b]? = some ⟨mc x dv iv lv, k⟩) (h : x.id.length = 32) :
    evLoad Try.prog 3 (.ptr b 0) A = some (.int .i64 x.kind) ∧ evLoad Try.prog 3 (.ptr b 1) A = some (.int .i64 x.who) ∧ evLoad Try.prog 3 (.ptr b 2) A = some (.int .i64 x.height) ∧ evLoad Try.prog 3 (.ptr b 3) A = some (.int .i64 x.round)
    ∧ evLoad Try.prog 3 (.ptr b 4) A = some (.int .i64 x.valid) ∧ evLoad Try.prog 3 (.ptr b 5) A = some (.int .i64 x.num) ∧ evLoad Try.prog 32 (.ptr b 6) A = some (.agg (bc x.id)) ∧ evLoad Try.prog 44 (.ptr b 38) A = some dv
    ∧ evLoad Try.prog 36 (.ptr b 39) A = some iv ∧ evLoad Try.prog 22 (.ptr b 40) A = some lv ∧ evLoad Try.prog 70 (.ptr b 0) A = some (.agg (mc x dv iv lv)) := by
  have hl := mc_len (dv := dv) (iv := iv) (lv := lv) h
  obtain ⟨e1, e2, e3⟩ := mc_at (dv := dv) (iv := iv) (lv := lv) h
  refine ⟨?_, ?_, ?_, ?_, ?_, ?_, ?_, ?_, ?_, ?_, ?_⟩
  · rw [load_at ag3 hb]; rfl
  · rw [load_at ag3 hb]; rfl
  · rw [load_at ag3 hb]; rfl
  · rw [load_at ag3 hb]; rfl
  · rw [load_at ag3 hb]; rfl
  · rw [load_at ag3 hb]; rfl
  · rw [load_agg ag32 sz32]
    unfold AS.range
    rw [hb]
    simp only [hl]
    rw [if_pos (by decide)]
    have : (List.drop 6 (mc x dv iv lv)).take 32 = bc x.id := by
      show (bc x.id ++ [dv, iv, lv]).take 32 = _
      rw [List.take_left' (by rw [bc_len, h])]
    rw [this]; rfl
  · rw [load_at ag44 hb, e1]
  · rw [load_at ag36 hb, e2]
  · rw [load_at ag22 hb, e3]
  · rw [load_agg ag70 sz70]
    unfold AS.range
    rw [hb]
    simp only [hl]
    rw [if_pos (by decide)]
    rw [List.drop_zero, List.take_of_length_le (by rw [hl]; decide)]; rfl
theorem bld5 (a b c d e : Int) : evBuild Try.prog 203 [(0, .int .i64 a), (1, .int .i64 b), (2, .int .i64 c), (3, .int .i64 d), (4, .int .i64 e)] = some (.agg [.int .i64 a, .int .i64 b, .int .i64 c, .int .i64 d, .int .i64 e]) := by kernel_rfl
theorem bsl1 (a : Int) : bsl Try.prog 44 1 (some [(0, .int .u8 a)]) = some (.newSl [.int .u8 a] 1 1) := by kernel_rfl
theorem bsl3 (a b c : Int) : bsl Try.prog 44 3 (some [(0, .int .u8 a), (1, .int .u8 b), (2, .int .u8 c)]) = some (.newSl [.int .u8 a, .int .u8 b, .int .u8 c] 3 1) := by kernel_rfl
theorem cnv8 (n : Int) (A : AS) : cnv Try.prog 3 5 (some (.int .i64 n)) A = some (.val (.int .u8 (IntKind.u8.wrap n))) := cnv_int (by decide) Try.underlying3 Try.underlying5
set_option maxRecDepth 10000 in
set_option maxHeartbeats 8000000 in
theorem check_spec {m : Hp} {A : AS} {x : M} {dv iv lv : V} (hm : m.on A) (h : MsgIn m x dv iv lv) (hl : x.ids.length ≤ 9223372036854775807) (hd : x.data.length ≤ 9223372036854775807) (hll : x.list.length ≤ 9223372036854775807) (hb : ∀ b ∈ x.list, b.length ≤ 9223372036854775807) :
    ∃ w A', EvF Try.prog HH 92 [.agg (mc x dv iv lv)] A w A' ∧ w = .int .i64 (checkM x) ∧ Fr S0 A A' := by
  refine run_fn2 rfl Try.func92 (by unfold Try.f92; rfl) Try.ntmps92 (by unfold Try.f92; rfl) (by simp) ?_
  simp only [RT, Nat.reduceLT, Nat.reduceBEq, Nat.reduceEqDiff, Nat.reduceAdd, Int.reduceEq, Int.reduceLT, Int.reduceLE, Int.reduceGT, Int.reduceGE]
  obtain ⟨A1, e1, f1, r1, n1⟩ := new_var A (mc x dv iv lv)
  rw [← e1]
  have ld := ldM r1 h.id
  have fa := faM A.blk.length
  have hm1 := hm.fr0 f1
  have dlen := fun B => h.data.len (P := Try.prog) Try.underlying44 B
  have ilen := fun B => h.ids.len (P := Try.prog) Try.underlying36 B
  have llen := fun B => h.list.len (P := Try.prog) Try.underlying22 B
  simp only [RT, Nat.reduceLT, Nat.reduceBEq, Nat.reduceEqDiff, Nat.reduceAdd, Int.reduceEq, Int.reduceLT, Int.reduceLE, Int.reduceGT, Int.reduceGE, ld, fa]
  refine contG_of (fun g1 => ?_) (fun g1 => ?_)
  · simp only [RT, Nat.reduceLT, Nat.reduceBEq, Nat.reduceEqDiff, Nat.reduceAdd, Int.reduceEq, Int.reduceLT, Int.reduceLE, Int.reduceGT, Int.reduceGE, g1]
    exact ⟨by unfold checkM; rw [if_pos (.inl g1)], f1⟩
  simp only [RT, Nat.reduceLT, Nat.reduceBEq, Nat.reduceEqDiff, Nat.reduceAdd, Int.reduceEq, Int.reduceLT, Int.reduceLE, Int.reduceGT, Int.reduceGE, ld, fa, g1]
  refine condK_of (fun g2 => ?_) (fun g2 => ?_)
  · simp only [RT, Nat.reduceLT, Nat.reduceBEq, Nat.reduceEqDiff, Nat.reduceAdd, Int.reduceEq, Int.reduceLT, Int.reduceLE, Int.reduceGT, Int.reduceGE]
    exact ⟨by unfold checkM; rw [if_pos (.inr g2)], f1⟩
  simp only [RT, Nat.reduceLT, Nat.reduceBEq, Nat.reduceEqDiff, Nat.reduceAdd, Int.reduceEq, Int.reduceLT, Int.reduceLE, Int.reduceGT, Int.reduceGE, ld, fa, bld5]
  have hk : ¬ (x.kind < 1 ∨ x.kind > 31) := by omega
  refine run_loop_j (fun n e B => B = A1 ∧ ∃ i : Nat, n = 5 - i ∧ i ≤ 5 ∧ e.get 27 = .int .i64 i ∧ e.get 26 = .agg (x.nums.map (.int .i64 ·)) ∧ e.get 1 = .ptr A.blk.length 0 ∧ ∀ n ∈ x.nums.take i, numBad n = false)
    (fun z e B => B = A1 ∧ e.get 1 = .ptr A.blk.length 0 ∧ ((Is z (.exit 0) ∧ ∀ n ∈ x.nums, numBad n = false) ∨ (Is z .ret ∧ e.get 2 = .int .i64 1 ∧ checkM x = 1)))
    ⟨_, rfl, 0, rfl, by simp, rfl, rfl, rfl, by simp⟩ ?_ ?_
  · rintro n e B ⟨rfl, i, rfl, hi, h27, h26, h1, hall⟩
    simp only [RT, Nat.reduceLT, Nat.reduceBEq, Nat.reduceEqDiff, Nat.reduceAdd, Int.reduceEq, Int.reduceLT, Int.reduceLE, Int.reduceGT, Int.reduceGE, h27]
    refine condK_of (fun g3 => ?_) (fun g3 => ?_)
    · obtain ⟨n, hn⟩ := get_lt (l := x.nums) (i := i) (by simp only [M.nums, List.length_cons, List.length_nil]; omega)
      have hat := arr_at (P := Try.prog) (t := 203) (k := .i64) (cs := x.nums.map (.int .i64 ·)) (i := i) Try.underlying203 sz3 ag3 (by omega)
      rw [List.getElem?_map, hn, Option.map_some] at hat
      simp only [RT, Nat.reduceLT, Nat.reduceBEq, Nat.reduceEqDiff, Nat.reduceAdd, Int.reduceEq, Int.reduceLT, Int.reduceLE, Int.reduceGT, Int.reduceGE, h27, h26, hat]
      have isBad : numBad n = true → checkM x = 1 := fun q => by
        unfold checkM
        rw [if_neg hk, if_pos (List.any_eq_true.2 ⟨n, List.mem_of_getElem? hn, q⟩)]
      refine contG_of (fun g4 => ?_) (fun g4 => ?_)
      · simp only [RT, Nat.reduceLT, Nat.reduceBEq, Nat.reduceEqDiff, Nat.reduceAdd, Int.reduceEq, Int.reduceLT, Int.reduceLE, Int.reduceGT, Int.reduceGE, g4, h1]
        exact .inr ⟨rfl, isBad (by simp [numBad, g4])⟩
      · simp only [RT, Nat.reduceLT, Nat.reduceBEq, Nat.reduceEqDiff, Nat.reduceAdd, Int.reduceEq, Int.reduceLT, Int.reduceLE, Int.reduceGT, Int.reduceGE, g4]
        refine condK_of (fun g5 => ?_) (fun g5 => ?_)
        · simp only [RT, Nat.reduceLT, Nat.reduceBEq, Nat.reduceEqDiff, Nat.reduceAdd, Int.reduceEq, Int.reduceLT, Int.reduceLE, Int.reduceGT, Int.reduceGE, h1]
          exact .inr ⟨rfl, isBad (by simp [numBad, g5])⟩
        · simp only [RT, Nat.reduceLT, Nat.reduceBEq, Nat.reduceEqDiff, Nat.reduceAdd, Int.reduceEq, Int.reduceLT, Int.reduceLE, Int.reduceGT, Int.reduceGE, h27]
          refine ⟨5 - (i + 1), by omega, i + 1, rfl, by omega, by rw [wrapS (by omega)], h26, h1, fun z hz => ?_⟩
          rcases mem_take_succ hn hz with q | rfl
          · exact hall z q
          · simp only [numBad, Bool.or_eq_false_iff, decide_eq_false_iff_not]; exact ⟨g4, g5⟩
    · simp only [RT, Nat.reduceLT, Nat.reduceBEq, Nat.reduceEqDiff, Nat.reduceAdd, Int.reduceEq, Int.reduceLT, Int.reduceLE, Int.reduceGT, Int.reduceGE, h1]
      refine .inl ⟨rfl, fun n hn => hall n ?_⟩
      rw [List.take_of_length_le (by simp only [M.nums, List.length_cons, List.length_nil]; omega)]; exact hn
  rintro z e B hz ⟨rfl, h1, ⟨rfl, hall⟩ | ⟨rfl, h2, hc⟩⟩
  rotate_left
  · simp only [RT, Nat.reduceLT, Nat.reduceBEq, Nat.reduceEqDiff, Nat.reduceAdd, Int.reduceEq, Int.reduceLT, Int.reduceLE, Int.reduceGT, Int.reduceGE, h2]
    exact ⟨by rw [hc], f1⟩
  have hn : ¬ (x.nums.any numBad = true) := fun q => by
    obtain ⟨n, hn, hb⟩ := List.any_eq_true.1 q
    rw [hall n hn] at hb; simp at hb
  have c2 : x.ids.length > 64 ∨ x.list.length > 64 ∨ x.data.length + lens x.list > 131072 → checkM x = 2 := fun q => by
    unfold checkM; rw [if_neg hk, if_neg hn, if_pos q]
  have c0 : ¬ (x.ids.length > 64 ∨ x.list.length > 64 ∨ x.data.length + lens x.list > 131072) → checkM x = 0 := fun q => by
    unfold checkM; rw [if_neg hk, if_neg hn, if_neg q]
  simp only [RT, Nat.reduceLT, Nat.reduceBEq, Nat.reduceEqDiff, Nat.reduceAdd, Int.reduceEq, Int.reduceLT, Int.reduceLE, Int.reduceGT, Int.reduceGE, h1, ld, fa, dlen, ilen]
  refine contG_of (fun g1 => ?_) (fun g1 => ?_)
  · simp only [RT, Nat.reduceLT, Nat.reduceBEq, Nat.reduceEqDiff, Nat.reduceAdd, Int.reduceEq, Int.reduceLT, Int.reduceLE, Int.reduceGT, Int.reduceGE, g1]
    exact ⟨by rw [c2 (.inl (by omega))], f1⟩
  simp only [RT, Nat.reduceLT, Nat.reduceBEq, Nat.reduceEqDiff, Nat.reduceAdd, Int.reduceEq, Int.reduceLT, Int.reduceLE, Int.reduceGT, Int.reduceGE, h1, ld, fa, g1, llen]
  refine contG_of (fun g2 => ?_) (fun g2 => ?_)
  · simp only [RT, Nat.reduceLT, Nat.reduceBEq, Nat.reduceEqDiff, Nat.reduceAdd, Int.reduceEq, Int.reduceLT, Int.reduceLE, Int.reduceGT, Int.reduceGE, g2]
    exact ⟨by rw [c2 (.inr (.inl (by omega)))], f1⟩
  simp only [RT, Nat.reduceLT, Nat.reduceBEq, Nat.reduceEqDiff, Nat.reduceAdd, Int.reduceEq, Int.reduceLT, Int.reduceLE, Int.reduceGT, Int.reduceGE, g2]
  refine condK_of (fun g3 => ?_) (fun g3 => ?_)
  · simp only [RT, Nat.reduceLT, Nat.reduceBEq, Nat.reduceEqDiff, Nat.reduceAdd, Int.reduceEq, Int.reduceLT, Int.reduceLE, Int.reduceGT, Int.reduceGE]
    exact ⟨by rw [c2 (.inr (.inr (by omega)))], f1⟩
  simp only [RT, Nat.reduceLT, Nat.reduceBEq, Nat.reduceEqDiff, Nat.reduceAdd, Int.reduceEq, Int.reduceLT, Int.reduceLE, Int.reduceGT, Int.reduceGE, h1, ld, fa, llen]
  refine run_loop_j (fun n e C => C = B ∧ ∃ i : Nat, n = x.list.length - i ∧ i ≤ x.list.length ∧ e.get 57 = .int .i64 i ∧ e.get 55 = lv ∧ e.get 56 = .int .i64 x.list.length ∧ e.get 5 = .int .i64 (x.data.length + lens (x.list.take i) : Nat) ∧ x.data.length + lens (x.list.take i) ≤ 131072)
    (fun z e C => C = B ∧ ((Is z (.exit 2) ∧ checkM x = 0) ∨ (Is z .ret ∧ e.get 2 = .int .i64 2 ∧ checkM x = 2)))
    ⟨_, rfl, 0, rfl, by simp, rfl, rfl, rfl, by simp [lens, sumOf, Env.get], by simp [lens, sumOf]; omega⟩ ?_ ?_
  · rintro n e C ⟨rfl, i, rfl, hi, h57, h55, h56, h5, hle⟩
    simp only [RT, Nat.reduceLT, Nat.reduceBEq, Nat.reduceEqDiff, Nat.reduceAdd, Int.reduceEq, Int.reduceLT, Int.reduceLE, Int.reduceGT, Int.reduceGE, h57, h56]
    refine condK_of (fun g4 => ?_) (fun g4 => ?_)
    · obtain ⟨y, hy⟩ := get_lt (l := x.list) (i := i) (by omega)
      obtain ⟨b, o, c, q1, q2, q3⟩ := h.list.at (P := Try.prog) (k := .i64) hm1 Try.underlying22 sz44 ag44 hy
      rw [eSl_W] at q3
      have q4 := fun B => q3.len (P := Try.prog) Try.underlying44 B
      have hyl := hb y (List.mem_of_getElem? hy)
      have hs := lens_succ hy
      have hle2 := lens_take_le x.list (i + 1)
      simp only [RT, Nat.reduceLT, Nat.reduceBEq, Nat.reduceEqDiff, Nat.reduceAdd, Int.reduceEq, Int.reduceLT, Int.reduceLE, Int.reduceGT, Int.reduceGE, h57, h55, q1, q2, h5, q4]
      refine contG_of (fun g5 => ?_) (fun g5 => ?_)
      · simp only [RT, Nat.reduceLT, Nat.reduceBEq, Nat.reduceEqDiff, Nat.reduceAdd, Int.reduceEq, Int.reduceLT, Int.reduceLE, Int.reduceGT, Int.reduceGE, g5]
        exact .inr ⟨rfl, c2 (.inr (.inr (by omega)))⟩
      · have hw : IntKind.i64.wrap (((x.data.length + lens (x.list.take i) : Nat) : Int) + y.length) = ((x.data.length + lens (x.list.take (i + 1)) : Nat) : Int) := by
          rw [wrap_id (by omega) (by omega), hs]; omega
        rw [hw]
        simp only [RT, Nat.reduceLT, Nat.reduceBEq, Nat.reduceEqDiff, Nat.reduceAdd, Int.reduceEq, Int.reduceLT, Int.reduceLE, Int.reduceGT, Int.reduceGE, g5]
        refine condK_of (fun g6 => ?_) (fun g6 => ?_)
        · simp only [RT, Nat.reduceLT, Nat.reduceBEq, Nat.reduceEqDiff, Nat.reduceAdd, Int.reduceEq, Int.reduceLT, Int.reduceLE, Int.reduceGT, Int.reduceGE]
          exact .inr ⟨rfl, c2 (.inr (.inr (by omega)))⟩
        · simp only [RT, Nat.reduceLT, Nat.reduceBEq, Nat.reduceEqDiff, Nat.reduceAdd, Int.reduceEq, Int.reduceLT, Int.reduceLE, Int.reduceGT, Int.reduceGE, h57]
          exact ⟨x.list.length - (i + 1), by omega, i + 1, rfl, by omega, by rw [wrapS (by omega)], h55, h56, rfl, by omega⟩
    · simp only [RT, Nat.reduceLT, Nat.reduceBEq, Nat.reduceEqDiff, Nat.reduceAdd, Int.reduceEq, Int.reduceLT, Int.reduceLE, Int.reduceGT, Int.reduceGE]
      rw [List.take_of_length_le (by omega)] at hle
      exact .inl ⟨rfl, c0 (by omega)⟩
  · rintro z e C hz ⟨rfl, ⟨rfl, hc⟩ | ⟨rfl, h2, hc⟩⟩
    · simp only [RT, Nat.reduceLT, Nat.reduceBEq, Nat.reduceEqDiff, Nat.reduceAdd, Int.reduceEq, Int.reduceLT, Int.reduceLE, Int.reduceGT, Int.reduceGE]
      exact ⟨by rw [hc], f1⟩
    · simp only [RT, Nat.reduceLT, Nat.reduceBEq, Nat.reduceEqDiff, Nat.reduceAdd, Int.reduceEq, Int.reduceLT, Int.reduceLE, Int.reduceGT, Int.reduceGE, h2]
      exact ⟨by rw [hc], f1⟩
end Go.Sv.Try
namespace Go.Sv.Try
open Go Go.Proofs
set_option linter.unusedVariables false
set_option linter.unusedSimpArgs false
set_option maxRecDepth 10000 in
set_option maxHeartbeats 8000000 in
theorem number_spec {A : AS} {n : Nat} (hw : WF A) (hn : n ≤ 1099511627776) :
    ∃ w A', EvF Try.prog HH 112 [.int .i64 n] A w A' ∧ Own A.blk.length A' w (digits n).length 1 (bc (digits n)) ∧ Fr S0 A A' := by
  refine run_fn2 rfl Try.func112 (by unfold Try.f112; rfl) Try.ntmps112 (by unfold Try.f112; rfl) (by simp) ?_
  simp only [RT, Nat.reduceLT, Nat.reduceBEq, Nat.reduceEqDiff, Nat.reduceAdd, Int.reduceEq, Int.reduceLT, Int.reduceLE, Int.reduceGT, Int.reduceGE]
  refine run_loop (fun k e B => Fr S0 A B ∧ ∃ (j : Nat) (s : Bts) (ov : V), k = j ∧ j ≤ n ∧ e.get 0 = .int .i64 j ∧ e.get 3 = ov ∧ digits j ++ s = digits n ∧ Own A.blk.length B ov s.length 1 (bc s))
    ⟨_, .refl _ A, n, [], .snil, rfl, by omega, rfl, rfl, by simp, .nil _ _ _⟩ ?_
  rintro k e B ⟨hf, j, s, ov, rfl, hj, h0, h3, hs, hown⟩
  have hsl : s.length ≤ 6 := by
    have h1 := digits_len n 6 (by omega)
    rw [← hs, List.length_append] at h1; omega
  simp only [RT, Nat.reduceLT, Nat.reduceBEq, Nat.reduceEqDiff, Nat.reduceAdd, Int.reduceEq, Int.reduceLT, Int.reduceLE, Int.reduceGT, Int.reduceGE, h0]
  refine condK_of (fun g => ?_) (fun g => ?_)
  · have hne : k ≠ 0 := by omega
    simp only [RT, Nat.reduceLT, Nat.reduceBEq, Nat.reduceEqDiff, Nat.reduceAdd, Int.reduceEq, Int.reduceLT, Int.reduceLE, Int.reduceGT, Int.reduceGE, h0, h3, cnv8, u8wrap, bsl1]
    have o1 := Own.new (n := 1) (sz := 1) (cs := [.int .u8 ((UInt8.ofNat k).toNat : Int)]) (hf.wf hw) hf.len rfl rfl
    have q1 := Fr.pushArr B [.int .u8 ((UInt8.ofNat k).toNat : Int)]
    generalize B.push ⟨[.int .u8 ((UInt8.ofNat k).toNat : Int)], .arr B.blk.length 0⟩ = B1 at *
    obtain ⟨v', B2, p1, p2, p3⟩ := o1.app sl44 (q1.wf (hf.wf hw)) (by have := hf.len; have := q1.len; omega) ((hown.fr0 q1).src Try.underlying44) (by rw [bc_len, Nat.mul_one]) (bc_one s) (by omega) (by omega)
    have hsh : evShift .shr .i64 (k : Int) 8 = some (.int .i64 ((k / 256 : Nat) : Int)) := shr_nat k 8 (by decide)
    simp only [RT, Nat.reduceLT, Nat.reduceBEq, Nat.reduceEqDiff, Nat.reduceAdd, Int.reduceEq, Int.reduceLT, Int.reduceLE, Int.reduceGT, Int.reduceGE, p1, h0, hsh]
    refine ⟨k / 256, by omega, (hf.then0 q1).fams p3, k / 256, UInt8.ofNat k :: s, v', rfl, by omega, rfl, rfl, ?_, p2.cast (by simp; omega) rfl⟩
    rw [← hs, digits_pos hne, List.append_assoc]; rfl
  · have : k = 0 := by omega
    subst this
    simp only [RT, Nat.reduceLT, Nat.reduceBEq, Nat.reduceEqDiff, Nat.reduceAdd, Int.reduceEq, Int.reduceLT, Int.reduceLE, Int.reduceGT, Int.reduceGE, h3]
    rw [digits_zero, List.nil_append] at hs
    subst hs
    exact ⟨hown, hf⟩
set_option maxRecDepth 10000 in
set_option maxHeartbeats 8000000 in
theorem run_spec {m : Hp} {A : AS} {v : V} {b : Bts} (hw : WF A) (hm : m.on A) (h : Slc eU8 m v b) (hb : b.length ≤ 1000000000000) :
    ∃ w A', EvF Try.prog HH 94 [v] A w A' ∧ Own A.blk.length A' w (runB b).length 1 (bc (runB b)) ∧ Fr S0 A A' := by
  refine run_fn2 rfl Try.func94 (by unfold Try.f94; rfl) Try.ntmps94 (by unfold Try.f94; rfl) (by simp) ?_
  have hlen := fun B => h.len (P := Try.prog) Try.underlying44 B
  have h16 : evShift .shr .i64 (b.length : Int) 16 = some (.int .i64 ((b.length / 65536 : Nat) : Int)) := shr_nat b.length 16 (by decide)
  have h8 : evShift .shr .i64 (b.length : Int) 8 = some (.int .i64 ((b.length / 256 : Nat) : Int)) := shr_nat b.length 8 (by decide)
  simp only [RT, Nat.reduceLT, Nat.reduceBEq, Nat.reduceEqDiff, Nat.reduceAdd, Int.reduceEq, Int.reduceLT, Int.reduceLE, Int.reduceGT, Int.reduceGE, hlen, h16, h8, cnv8, u8wrap, bsl3]
  have o1 := Own.new (N := A.blk.length) (n := 3) (sz := 1) (cs := [.int .u8 ((UInt8.ofNat (b.length / 65536)).toNat : Int), .int .u8 ((UInt8.ofNat (b.length / 256)).toNat : Int), .int .u8 ((UInt8.ofNat b.length).toNat : Int)]) hw (Nat.le_refl _) rfl rfl
  have q1 := Fr.pushArr A [.int .u8 ((UInt8.ofNat (b.length / 65536)).toNat : Int), .int .u8 ((UInt8.ofNat (b.length / 256)).toNat : Int), .int .u8 ((UInt8.ofNat b.length).toNat : Int)]
  generalize A.push ⟨[.int .u8 ((UInt8.ofNat (b.length / 65536)).toNat : Int), .int .u8 ((UInt8.ofNat (b.length / 256)).toNat : Int), .int .u8 ((UInt8.ofNat b.length).toNat : Int)], .arr A.blk.length 0⟩ = B1 at *
  obtain ⟨v', B2, p1, p2, p3⟩ := o1.app sl44 (q1.wf hw) q1.len (src_bytes Try.underlying44 h (hm.fr0 q1)) (by simp) (bc_one b) (by omega) (by omega)
  simp only [RT, Nat.reduceLT, Nat.reduceBEq, Nat.reduceEqDiff, Nat.reduceAdd, Int.reduceEq, Int.reduceLT, Int.reduceLE, Int.reduceGT, Int.reduceGE, p1]
  exact ⟨p2.cast (by rw [runB_len]; omega) rfl, q1.fams p3⟩
end Go.Sv.Try
namespace Go.Sv.Try
open Go Go.Proofs
set_option linter.unusedVariables false
set_option linter.unusedSimpArgs false
def argF (B : AS) (args : List V) (f : Nat × Bts) : Prop := ∃ (dv : V) (m : Hp), args = [.agg [.int .u8 (UInt8.ofNat f.1).toNat, dv]] ∧ m.on B ∧ Slc eU8 m dv f.2 ∧ f.2.length ≤ 1000000
theorem bldF_nil (a : Int) : evBuild Try.prog 172 [(0, .int .u8 a), (1, .snil)] = some (.agg [.int .u8 a, .snil]) := by kernel_rfl
theorem bldF_sl (a : Int) (b o n z : Nat) : evBuild Try.prog 172 [(0, .int .u8 a), (1, .sl b o n z)] = some (.agg [.int .u8 a, .sl b o n z]) := by kernel_rfl
theorem bldF (a : Int) {v : V} (h : v = .snil ∨ ∃ b o n z, v = .sl b o n z) : evBuild Try.prog 172 [(0, .int .u8 a), (1, v)] = some (.agg [.int .u8 a, v]) := by
  rcases h with rfl | ⟨b, o, n, z, rfl⟩
  · exact bldF_nil a
  · exact bldF_sl a b o n z
theorem bldZ : evBuild Try.prog 32 [] = some (.agg (bc zero32)) := by kernel_rfl
theorem eqI {l r : Bts} (hl : l.length = 32) (hr : r.length = 32) : evEq Try.prog 32 (.agg (bc l)) (.agg (bc r)) = some (decide (l = r)) :=
  eq_bytes (n := 32) (by kernel_rfl) ag32 (by kernel_rfl) hl hr
theorem zcI : (zeroT Try.prog 32).bind V.cells = some (bc zero32) := by kernel_rfl
theorem P9_size {x : M} (h : OkM x) (hid : x.id.length = 32) (hids : ∀ b ∈ x.ids, b.length = 32) : ∀ b ∈ P9 x, b.length ≤ 200000 := by
  have hs := h.size
  have hd : ∀ n ∈ x.nums, (digits n.toNat).length ≤ 6 := fun n hn => digits_len _ 6 (by have := h.nums n hn; omega)
  simp only [M.nums, List.mem_cons, List.mem_nil_iff, or_false, forall_eq_or_imp, forall_eq] at hd
  obtain ⟨d1, d2, d3, d4, d5⟩ := hd
  have hf := flatten_lenP x.ids hids
  have hl := flatMap_runB_len x.list
  have h1 := h.ids; have h2 := h.list
  intro b hb
  simp only [P9, List.mem_cons, List.mem_nil_iff, or_false] at hb
  rcases hb with rfl | rfl | rfl | rfl | rfl | rfl | rfl | rfl | rfl
  · omega
  · omega
  · omega
  · omega
  · omega
  · split
    · simp
    · omega
  · omega
  · omega
  · omega
theorem eId_len {m : Hp} {v : V} {l : List Bts} (h : Slc eId m v l) : ∀ b ∈ l, b.length = 32 := by
  intro b hb
  obtain ⟨i, hi⟩ := List.mem_iff_getElem?.1 hb
  obtain ⟨cs, h1, h2⟩ := h.get hi
  exact h2
def RJ (S : Loc → Prop) (A : AS) (lo bx : Nat) (J D : Nat → AS → Prop) (x : M) (j : Nat) (z : Ex) (e : Env) (B : AS) : Prop :=
  Fr S A B ∧ ((z = .normal ∧ e.get 0 = .yield lo ∧ e.get 1 = .ptr bx 0 ∧ J (optAll 1 ((P9 x).take j)).length B) ∨ (z = .ret ∧ ∃ i, i < (fieldList x).length ∧ D i B))
theorem RJ.ok {S : Loc → Prop} {A : AS} {lo bx : Nat} {J D : Nat → AS → Prop} {x : M} {j : Nat} {e : Env} {B : AS} (h1 : Fr S A B) (h2 : e.get 0 = .yield lo) (h3 : e.get 1 = .ptr bx 0) (h4 : J (optAll 1 ((P9 x).take j)).length B) : RJ S A lo bx J D x j .normal e B := ⟨h1, .inl ⟨rfl, h2, h3, h4⟩⟩
theorem RJ.stop {S : Loc → Prop} {A : AS} {lo bx : Nat} {J D : Nat → AS → Prop} {x : M} {j : Nat} {e : Env} {B : AS} (h1 : Fr S A B) (h2 : ∃ i, i < (fieldList x).length ∧ D i B) : RJ S A lo bx J D x j .ret e B := ⟨h1, .inr ⟨rfl, h2⟩⟩
set_option maxRecDepth 10000 in
set_option maxHeartbeats 16000000 in
theorem fields1_goes {m : Hp} {A : AS} {x : M} {dv iv lv : V} {bx : Nat} {S : Loc → Prop} (hw : WF A) (hm : m.on A) (hS : ∀ b, S (.row b) → m b = none ∧ b ≠ bx) (hb : A.blk[bx]? = some ⟨mc x dv iv lv, .var⟩) (h : MsgIn m x dv iv lv) (hok : OkM x) :
    Goes Try.prog HH 111 [] [.ptr bx 0] A S argF (fieldList x) := by
  intro lo J D hJ hD hstep hJ0
  refine run_fn2 rfl Try.func111 (by unfold Try.f111; rfl) Try.ntmps111 (by unfold Try.f111; rfl) (by simp) ?_
  have hids := eId_len h.ids
  have hsz := P9_size hok h.id hids
  have hnum := hok.nums
  have fa := faM bx
  have hrow : ∀ {B}, Fr S A B → B.blk[bx]? = some ⟨mc x dv iv lv, .var⟩ := fun q => q.row _ _ hb fun w => (hS _ w).2 rfl
  have hmB : ∀ {B}, Fr S A B → m.on B := fun q => hm.fr q fun b w => (hS b w).1
  have ld : ∀ {B}, Fr S A B → _ := fun {B} (q : Fr S A B) => ldM (hrow q) h.id
  have yieldAt : ∀ {j : Nat} {b : Bts} {dv : V} {B : AS} {m' : Hp}, (P9 x)[j]? = some b → b ≠ [] → J (optAll 1 ((P9 x).take j)).length B → Fr S A B → m'.on B → Slc eU8 m' dv b →
      ∃ bb B', EvY Try.prog HH lo [.agg [.int .u8 (UInt8.ofNat (1 + j)).toNat, dv]] B (.bool bb) B' ∧ Fr S A B' ∧ (bb = true → J (optAll 1 ((P9 x).take (j + 1))).length B') ∧ (bb = false → ∃ i, i < (fieldList x).length ∧ D i B') := by
    intro j b dv B m' h1 h2 h3 h4 h5 h6
    have hat := opt_at h1 h2 1
    obtain ⟨bb, B', k1, k2, k3, k4⟩ := hstep _ _ B _ hat h3 h4 ⟨dv, m', rfl, h5, h6, by have := hsz b (List.mem_of_getElem? h1); show b.length ≤ _; omega⟩
    refine ⟨bb, B', k1, h4.thn k2, fun q => ?_, fun q => ⟨_, (List.getElem?_eq_some_iff.1 hat).1, k4 q⟩⟩
    rw [opt_succ h1, opt1, if_neg h2, List.length_append]
    exact k3 q
  have skipAt : ∀ {j : Nat} {b : Bts} {B : AS}, (P9 x)[j]? = some b → b = [] → J (optAll 1 ((P9 x).take j)).length B → J (optAll 1 ((P9 x).take (j + 1))).length B := by
    intro j b B h1 h2 h3
    rw [opt_succ h1, opt1, if_pos h2, List.append_nil]; exact h3
  have num9 : ∀ {j : Nat} {n : Int}, x.nums[j]? = some n → (P9 x)[j]? = some (digits n.toNat) := by
    intro j n hn
    match j, hn with
    | 0, hn => cases hn; rfl
    | 1, hn => cases hn; rfl
    | 2, hn => cases hn; rfl
    | 3, hn => cases hn; rfl
    | 4, hn => cases hn; rfl
  have stop : ∀ {B : AS} {e : Env}, Fr S A B → (∃ i, i < (fieldList x).length ∧ D i B) → Fr S A B ∧ (J (fieldList x).length B ∨ ∃ i, i < (fieldList x).length ∧ D i B) := fun q z => ⟨q, .inr z⟩
  simp only [RT, Nat.reduceLT, Nat.reduceBEq, Nat.reduceEqDiff, Nat.reduceAdd, Int.reduceEq, Int.reduceLT, Int.reduceLE, Int.reduceGT, Int.reduceGE, ld (.refl S A), fa, bld5]
  refine run_loop_j (fun n e B => Fr S A B ∧ e.get 0 = .yield lo ∧ e.get 1 = .ptr bx 0 ∧ ∃ i : Nat, n = 5 - i ∧ i ≤ 5 ∧ e.get 22 = .int .i64 i ∧ e.get 21 = .agg (x.nums.map (.int .i64 ·)) ∧ J (optAll 1 ((P9 x).take i)).length B)
    (fun z e B => Fr S A B ∧ ((Is z (.exit 0) ∧ e.get 0 = .yield lo ∧ e.get 1 = .ptr bx 0 ∧ J (optAll 1 ((P9 x).take 5)).length B) ∨ (Is z .ret ∧ ∃ i, i < (fieldList x).length ∧ D i B)))
    ⟨_, .refl S A, rfl, rfl, 0, rfl, by simp, rfl, rfl, by simpa [optAll] using hJ0⟩ ?_ ?_
  · rintro n e B ⟨hf, h0, h1, i, rfl, hi, h22, h21, hj⟩
    simp only [RT, Nat.reduceLT, Nat.reduceBEq, Nat.reduceEqDiff, Nat.reduceAdd, Int.reduceEq, Int.reduceLT, Int.reduceLE, Int.reduceGT, Int.reduceGE, h22]
    refine condK_of (fun g1 => ?_) (fun g1 => ?_)
    · obtain ⟨n, hn⟩ := get_lt (l := x.nums) (i := i) (by simp only [M.nums, List.length_cons, List.length_nil]; omega)
      have hat := arr_at (P := Try.prog) (t := 203) (k := .i64) (cs := x.nums.map (.int .i64 ·)) (i := i) Try.underlying203 sz3 ag3 (by omega)
      rw [List.getElem?_map, hn, Option.map_some] at hat
      have hnr := hnum n (List.mem_of_getElem? hn)
      obtain ⟨n, rfl⟩ := Int.eq_ofNat_of_zero_le hnr.1
      have h9 := num9 hn
      rw [Int.toNat_natCast] at h9
      simp only [RT, Nat.reduceLT, Nat.reduceBEq, Nat.reduceEqDiff, Nat.reduceAdd, Int.reduceEq, Int.reduceLT, Int.reduceLE, Int.reduceGT, Int.reduceGE, h22, h21, hat]
      refine contG_of (fun g2 => ?_) (fun g2 => ?_)
      · simp only [RT, Nat.reduceLT, Nat.reduceBEq, Nat.reduceEqDiff, Nat.reduceAdd, Int.reduceEq, Int.reduceLT, Int.reduceLE, Int.reduceGT, Int.reduceGE, g2, h0]
        have hp : IntKind.i64.wrap (1 + (i : Int)) = ((1 + i : Nat) : Int) := by rw [wrap_id (by omega) (by omega)]; omega
        rw [hp]
        simp only [RT, Nat.reduceLT, Nat.reduceBEq, Nat.reduceEqDiff, Nat.reduceAdd, Int.reduceEq, Int.reduceLT, Int.reduceLE, Int.reduceGT, Int.reduceGE, g2, cnv8, u8wrap]
        obtain ⟨w, B1, k1, k2, k3⟩ := number_spec (A := B) (n := n) (hf.wf hw) (by omega)
        refine run_call1 k1 ?_
        obtain ⟨m', q1, q2, q3⟩ := k2.bts
        simp only [RT, Nat.reduceLT, Nat.reduceBEq, Nat.reduceEqDiff, Nat.reduceAdd, Int.reduceEq, Int.reduceLT, Int.reduceLE, Int.reduceGT, Int.reduceGE, g2, bldF _ k2.form, h0]
        obtain ⟨bb, B2, y1, y2, y3, y4⟩ := yieldAt h9 (fun q => by rw [digits_nil] at q; omega) (hJ _ _ _ hj k3) (hf.then0 k3) q1 q3
        refine ⟨_, B2, y1, ?_⟩
        simp only [RT, Nat.reduceLT, Nat.reduceBEq, Nat.reduceEqDiff, Nat.reduceAdd, Int.reduceEq, Int.reduceLT, Int.reduceLE, Int.reduceGT, Int.reduceGE, g2]
        cases bb with
        | true =>
          simp only [RT, Nat.reduceLT, Nat.reduceBEq, Nat.reduceEqDiff, Nat.reduceAdd, Int.reduceEq, Int.reduceLT, Int.reduceLE, Int.reduceGT, Int.reduceGE, g2, h22]
          exact ⟨5 - (i + 1), by omega, y2, h0, h1, i + 1, rfl, by omega, by rw [wrapS (by omega)], h21, y3 rfl⟩
        | false =>
          simp only [RT, Nat.reduceLT, Nat.reduceBEq, Nat.reduceEqDiff, Nat.reduceAdd, Int.reduceEq, Int.reduceLT, Int.reduceLE, Int.reduceGT, Int.reduceGE, g2]
          exact ⟨y2, .inr ⟨rfl, y4 rfl⟩⟩
      · have hz : n = 0 := by omega
        subst hz
        simp only [RT, Nat.reduceLT, Nat.reduceBEq, Nat.reduceEqDiff, Nat.reduceAdd, Int.reduceEq, Int.reduceLT, Int.reduceLE, Int.reduceGT, Int.reduceGE, g2, h22]
        exact ⟨5 - (i + 1), by omega, hf, h0, h1, i + 1, rfl, by omega, by rw [wrapS (by omega)], h21, skipAt h9 digits_zero hj⟩
    · have : i = 5 := by omega
      subst this
      simp only [RT, Nat.reduceLT, Nat.reduceBEq, Nat.reduceEqDiff, Nat.reduceAdd, Int.reduceEq, Int.reduceLT, Int.reduceLE, Int.reduceGT, Int.reduceGE]
      exact ⟨hf, .inl ⟨rfl, h0, h1, hj⟩⟩
  rintro z e B hz ⟨hf, ⟨rfl, h0, h1, hj⟩ | ⟨rfl, hd⟩⟩
  rotate_left
  · simp only [RT, Nat.reduceLT, Nat.reduceBEq, Nat.reduceEqDiff, Nat.reduceAdd, Int.reduceEq, Int.reduceLT, Int.reduceLE, Int.reduceGT, Int.reduceGE]
    exact ⟨hf, .inr hd⟩
  rw [run_blk_exit, if_pos rfl]
  rw [run_seq]
  refine run_cut (RJ S A lo bx J D x 6) ?_ ?_
  · have hz32 : zero32.length = 32 := rfl
    simp only [RT, Nat.reduceLT, Nat.reduceBEq, Nat.reduceEqDiff, Nat.reduceAdd, Int.reduceEq, Int.reduceLT, Int.reduceLE, Int.reduceGT, Int.reduceGE, h1, fa, ld hf, bldZ, eqI h.id hz32]
    by_cases hi : x.id = zero32
    · simp only [RT, Nat.reduceLT, Nat.reduceBEq, Nat.reduceEqDiff, Nat.reduceAdd, Int.reduceEq, Int.reduceLT, Int.reduceLE, Int.reduceGT, Int.reduceGE, hi, h0]
      exact RJ.ok hf h0 h1 (skipAt (j := 5) (b := []) (by simp [P9, hi]) rfl hj)
    · have h9 : (P9 x)[5]? = some x.id := by simp [P9, hi]
      have hsl := arr_slice (P := Try.prog) (t := 32) (b := bx) (o := 6) (z := 0) Try.underlying32 sz5 (hrow hf) (by rw [mc_len h.id]; decide)
      obtain ⟨q1, q2⟩ := slc_row (b := bx) (o := 6) (l := x.id) (hrow hf) (by rw [mc_len h.id, h.id]; decide) (by
        rw [h.id]
        show (bc x.id ++ [dv, iv, lv]).take 32 = _
        rw [List.take_left' (by rw [bc_len, h.id])])
      rw [h.id] at q2
      simp only [RT, Nat.reduceLT, Nat.reduceBEq, Nat.reduceEqDiff, Nat.reduceAdd, Int.reduceEq, Int.reduceLT, Int.reduceLE, Int.reduceGT, Int.reduceGE, hi, h0, h1, fa, hsl, bldF_sl]
      obtain ⟨bb, B2, y1, y2, y3, y4⟩ := yieldAt h9 (fun q => by have := h.id; rw [q] at this; simp at this) hj hf q1 q2
      refine ⟨_, B2, y1, ?_⟩
      simp only [RT, Nat.reduceLT, Nat.reduceBEq, Nat.reduceEqDiff, Nat.reduceAdd, Int.reduceEq, Int.reduceLT, Int.reduceLE, Int.reduceGT, Int.reduceGE, hi]
      cases bb with
      | true =>
        simp only [RT, Nat.reduceLT, Nat.reduceBEq, Nat.reduceEqDiff, Nat.reduceAdd, Int.reduceEq, Int.reduceLT, Int.reduceLE, Int.reduceGT, Int.reduceGE, hi]
        exact RJ.ok y2 h0 h1 (y3 rfl)
      | false =>
        simp only [RT, Nat.reduceLT, Nat.reduceBEq, Nat.reduceEqDiff, Nat.reduceAdd, Int.reduceEq, Int.reduceLT, Int.reduceLE, Int.reduceGT, Int.reduceGE, hi]
        exact RJ.stop y2 (y4 rfl)
  rintro z e B ⟨hf, ⟨rfl, h0, h1, hj⟩ | ⟨rfl, hd⟩⟩
  rotate_left
  · simp only [RT, Nat.reduceLT, Nat.reduceBEq, Nat.reduceEqDiff, Nat.reduceAdd, Int.reduceEq, Int.reduceLT, Int.reduceLE, Int.reduceGT, Int.reduceGE]
    exact ⟨hf, .inr hd⟩
  rw [run_seq]
  refine run_cut (RJ S A lo bx J D x 7) ?_ ?_
  · have dlen := fun B => h.data.len (P := Try.prog) Try.underlying44 B
    simp only [RT, Nat.reduceLT, Nat.reduceBEq, Nat.reduceEqDiff, Nat.reduceAdd, Int.reduceEq, Int.reduceLT, Int.reduceLE, Int.reduceGT, Int.reduceGE, h1, fa, ld hf, dlen]
    have h9 : (P9 x)[6]? = some x.data := rfl
    refine contG_of (fun g => ?_) (fun g => ?_)
    · simp only [RT, Nat.reduceLT, Nat.reduceBEq, Nat.reduceEqDiff, Nat.reduceAdd, Int.reduceEq, Int.reduceLT, Int.reduceLE, Int.reduceGT, Int.reduceGE, g, h0, h1, fa, ld hf, bldF _ h.data.form]
      obtain ⟨bb, B2, y1, y2, y3, y4⟩ := yieldAt h9 (fun q => by rw [q] at g; simp at g) hj hf (hmB hf) h.data
      refine ⟨_, B2, y1, ?_⟩
      simp only [RT, Nat.reduceLT, Nat.reduceBEq, Nat.reduceEqDiff, Nat.reduceAdd, Int.reduceEq, Int.reduceLT, Int.reduceLE, Int.reduceGT, Int.reduceGE, g]
      cases bb with
      | true =>
        simp only [RT, Nat.reduceLT, Nat.reduceBEq, Nat.reduceEqDiff, Nat.reduceAdd, Int.reduceEq, Int.reduceLT, Int.reduceLE, Int.reduceGT, Int.reduceGE, g]
        exact RJ.ok y2 h0 h1 (y3 rfl)
      | false =>
        simp only [RT, Nat.reduceLT, Nat.reduceBEq, Nat.reduceEqDiff, Nat.reduceAdd, Int.reduceEq, Int.reduceLT, Int.reduceLE, Int.reduceGT, Int.reduceGE, g]
        exact RJ.stop y2 (y4 rfl)
    · simp only [RT, Nat.reduceLT, Nat.reduceBEq, Nat.reduceEqDiff, Nat.reduceAdd, Int.reduceEq, Int.reduceLT, Int.reduceLE, Int.reduceGT, Int.reduceGE, g, h0]
      exact RJ.ok hf h0 h1 (skipAt h9 (List.eq_nil_of_length_eq_zero (by omega)) hj)
  clear h0 h1 hj hf
  rintro z e B ⟨hf, ⟨rfl, h0, h1, hj⟩ | ⟨rfl, hd⟩⟩
  rotate_left
  · simp only [RT, Nat.reduceLT, Nat.reduceBEq, Nat.reduceEqDiff, Nat.reduceAdd, Int.reduceEq, Int.reduceLT, Int.reduceLE, Int.reduceGT, Int.reduceGE]
    exact ⟨hf, .inr hd⟩
  have ilen := fun B => h.ids.len (P := Try.prog) Try.underlying36 B
  have llen := fun B => h.list.len (P := Try.prog) Try.underlying22 B
  have hflat : ∀ i, (x.ids.take i).flatten.length ≤ 2048 := fun i => by
    rw [flatten_lenP _ (fun b hb => hids b (List.mem_of_mem_take hb)), List.length_take]
    have := hok.ids; omega
  simp only [RT, Nat.reduceLT, Nat.reduceBEq, Nat.reduceEqDiff, Nat.reduceAdd, Int.reduceEq, Int.reduceLT, Int.reduceLE, Int.reduceGT, Int.reduceGE, h1, fa, ld hf, ilen]
  refine run_loop_j (fun n e C => Fr S0 B C ∧ e.get 0 = .yield lo ∧ e.get 1 = .ptr bx 0 ∧ e.get 6 = .snil ∧ ∃ (i : Nat) (ov : V), n = x.ids.length - i ∧ i ≤ x.ids.length ∧ e.get 67 = .int .i64 i ∧ e.get 65 = iv ∧ e.get 66 = .int .i64 x.ids.length ∧ e.get 5 = ov ∧ Own B.blk.length C ov (x.ids.take i).flatten.length 1 (bc (x.ids.take i).flatten))
    (fun z e C => Fr S0 B C ∧ Is z (.exit 2) ∧ e.get 0 = .yield lo ∧ e.get 1 = .ptr bx 0 ∧ e.get 6 = .snil ∧ ∃ ov, e.get 5 = ov ∧ Own B.blk.length C ov x.ids.flatten.length 1 (bc x.ids.flatten))
    ⟨_, .refl _ B, h0, h1, rfl, 0, .snil, rfl, by simp, rfl, rfl, rfl, rfl, by simpa [bc] using Own.nil B.blk.length B 1⟩ ?_ ?_
  · rintro n e C ⟨hc, k0, k1, k6, i, ov, rfl, hi, h67, h65, h66, h5, hown⟩
    simp only [RT, Nat.reduceLT, Nat.reduceBEq, Nat.reduceEqDiff, Nat.reduceAdd, Int.reduceEq, Int.reduceLT, Int.reduceLE, Int.reduceGT, Int.reduceGE, h67, h66]
    refine condK_of (fun g => ?_) (fun g => ?_)
    · obtain ⟨y, hy⟩ := get_lt (l := x.ids) (i := i) (by omega)
      have hC : Fr S A C := hf.then0 hc
      obtain ⟨b, o, c, q1, q2, q3⟩ := h.ids.at (P := Try.prog) (k := .i64) (hmB hC) Try.underlying36 sz32 ag32 hy
      obtain ⟨rfl, hyl⟩ := eB_W.1 q3
      simp only [RT, Nat.reduceLT, Nat.reduceBEq, Nat.reduceEqDiff, Nat.reduceAdd, Int.reduceEq, Int.reduceLT, Int.reduceLE, Int.reduceGT, Int.reduceGE, h67, h65, q1, q2, zcI]
      obtain ⟨C1, s1, s2, s3, s4⟩ := new_set (P := Try.prog) C (z := bc zero32) (t := 32) (x := .agg (bc y)) (cs := bc y) rfl (by rw [bc_len, hyl]; exact sz32) (by rw [bc_len, bc_len, hyl]; rfl) (bc_one y)
      have hsl := arr_slice (P := Try.prog) (t := 32) (b := C.blk.length) (o := 0) (z := 0) Try.underlying32 sz5 s3 (by simp only [bc_len, hyl]; decide)
      have hfi := hflat i
      obtain ⟨v', C2, p1, p2, p3⟩ := (hown.fr0 s2).app sl44 (s2.wf (hC.wf hw)) (by have := hc.len; have := s2.len; omega) (src_row (P := Try.prog) (tx := 44) (n := 32) (sz := 1) Try.underlying44 s3 (by rw [bc_len, hyl])) (by rw [bc_len, hyl]) (bc_one y) (by omega) (by omega)
      simp only [RT, Nat.reduceLT, Nat.reduceBEq, Nat.reduceEqDiff, Nat.reduceAdd, Int.reduceEq, Int.reduceLT, Int.reduceLE, Int.reduceGT, Int.reduceGE, s1, h5, hsl, p1, h67]
      refine ⟨x.ids.length - (i + 1), by omega, (hc.then0 s2).fams p3, k0, k1, k6, i + 1, v', rfl, by omega, by rw [wrapS (by have := hok.ids; omega)], h65, h66, rfl, p2.cast ?_ ?_⟩
      · rw [flat_succ hy, List.length_append, hyl]
      · rw [flat_succ hy, bc_app]
    · simp only [RT, Nat.reduceLT, Nat.reduceBEq, Nat.reduceEqDiff, Nat.reduceAdd, Int.reduceEq, Int.reduceLT, Int.reduceLE, Int.reduceGT, Int.reduceGE]
      rw [List.take_of_length_le (by omega)] at hown
      exact ⟨hc, rfl, k0, k1, k6, ov, h5, hown⟩
  rintro z e C hz ⟨hc, rfl, k0, k1, k6, ov, h5, hown⟩
  have hC : Fr S A C := hf.then0 hc
  replace hj := hJ _ _ _ hj hc
  clear h0 h1
  rw [run_blk_exit, if_pos rfl, run_seq]
  refine run_cut (fun z e B => RJ S A lo bx J D x 8 z e B ∧ (z = .normal → e.get 6 = .snil)) ?_ ?_
  · have olen := fun B => hown.len (P := Try.prog) Try.underlying44 B
    have h9 : (P9 x)[7]? = some x.ids.flatten := rfl
    simp only [RT, Nat.reduceLT, Nat.reduceBEq, Nat.reduceEqDiff, Nat.reduceAdd, Int.reduceEq, Int.reduceLT, Int.reduceLE, Int.reduceGT, Int.reduceGE, h5, olen]
    refine contG_of (fun g => ?_) (fun g => ?_)
    · simp only [RT, Nat.reduceLT, Nat.reduceBEq, Nat.reduceEqDiff, Nat.reduceAdd, Int.reduceEq, Int.reduceLT, Int.reduceLE, Int.reduceGT, Int.reduceGE, g, k0, h5, bldF _ hown.form]
      obtain ⟨m', q1, q2, q3⟩ := hown.bts
      obtain ⟨bb, B2, y1, y2, y3, y4⟩ := yieldAt h9 (fun q => by rw [q] at g; simp at g) hj hC q1 q3
      refine ⟨_, B2, y1, ?_⟩
      simp only [RT, Nat.reduceLT, Nat.reduceBEq, Nat.reduceEqDiff, Nat.reduceAdd, Int.reduceEq, Int.reduceLT, Int.reduceLE, Int.reduceGT, Int.reduceGE, g]
      cases bb with
      | true =>
        simp only [RT, Nat.reduceLT, Nat.reduceBEq, Nat.reduceEqDiff, Nat.reduceAdd, Int.reduceEq, Int.reduceLT, Int.reduceLE, Int.reduceGT, Int.reduceGE, g]
        exact ⟨RJ.ok y2 k0 k1 (y3 rfl), fun _ => k6⟩
      | false =>
        simp only [RT, Nat.reduceLT, Nat.reduceBEq, Nat.reduceEqDiff, Nat.reduceAdd, Int.reduceEq, Int.reduceLT, Int.reduceLE, Int.reduceGT, Int.reduceGE, g]
        exact ⟨RJ.stop y2 (y4 rfl), fun q => by simp at q⟩
    · simp only [RT, Nat.reduceLT, Nat.reduceBEq, Nat.reduceEqDiff, Nat.reduceAdd, Int.reduceEq, Int.reduceLT, Int.reduceLE, Int.reduceGT, Int.reduceGE, g]
      exact ⟨RJ.ok hC k0 k1 (skipAt h9 (List.eq_nil_of_length_eq_zero (by omega)) hj), fun _ => k6⟩
  clear hown h5 hj k6 k0 k1 hC hc hf
  rintro z e B ⟨⟨hf, ⟨rfl, h0, h1, hj⟩ | ⟨rfl, hd⟩⟩, h6⟩
  rotate_left
  · simp only [RT, Nat.reduceLT, Nat.reduceBEq, Nat.reduceEqDiff, Nat.reduceAdd, Int.reduceEq, Int.reduceLT, Int.reduceLE, Int.reduceGT, Int.reduceGE]
    exact ⟨hf, .inr hd⟩
  replace h6 := h6 rfl
  have hfl : ∀ i, ((x.list.take i).flatMap runB).length ≤ 131264 := fun i => by
    rw [flatMap_runB_len, List.length_take]
    have := hok.size; have := hok.list; have := lens_take_le x.list i; omega
  simp only [RT, Nat.reduceLT, Nat.reduceBEq, Nat.reduceEqDiff, Nat.reduceAdd, Int.reduceEq, Int.reduceLT, Int.reduceLE, Int.reduceGT, Int.reduceGE, h1, fa, ld hf, llen]
  refine run_loop_j (fun n e C => Fr S0 B C ∧ e.get 0 = .yield lo ∧ ∃ (i : Nat) (ov : V), n = x.list.length - i ∧ i ≤ x.list.length ∧ e.get 88 = .int .i64 i ∧ e.get 86 = lv ∧ e.get 87 = .int .i64 x.list.length ∧ e.get 6 = ov ∧ Own B.blk.length C ov ((x.list.take i).flatMap runB).length 1 (bc ((x.list.take i).flatMap runB)))
    (fun z e C => Fr S0 B C ∧ Is z (.exit 4) ∧ e.get 0 = .yield lo ∧ ∃ ov, e.get 6 = ov ∧ Own B.blk.length C ov (x.list.flatMap runB).length 1 (bc (x.list.flatMap runB)))
    ⟨_, .refl _ B, h0, 0, .snil, rfl, by simp, rfl, rfl, rfl, h6, by simpa [bc] using Own.nil B.blk.length B 1⟩ ?_ ?_
  · rintro n e C ⟨hc, k0, i, ov, rfl, hi, h88, h86, h87, h6, hown⟩
    simp only [RT, Nat.reduceLT, Nat.reduceBEq, Nat.reduceEqDiff, Nat.reduceAdd, Int.reduceEq, Int.reduceLT, Int.reduceLE, Int.reduceGT, Int.reduceGE, h88, h87]
    refine condK_of (fun g => ?_) (fun g => ?_)
    · obtain ⟨y, hy⟩ := get_lt (l := x.list) (i := i) (by omega)
      have hC : Fr S A C := hf.then0 hc
      obtain ⟨b, o, c, q1, q2, q3⟩ := h.list.at (P := Try.prog) (k := .i64) (hmB hC) Try.underlying22 sz44 ag44 hy
      rw [eSl_W] at q3
      have hs := lens_succ hy
      have := lens_take_le x.list (i + 1)
      have := hok.size
      have hyl : y.length ≤ 131072 := by omega
      simp only [RT, Nat.reduceLT, Nat.reduceBEq, Nat.reduceEqDiff, Nat.reduceAdd, Int.reduceEq, Int.reduceLT, Int.reduceLE, Int.reduceGT, Int.reduceGE, h88, h86, q1, q2, h6]
      obtain ⟨w, C1, r1, r2, r3⟩ := run_spec (hC.wf hw) (hmB hC) q3 (by omega)
      refine run_call1 r1 ?_
      have hfi := hfl i
      have hrl := runB_len y
      obtain ⟨v', C2, p1, p2, p3⟩ := (hown.fr0 r3).app sl44 (r3.wf (hC.wf hw)) (by have := hc.len; have := r3.len; omega) (r2.src Try.underlying44) (by rw [bc_len, Nat.mul_one]) (bc_one _) (by omega) (by omega)
      simp only [RT, Nat.reduceLT, Nat.reduceBEq, Nat.reduceEqDiff, Nat.reduceAdd, Int.reduceEq, Int.reduceLT, Int.reduceLE, Int.reduceGT, Int.reduceGE, p1, h88]
      refine ⟨x.list.length - (i + 1), by omega, (hc.then0 r3).fams p3, k0, i + 1, v', rfl, by omega, by rw [wrapS (by have := hok.list; omega)], h86, h87, rfl, p2.cast ?_ ?_⟩
      · rw [flatMap_succ hy, List.length_append]
      · rw [flatMap_succ hy, bc_app]
    · simp only [RT, Nat.reduceLT, Nat.reduceBEq, Nat.reduceEqDiff, Nat.reduceAdd, Int.reduceEq, Int.reduceLT, Int.reduceLE, Int.reduceGT, Int.reduceGE]
      rw [List.take_of_length_le (by omega)] at hown
      exact ⟨hc, rfl, k0, ov, h6, hown⟩
  rintro z e C hz ⟨hc, rfl, k0, ov, h6, hown⟩
  have hC : Fr S A C := hf.then0 hc
  replace hj := hJ _ _ _ hj hc
  have h9 : (P9 x)[8]? = some (x.list.flatMap runB) := rfl
  have hfin : optAll 1 ((P9 x).take 9) = fieldList x := opt_all 9 (by simp [P9])
  have olen := fun B => hown.len (P := Try.prog) Try.underlying44 B
  simp only [RT, Nat.reduceLT, Nat.reduceBEq, Nat.reduceEqDiff, Nat.reduceAdd, Int.reduceEq, Int.reduceLT, Int.reduceLE, Int.reduceGT, Int.reduceGE, h6, olen]
  refine condK_of (fun g => ?_) (fun g => ?_)
  · simp only [RT, Nat.reduceLT, Nat.reduceBEq, Nat.reduceEqDiff, Nat.reduceAdd, Int.reduceEq, Int.reduceLT, Int.reduceLE, Int.reduceGT, Int.reduceGE, k0, h6, bldF _ hown.form]
    obtain ⟨m', q1, q2, q3⟩ := hown.bts
    obtain ⟨bb, B2, y1, y2, y3, y4⟩ := yieldAt h9 (fun q => by rw [q] at g; simp at g) hj hC q1 q3
    refine ⟨_, B2, y1, ?_⟩
    simp only [RT, Nat.reduceLT, Nat.reduceBEq, Nat.reduceEqDiff, Nat.reduceAdd, Int.reduceEq, Int.reduceLT, Int.reduceLE, Int.reduceGT, Int.reduceGE]
    rw [hfin] at y3
    cases bb with
    | true => exact ⟨y2, .inl (y3 rfl)⟩
    | false => exact ⟨y2, .inr (y4 rfl)⟩
  · simp only [RT, Nat.reduceLT, Nat.reduceBEq, Nat.reduceEqDiff, Nat.reduceAdd, Int.reduceEq, Int.reduceLT, Int.reduceLE, Int.reduceGT, Int.reduceGE]
    have := skipAt h9 (List.eq_nil_of_length_eq_zero (by omega)) hj
    rw [hfin] at this
    exact ⟨hC, .inl this⟩
end Go.Sv.Try
namespace Go.Sv.Try
open Go Go.Proofs
set_option linter.unusedVariables false
set_option linter.unusedSimpArgs false
structure Sized (x : M) : Prop where
  ids : x.ids.length ≤ 9223372036854775807
  data : x.data.length ≤ 9223372036854775807
  list : x.list.length ≤ 9223372036854775807
  each : ∀ b ∈ x.list, b.length ≤ 9223372036854775807
theorem faF0 (b : Nat) : evFieldAddr Try.prog 172 (.ptr b 0) 0 = some (.ptr b 0) := by kernel_rfl
theorem faF1 (b : Nat) : evFieldAddr Try.prog 172 (.ptr b 0) 1 = some (.ptr b 1) := by kernel_rfl
theorem flatMap_field_succ {l : List (Nat × Bts)} {i : Nat} {f : Nat × Bts} (h : l[i]? = some f) : (l.take (i + 1)).flatMap fieldB = (l.take i).flatMap fieldB ++ fieldB f := by
  rw [List.take_add_one, h]; simp
theorem fields_spec {m : Hp} {A : AS} {x : M} {dv iv lv : V} :
    ∃ w A', EvF Try.prog HH 93 [.agg (mc x dv iv lv)] A w A' ∧ w = .fn 111 [] [.ptr A.blk.length 0] ∧ Fr S0 A A' ∧ A'.blk[A.blk.length]? = some ⟨mc x dv iv lv, .var⟩ := by
  refine run_fn2 rfl Try.func93 (by unfold Try.f93; rfl) Try.ntmps93 (by unfold Try.f93; rfl) (by simp) ?_
  simp only [RT, Nat.reduceLT, Nat.reduceBEq, Nat.reduceEqDiff, Nat.reduceAdd, Int.reduceEq, Int.reduceLT, Int.reduceLE, Int.reduceGT, Int.reduceGE]
  exact ⟨Fr.pushVar A _, push_row A _⟩
set_option maxRecDepth 10000 in
set_option maxHeartbeats 16000000 in
theorem write_spec {m : Hp} {A : AS} {x : M} {dv iv lv : V} (hw : WF A) (hm : m.on A) (h : MsgIn m x dv iv lv) (hz : Sized x) :
    ∃ w A', EvF Try.prog HH 71 [.agg (mc x dv iv lv)] A w A' ∧ Fr S0 A A' ∧ ∃ v, w = .tup [v, .int .i64 (checkM x)] ∧ (checkM x ≠ 0 → v = .snil) ∧ (checkM x = 0 → Own A.blk.length A' v (writeB x).length 1 (bc (writeB x))) := by
  refine run_fn2 rfl Try.func71 (by unfold Try.f71; rfl) Try.ntmps71 (by unfold Try.f71; rfl) (by simp) ?_
  simp only [RT, Nat.reduceLT, Nat.reduceBEq, Nat.reduceEqDiff, Nat.reduceAdd, Int.reduceEq, Int.reduceLT, Int.reduceLE, Int.reduceGT, Int.reduceGE]
  obtain ⟨A1, e1, f1, r1, n1⟩ := new_var A (mc x dv iv lv)
  rw [← e1]
  have ld := ldM r1 h.id
  simp only [RT, Nat.reduceLT, Nat.reduceBEq, Nat.reduceEqDiff, Nat.reduceAdd, Int.reduceEq, Int.reduceLT, Int.reduceLE, Int.reduceGT, Int.reduceGE, ld]
  obtain ⟨w, A2, k1, rfl, k2⟩ := check_spec (hm.fr0 f1) h hz.ids hz.data hz.list hz.each
  refine run_call1 k1 ?_
  simp only [RT, Nat.reduceLT, Nat.reduceBEq, Nat.reduceEqDiff, Nat.reduceAdd, Int.reduceEq, Int.reduceLT, Int.reduceLE, Int.reduceGT, Int.reduceGE]
  refine condK_of (fun g => ?_) (fun g => ?_)
  · simp only [RT, Nat.reduceLT, Nat.reduceBEq, Nat.reduceEqDiff, Nat.reduceAdd, Int.reduceEq, Int.reduceLT, Int.reduceLE, Int.reduceGT, Int.reduceGE]
    exact ⟨f1.then0 k2, _, rfl, fun _ => rfl, fun q => absurd q g⟩
  have g0 : checkM x = 0 := by omega
  have hok := okM_of g0
  have hkind := hok.kind
  obtain ⟨kd, hkd⟩ := Int.eq_ofNat_of_zero_le (show 0 ≤ x.kind by omega)
  have f2 := f1.then0 k2
  have ld2 := ldM (k2.row0 r1) h.id
  have fa := faM A.blk.length
  simp only [RT, Nat.reduceLT, Nat.reduceBEq, Nat.reduceEqDiff, Nat.reduceAdd, Int.reduceEq, Int.reduceLT, Int.reduceLE, Int.reduceGT, Int.reduceGE, fa, ld2, cnv8, hkd, u8wrap, bsl1, zc44]
  have o1 := Own.new (N := A.blk.length) (n := 1) (sz := 1) (cs := [.int .u8 ((UInt8.ofNat kd).toNat : Int)]) (f2.wf hw) f2.len rfl rfl
  have q1 := Fr.pushArr A2 [.int .u8 ((UInt8.ofNat kd).toNat : Int)]
  generalize A2.push ⟨[.int .u8 ((UInt8.ofNat kd).toNat : Int)], .arr A2.blk.length 0⟩ = A3 at *
  obtain ⟨A4, s1, s2, s3, s4⟩ := new_set (P := Try.prog) A3 (z := [.snil]) (t := 44) (x := .sl A2.blk.length 0 1 1) (cs := [.sl A2.blk.length 0 1 1]) rfl sz44 rfl rfl
  have f4 := (f2.then0 q1).then0 s2
  have ld4 := ldM ((q1.then0 s2).row0 (k2.row0 r1)) h.id
  simp only [RT, Nat.reduceLT, Nat.reduceBEq, Nat.reduceEqDiff, Nat.reduceAdd, Int.reduceEq, Int.reduceLT, Int.reduceLE, Int.reduceGT, Int.reduceGE, s1, ld4]
  obtain ⟨w, A5, p1, rfl, p2, p3⟩ := fields_spec (m := m) (A := A4) (x := x) (dv := dv) (iv := iv) (lv := lv)
  refine run_call1 p1 ?_
  have f5 := f4.then0 p2
  have l3 : A.blk.length ≤ A3.blk.length := (f2.then0 q1).len
  have hmA5 := hm.fr0 f5
  have r5 := p2.row0 s3
  have l5 := row_lt s3
  have hb5 : m A3.blk.length = none := hm.fresh l3
  have ldb : ∀ {B : AS} {v : V}, B.blk[A3.blk.length]? = some ⟨[v], .var⟩ → evLoad Try.prog 44 (.ptr A3.blk.length 0) B = some v := fun q => load_one ag44 q
  have hid32 := eId_len h.ids
  have hsz := P9_size hok h.id hid32
  have o5 := (o1.fr0 s2).fr0 p2
  have hwl : ∀ i, (((fieldList x).take i).flatMap fieldB).length ≤ 9 * 200010 := by
    have key : ∀ (l : List Bts) (t : Nat), (∀ b ∈ l, b.length ≤ 200000) → ((optAll t l).flatMap fieldB).length ≤ l.length * 200010 := by
      intro l
      induction l with
      | nil => intro t _; simp [optAll]
      | cons b l ih =>
        intro t hl
        have h1 := ih (t + 1) (fun c hc => hl c (List.mem_cons_of_mem _ hc))
        have h2 := hl b (List.mem_cons_self)
        simp only [optAll, List.flatMap_append, List.length_append, List.length_cons, Nat.succ_mul, opt1]
        split
        · rw [List.flatMap_nil, List.length_nil]; omega
        · rw [List.flatMap_cons, List.flatMap_nil, List.append_nil]
          have : (fieldB (t, b)).length = b.length + 4 := by simp [fieldB, runB_len]
          omega
    intro i
    have h1 := key (P9 x) 1 hsz
    have h2 : (((fieldList x).take i).flatMap fieldB).length ≤ ((fieldList x).flatMap fieldB).length := by
      have := congrArg List.length (congrArg (List.flatMap fieldB) (List.take_append_drop i (fieldList x)))
      rw [List.flatMap_append, List.length_append] at this; omega
    have h3 : (P9 x).length = 9 := rfl
    rw [h3] at h1
    exact Nat.le_trans h2 h1
  simp only [RT, Nat.reduceLT, Nat.reduceBEq, Nat.reduceEqDiff, Nat.reduceAdd, Int.reduceEq, Int.reduceLT, Int.reduceLE, Int.reduceGT, Int.reduceGE]
  refine run_goes_k (S := fun l => l = .row A3.blk.length ∨ famsFrom A.blk.length l) (AR := argF) (xs := fieldList x)
    (fun i B => ∃ v, B.blk[A3.blk.length]? = some ⟨[v], .var⟩ ∧ Own A.blk.length B v ((((fieldList x).take i).flatMap fieldB).length + 1) 1 (bc (UInt8.ofNat kd :: ((fieldList x).take i).flatMap fieldB)))
    (fun B => ∃ v, B.blk[A3.blk.length]? = some ⟨[v], .var⟩ ∧ Own A.blk.length B v (writeB x).length 1 (bc (writeB x)))
    rfl (fun q => by rcases q with q | q <;> cases q) ?_ ⟨_, r5, by simpa [bc] using o5⟩ ?_ ?_ Try.func71 Try.ntmps71 (by simp) ?_ ?_ ?_
  · intro A0 hf0
    refine fields1_goes (hf0.wf (f5.wf hw)) (hmA5.fr0 hf0) ?_ (hf0.row0 p3) h hok
    rintro b ((q | q) | q)
    · cases q; exact ⟨hb5, by omega⟩
    · exact q.elim
    · cases q
  · rintro i B C ⟨v, c1, c2⟩ hf
    exact ⟨v, hf.loop_row c1, c2.fr hf (fun b q => by cases q) (fun f q => by cases q)⟩
  · rintro B C ⟨v, c1, c2⟩ hf
    exact ⟨v, hf.loop_row c1, c2.fr hf (fun b q => by cases q) (fun f q => by cases q)⟩
  · rintro i f B args hi ⟨v, c1, c2⟩ hfB ⟨dv', m', rfl, d1, d2, d3⟩
    refine ⟨_, rfl, ?_⟩
    have hfAB : Fr S0 A B := f5.trans hfB (by
      rintro l ((rfl | q) | rfl)
      · exact .inr l3
      · cases l <;> first | exact .inr q | exact q.elim
      · exact .inr (f5.llen))
    simp only [RT, Nat.reduceLT, Nat.reduceBEq, Nat.reduceEqDiff, Nat.reduceAdd, Int.reduceEq, Int.reduceLT, Int.reduceLE, Int.reduceGT, Int.reduceGE, zc172]
    obtain ⟨B1, u1, u2, u3, u4⟩ := new_set (P := Try.prog) B (z := [.int .u8 0, .snil]) (t := 172) (x := .agg [.int .u8 (UInt8.ofNat f.1).toNat, dv']) (cs := [.int .u8 (UInt8.ofNat f.1).toNat, dv']) rfl sz172 rfl (by simp only [List.all_cons, one_int, d2.one, List.all_nil, Bool.and_self])
    simp only [RT, Nat.reduceLT, Nat.reduceBEq, Nat.reduceEqDiff, Nat.reduceAdd, Int.reduceEq, Int.reduceLT, Int.reduceLE, Int.reduceGT, Int.reduceGE, u1]
    refine ⟨rfl, u2.mono fun _ q => q.elim, fun B2 hB2 => ?_⟩
    have hl2 : Fr (· = .loop A5.loops.length) B1 B2 := hB2
    have c1 := hl2.loop_row (u2.row0 c1)
    have c2 : Own A.blk.length B2 v _ 1 _ := (c2.fr0 u2).fr hl2 (fun b q => by cases q) (fun f q => by cases q)
    have c3 := hl2.loop_row u3
    have d1 := (d1.fr0 u2).loop hl2
    have w2 : WF B2 := hl2.wf (u2.wf (hfAB.wf hw))
    have n2 : A.blk.length ≤ B2.blk.length := by have := hfAB.len; have := u2.len; have := hl2.len; omega
    have l5b := row_lt c1
    have fa0 : evFieldAddr Try.prog 172 (.ptr B.blk.length 0) 0 = some (.ptr B.blk.length 0) := faF0 _
    have fa1 : evFieldAddr Try.prog 172 (.ptr B.blk.length 0) 1 = some (.ptr B.blk.length 1) := faF1 _
    have ld0 := load_at (P := Try.prog) ag5 c3 0
    have ld1 := load_at (P := Try.prog) ag44 c3 1
    simp only [List.getElem?_cons_zero, List.getElem?_cons_succ] at ld0 ld1
    have hwi := hwl i
    obtain ⟨v1, B3, y1, y2, y3⟩ := c2.appNew (k := 1) (new := [.int .u8 ((UInt8.ofNat f.1).toNat : Int)]) sl44 Try.underlying44 w2 n2 rfl rfl (by omega) (by omega)
    have q2 := Fr.pushArr B2 [.int .u8 ((UInt8.ofNat f.1).toNat : Int)]
    have ld1' := load_at (P := Try.prog) ag44 (q2.row0 c3) 1
    simp only [List.getElem?_cons_zero, List.getElem?_cons_succ] at ld1'
    have c3' := y3.fam_row c3
    have ld2 := load_at (P := Try.prog) ag44 c3' 1
    simp only [List.getElem?_cons_zero, List.getElem?_cons_succ] at ld2
    simp only [RT, Nat.reduceLT, Nat.reduceBEq, Nat.reduceEqDiff, Nat.reduceAdd, Int.reduceEq, Int.reduceLT, Int.reduceLE, Int.reduceGT, Int.reduceGE, pl_71_7, ldb c1, fa0, fa1, ld0, ld1, bsl1, ld1', y1, rc_nil]
    refine ⟨rc_load (ha := rfl) rfl ld2 rfl rc_nil, ?_⟩
    obtain ⟨w, B4, z1, z2, z3⟩ := run_spec (y3.wf w2) (d1.fams y3) d2 (by omega)
    refine run_call1 z1 ?_
    have hrl := runB_len f.2
    obtain ⟨v2, B5, x1, x2, x3⟩ := (y2.fr0 z3).app sl44 (z3.wf (y3.wf w2)) (by have := y3.len; have := z3.len; omega) (z2.src Try.underlying44) (by rw [bc_len, Nat.mul_one]) (bc_one _) (by omega) (by omega)
    have c5 := x3.fam_row (z3.row0 (y3.fam_row c1))
    obtain ⟨B6, t1, t2, t3, t4⟩ := store_one (P := Try.prog) (t := 44) (x := v2) c5 x2.cells1 sz44 x2.one
    simp only [RT, Nat.reduceLT, Nat.reduceBEq, Nat.reduceEqDiff, Nat.reduceAdd, Int.reduceEq, Int.reduceLT, Int.reduceLE, Int.reduceGT, Int.reduceGE, x1, t1, rc_nil]
    have inF : ∀ {X Y : AS}, Fr (famsFrom A.blk.length) X Y → Fr (fun l => l = .row A3.blk.length ∨ famsFrom A.blk.length l) X Y := fun q => q.mono fun _ z => .inr z
    refine ⟨(((inF y3).then0 z3).thn (inF x3)).thn (t2.mono fun _ q => .inl q), .inl ⟨rfl, v2, t3, (x2.frRow t2 c5).cast ?_ ?_⟩⟩
    · rw [flatMap_field_succ hi, List.length_append]; simp [fieldB]; omega
    · rw [flatMap_field_succ hi]
      simp [bc, fieldB]
  · rintro B ⟨v, c1, c2⟩
    refine ⟨v, c1, c2.cast ?_ ?_⟩
    · rw [List.take_length]; simp [writeB]
    · rw [List.take_length]; simp [writeB, hkd]
  · rintro B ⟨v, c1, c2⟩ hf
    simp only [RT, Nat.reduceLT, Nat.reduceBEq, Nat.reduceEqDiff, Nat.reduceAdd, Int.reduceEq, Int.reduceLT, Int.reduceLE, Int.reduceGT, Int.reduceGE, ldb c1]
    refine ⟨f5.trans hf ?_, v, by rw [g0], fun q => absurd g0 q, fun _ => c2⟩
    rintro l (rfl | q)
    · exact .inr l3
    · cases l <;> first | exact .inr q | exact q.elim
end Go.Sv.Try
namespace Go.Sv.Try
open Go Go.Proofs
set_option linter.unusedVariables false
set_option linter.unusedSimpArgs false
end Go.Sv.Try
namespace Go.Sv.Try
open Go Go.Proofs
set_option linter.unusedVariables false
set_option linter.unusedSimpArgs false
theorem fieldsB_len : ∀ (l : List Bts) (t : Nat), (∀ b ∈ l, b.length ≤ 200000) → ((optAll t l).flatMap fieldB).length ≤ l.length * 200010
  | [], t, _ => by simp [optAll]
  | b :: l, t, hl => by
    have h1 := fieldsB_len l (t + 1) (fun c hc => hl c (List.mem_cons_of_mem _ hc))
    have h2 := hl b (List.mem_cons_self)
    simp only [optAll, List.flatMap_append, List.length_append, List.length_cons, Nat.succ_mul, opt1]
    split
    · rw [List.flatMap_nil, List.length_nil]; omega
    · rw [List.flatMap_cons, List.flatMap_nil, List.append_nil]
      have : (fieldB (t, b)).length = b.length + 4 := by simp [fieldB, runB_len]
      omega
end Go.Sv.Try
namespace Go.Sv.Try
open Go Go.Proofs
set_option linter.unusedVariables false
set_option linter.unusedSimpArgs false
theorem Reads.bytes (n : Nat) (hn : 0 < n) : Reads (eB n hn) (.arr n (.int .u8) 1) (fun _ => True) (fun _ => 1) := by
  intro A d cs h
  cases h with
  | @arr n sz e l vs hl hv hh =>
    obtain ⟨r, h1, h2⟩ := choose_list (R := fun i (d : Dat) (x : UInt8) => cs[i]? = some (.int .u8 x.toNat)) l 0 fun i d q => by
      obtain ⟨x, q1, _⟩ := Reads.u8 A d _ (hh i d q)
      refine ⟨x, ?_⟩
      have q1 : (cs.drop (i * 1)).take 1 = [.int .u8 x.toNat] := q1
      rw [Nat.mul_one, List.take_one, List.head?_drop] at q1
      rw [Nat.zero_add]
      cases hc : cs[i]? with
      | none => rw [hc] at q1; simp at q1
      | some c => rw [hc] at q1; simpa using q1
    refine ⟨r, ⟨ext_take (by rw [bc_len]; omega) fun i x hx => ?_, by omega⟩, trivial, by simp [Dat.bulk]⟩
    rw [bc_get] at hx
    cases hr : r[i]? with
    | none => rw [hr] at hx; simp at hx
    | some y =>
      rw [hr] at hx; simp at hx; subst hx
      have hi := (List.getElem?_eq_some_iff.1 hr).1
      have := h2 i l[i] y (List.getElem?_eq_getElem (by omega)) hr
      rwa [Nat.zero_add] at this
end Go.Sv.Try
namespace Go.Sv.Try
open Go Go.Proofs
set_option linter.unusedVariables false
set_option linter.unusedSimpArgs false
theorem faR (b : Nat) : evFieldAddr Try.prog 178 (.ptr b 0) 0 = some (.ptr b 0) ∧ evFieldAddr Try.prog 178 (.ptr b 0) 1 = some (.ptr b 1) := ⟨by kernel_rfl, by kernel_rfl⟩
theorem ldR {A : AS} {b : Nat} {rv : V} {bad : Int} {k : BK} (h : A.blk[b]? = some ⟨[rv, .int .i64 bad], k⟩) : evLoad Try.prog 44 (.ptr b 0) A = some rv ∧ evLoad Try.prog 45 (.ptr b 1) A = some (.int .i64 bad) :=
  ⟨by rw [load_at ag44 h]; rfl, by rw [load_at ag45 h]; rfl⟩
theorem setBad {A : AS} {b : Nat} {rv : V} {bad n : Int} (h : A.blk[b]? = some ⟨[rv, .int .i64 bad], .var⟩) : ∃ A', evStore Try.prog 45 (.ptr b 1) (.int .i64 n) A = some A' ∧ Fr (· = .row b) A A' ∧ A'.blk[b]? = some ⟨[rv, .int .i64 n], .var⟩ := by
  obtain ⟨A', h1, h2, h3, _⟩ := store_var (P := Try.prog) (t := 45) (o := 1) (x := .int .i64 n) h rfl sz45 (by simp) rfl
  exact ⟨A', h1, h2, h3⟩
theorem setRest {A : AS} {b : Nat} {rv w : V} {bad : Int} (h : A.blk[b]? = some ⟨[rv, .int .i64 bad], .var⟩) (hw : w.one = true) : ∃ A', evStore Try.prog 44 (.ptr b 0) w A = some A' ∧ Fr (· = .row b) A A' ∧ A'.blk[b]? = some ⟨[w, .int .i64 bad], .var⟩ := by
  obtain ⟨A', h1, h2, h3, _⟩ := store_var (P := Try.prog) (t := 44) (o := 0) (x := w) h (one_cells hw) sz44 (by simp) (by simp [hw])
  exact ⟨A', h1, h2, h3⟩
theorem cnv83 (u : UInt8) (A : AS) : cnv Try.prog 5 3 (some (.int .u8 (u.toNat : Int))) A = some (.val (.int .i64 (u.toNat : Int))) := by
  rw [cnv_int (by decide) Try.underlying5 Try.underlying3, i64u8]
theorem byte_at {m : Hp} {A : AS} {v : V} {l : Bts} (h : Slc eU8 m v l) (hm : m.on A) {i : Nat} {x : UInt8} (hx : l[i]? = some x) : ∃ b o, evIndexAddr Try.prog 44 v (.int .i64 (i : Int)) = some (.ptr b o) ∧ evLoad Try.prog 5 (.ptr b o) A = some (.int .u8 x.toNat) := by
  obtain ⟨b, o, w, h1, h2, h3⟩ := h.at (P := Try.prog) (k := .i64) hm Try.underlying44 sz5 ag5 hx
  rw [eU8_W] at h3
  subst h3
  exact ⟨b, o, h1, h2⟩
set_option maxRecDepth 10000 in
set_option maxHeartbeats 8000000 in
theorem rrun_spec {m : Hp} {A : AS} {br : Nat} {rv : V} {s : Bts} (hm : m.on A) (hb : m br = none) (hr : A.blk[br]? = some ⟨[rv, .int .i64 0], .var⟩) (h : Slc eU8 m rv s) (hs : s.length ≤ 9223372036854775807) :
    ∃ w A', EvF Try.prog HH 100 [.ptr br 0] A w A' ∧ Fr (· = .row br) A A' ∧ ((takeB s = none ∧ w = .snil ∧ A'.blk[br]? = some ⟨[rv, .int .i64 20], .var⟩) ∨
      ∃ x r rv', takeB s = some (x, r) ∧ Slc eU8 m w x ∧ A'.blk[br]? = some ⟨[rv', .int .i64 0], .var⟩ ∧ Slc eU8 m rv' r) := by
  refine run_fn2 rfl Try.func100 (by unfold Try.f100; rfl) Try.ntmps100 (by unfold Try.f100; rfl) (by simp) ?_
  have fa := faR br
  have ld := ldR hr
  have hlen := fun B => h.len (P := Try.prog) Try.underlying44 B
  obtain ⟨A1, s1, s2, s3⟩ := setBad (n := 20) hr
  have ld1 := ldR s3
  simp only [RT, Nat.reduceLT, Nat.reduceBEq, Nat.reduceEqDiff, Nat.reduceAdd, Int.reduceEq, Int.reduceLT, Int.reduceLE, Int.reduceGT, Int.reduceGE, fa, ld, hlen]
  refine condK_of (fun g => ?_) (fun g => ?_)
  · have ht : takeB s = none := by
      match s, g with
      | [], _ => rfl
      | [a], _ => rfl
      | [a, b], _ => rfl
      | a :: b :: c :: q, g => simp at g; omega
    simp only [RT, Nat.reduceLT, Nat.reduceBEq, Nat.reduceEqDiff, Nat.reduceAdd, Int.reduceEq, Int.reduceLT, Int.reduceLE, Int.reduceGT, Int.reduceGE, fa, s1, ld1]
    exact ⟨s2, .inl ⟨ht, s3⟩⟩
  · match s, g, h, hs with
    | [], g, _, _ => simp at g
    | [a], g, _, _ => simp at g
    | [a, b], g, _, _ => simp at g
    | a :: b :: c :: q, g, h, hs =>
      clear g
      have ha := a.toNat_lt; have hbb := b.toNat_lt; have hc := c.toNat_lt
      obtain ⟨b0, o0, x0, y0⟩ := byte_at h hm (i := 0) rfl
      obtain ⟨b1, o1, x1, y1⟩ := byte_at h hm (i := 1) rfl
      obtain ⟨b2, o2, x2, y2⟩ := byte_at h hm (i := 2) rfl
      have x0 : evIndexAddr Try.prog 44 rv (.int .i64 0) = some (.ptr b0 o0) := x0
      have x1 : evIndexAddr Try.prog 44 rv (.int .i64 1) = some (.ptr b1 o1) := x1
      have x2 : evIndexAddr Try.prog 44 rv (.int .i64 2) = some (.ptr b2 o2) := x2
      obtain ⟨n, hn⟩ : ∃ n, n = a.toNat * 65536 + b.toNat * 256 + c.toNat := ⟨_, rfl⟩
      have hnn : n < 16777216 := by omega
      have sh16 : evShift .shl .i64 (a.toNat : Int) 16 = some (.int .i64 ((a.toNat * 65536 : Nat) : Int)) := by
        rw [show (16 : Int) = ((16 : Nat) : Int) from rfl, shl_nat _ _ (by decide), wrapN (by omega)]
      have sh8 : evShift .shl .i64 (b.toNat : Int) 8 = some (.int .i64 ((b.toNat * 256 : Nat) : Int)) := by
        rw [show (8 : Int) = ((8 : Nat) : Int) from rfl, shl_nat _ _ (by decide), wrapN (by omega)]
      have or1 : evBits .or .i64 ((a.toNat * 65536 : Nat) : Int) ((b.toNat * 256 : Nat) : Int) = some (.int .i64 ((a.toNat * 65536 + b.toNat * 256 : Nat) : Int)) := by
        rw [or_nat (by omega) (by omega)]
        have := or_add (n := a.toNat) (i := 16) (b := b.toNat * 256) (by omega)
        rw [show a.toNat * 65536 = a.toNat * 2 ^ 16 from rfl, this]
      have or2 : evBits .or .i64 ((a.toNat * 65536 + b.toNat * 256 : Nat) : Int) (c.toNat : Int) = some (.int .i64 (n : Int)) := by
        rw [hn, or_nat (by omega) (by omega)]
        have := or_add (n := a.toNat * 256 + b.toNat) (i := 8) (b := c.toNat) (by omega)
        rw [show a.toNat * 65536 + b.toNat * 256 = (a.toNat * 256 + b.toNat) * 2 ^ 8 by omega, this]
      simp only [RT, Nat.reduceLT, Nat.reduceBEq, Nat.reduceEqDiff, Nat.reduceAdd, Int.reduceEq, Int.reduceLT, Int.reduceLE, Int.reduceGT, Int.reduceGE, fa, ld]
      rw [pl_100_5, run_plan_id (by rfl)]
      simp only [RT, Nat.reduceLT, Nat.reduceBEq, Nat.reduceEqDiff, Nat.reduceAdd, Int.reduceEq, Int.reduceLT, Int.reduceLE, Int.reduceGT, Int.reduceGE, fa, ld, x0, x1, x2, y0, y1, y2, cnv83, sh16, sh8, or1, or2, hlen]
      simp only [takeB, ← hn]
      have hw3 : IntKind.i64.wrap (((a :: b :: c :: q).length : Int) - 3) = (q.length : Int) := by
        rw [wrapI (by omega) (by simp only [List.length_cons] at hs ⊢; omega)]; simp only [List.length_cons]; omega
      rw [hw3]
      refine condK_of (fun g => ?_) (fun g => ?_)
      · simp only [RT, Nat.reduceLT, Nat.reduceBEq, Nat.reduceEqDiff, Nat.reduceAdd, Int.reduceEq, Int.reduceLT, Int.reduceLE, Int.reduceGT, Int.reduceGE, fa, s1]
        rw [if_pos (by omega)]
        simp only [true_and]
        exact ⟨s2, .inl s3⟩
      · have hw4 : IntKind.i64.wrap (3 + (n : Int)) = ((3 + n : Nat) : Int) := by rw [wrapI (by omega) (by omega)]; omega
        have hql : 3 + n ≤ (a :: b :: c :: q).length := by simp only [List.length_cons]; omega
        obtain ⟨w, u1, u2⟩ := h.sub (P := Try.prog) (t := 44) (lo := 3) (hi := 3 + n) (kl := .i64) (kh := .i64) Try.underlying44 sz5 (by omega) hql A
        have u1 : evSlice Try.prog 44 rv (some (.int .i64 3)) (some (.int .i64 ((3 + n : Nat) : Int))) none A = some w := u1
        obtain ⟨w2, v1, v2⟩ := h.subFrom (P := Try.prog) (t := 44) (lo := 3 + n) (kl := .i64) Try.underlying44 sz5 hql A
        obtain ⟨A2, t1, t2, t3⟩ := setRest hr v2.one
        simp only [RT, Nat.reduceLT, Nat.reduceBEq, Nat.reduceEqDiff, Nat.reduceAdd, Int.reduceEq, Int.reduceLT, Int.reduceLE, Int.reduceGT, Int.reduceGE, fa, ld, hw4, u1, v1, t1]
        rw [if_neg (by omega)]
        have e1 : ((a :: b :: c :: q).take (3 + n)).drop 3 = q.take n := by rw [show 3 + n = n + 3 by omega]; rfl
        have e2 : (a :: b :: c :: q).drop (3 + n) = q.drop n := by rw [show 3 + n = n + 3 by omega]; rfl
        rw [e1] at u2; rw [e2] at v2
        exact ⟨t2, .inr ⟨_, _, w2, rfl, u2, t3, v2⟩⟩
set_option maxRecDepth 10000 in
set_option maxHeartbeats 8000000 in
theorem rnumber_spec {m : Hp} {A : AS} {br : Nat} {rv xv : V} {s : Bts} (hm : m.on A) (hb : m br = none) (hr : A.blk[br]? = some ⟨[rv, .int .i64 0], .var⟩) (h : Slc eU8 m xv s) (hs : s.length ≤ 16777215) (hne : s ≠ []) :
    ∃ w A', EvF Try.prog HH 99 [.ptr br 0, xv] A w A' ∧ ((numOf s = none ∧ Fr (· = .row br) A A' ∧ A'.blk[br]? = some ⟨[rv, .int .i64 23], .var⟩ ∧ ∃ n : Int, w = .int .i64 n) ∨
      ∃ n : Nat, numOf s = some n ∧ w = .int .i64 n ∧ A' = A) := by
  refine run_fn2 rfl Try.func99 (by unfold Try.f99; rfl) Try.ntmps99 (by unfold Try.f99; rfl) (by simp) ?_
  have fa := faR br
  have hlen := fun B => h.len (P := Try.prog) Try.underlying44 B
  obtain ⟨A1, s1, s2, s3⟩ := setBad (n := 23) hr
  obtain ⟨z, hz⟩ := get_lt (l := s) (i := 0) (by have : s.length ≠ 0 := fun q => hne (List.eq_nil_of_length_eq_zero q); omega)
  obtain ⟨b0, o0, x0, y0⟩ := byte_at h hm hz
  have x0 : evIndexAddr Try.prog 44 xv (.int .i64 0) = some (.ptr b0 o0) := x0
  have hzt := z.toNat_lt
  simp only [RT, Nat.reduceLT, Nat.reduceBEq, Nat.reduceEqDiff, Nat.reduceAdd, Int.reduceEq, Int.reduceLT, Int.reduceLE, Int.reduceGT, Int.reduceGE, hlen]
  refine run_loop_j (fun k e B => B = A ∧ e.get 0 = .ptr br 0 ∧ e.get 1 = xv ∧ e.get 8 = xv ∧ e.get 9 = .int .i64 s.length ∧ ∃ i : Nat, k = s.length - i ∧ i ≤ s.length ∧ i ≤ 6 ∧ (i = 0 ∨ z ≠ 0) ∧ e.get 10 = .int .i64 i ∧ e.get 5 = .int .i64 (valOf (s.take i) : Nat))
    (fun x e B => B = A ∧ Is x (.exit 0) ∧ e.get 0 = .ptr br 0 ∧ e.get 1 = xv ∧ ∃ n : Nat, e.get 5 = .int .i64 n ∧ n < 281474976710656 ∧ (z ≠ 0 → s.length ≤ 6 → n = valOf s))
    ⟨_, rfl, rfl, rfl, rfl, rfl, 0, rfl, by simp, by simp, .inl rfl, rfl, by simp [valOf, Env.get]⟩ ?_ ?_
  · rintro k e B ⟨rfl, h0, h1, h8, h9, i, rfl, hi, hi6, hzi, h10, h5⟩
    have hv := valOf_lt (s.take i)
    have hv2 : valOf (s.take i) < 281474976710656 := Nat.lt_of_lt_of_le hv (by
      have : (256 : Nat) ^ (s.take i).length ≤ 256 ^ 6 := Nat.pow_le_pow_right (by decide) (by rw [List.length_take]; omega)
      omega)
    simp only [RT, Nat.reduceLT, Nat.reduceBEq, Nat.reduceEqDiff, Nat.reduceAdd, Int.reduceEq, Int.reduceLT, Int.reduceLE, Int.reduceGT, Int.reduceGE, h10, h9]
    refine condK_of (fun g => ?_) (fun g => ?_)
    · obtain ⟨x, hx⟩ := get_lt (l := s) (i := i) (by omega)
      obtain ⟨b1, o1, x1, y1⟩ := byte_at h hm hx
      have hxt := x.toNat_lt
      simp only [RT, Nat.reduceLT, Nat.reduceBEq, Nat.reduceEqDiff, Nat.reduceAdd, Int.reduceEq, Int.reduceLT, Int.reduceLE, Int.reduceGT, Int.reduceGE, h10, h8, x1, y1]
      refine contG_of (fun g1 => ?_) (fun g1 => ?_)
      · simp only [RT, Nat.reduceLT, Nat.reduceBEq, Nat.reduceEqDiff, Nat.reduceAdd, Int.reduceEq, Int.reduceLT, Int.reduceLE, Int.reduceGT, Int.reduceGE, g1, h0, h1]
        exact ⟨rfl, _, h5, hv2, fun _ _ => by omega⟩
      · simp only [RT, Nat.reduceLT, Nat.reduceBEq, Nat.reduceEqDiff, Nat.reduceAdd, Int.reduceEq, Int.reduceLT, Int.reduceLE, Int.reduceGT, Int.reduceGE, g1, h1, x0, y0]
        refine condK_of (fun g2 => ?_) (fun g2 => ?_)
        · simp only [RT, Nat.reduceLT, Nat.reduceBEq, Nat.reduceEqDiff, Nat.reduceAdd, Int.reduceEq, Int.reduceLT, Int.reduceLE, Int.reduceGT, Int.reduceGE, h0, h1]
          refine ⟨rfl, _, h5, hv2, fun q => ?_⟩
          exact absurd (UInt8.toNat_inj.1 (by simpa using g2)) q
        · have hz0 : z ≠ 0 := fun q => g2 (by rw [q]; rfl)
          have hv3 : valOf (s.take i) < 1099511627776 := Nat.lt_of_lt_of_le hv (by
            have : (256 : Nat) ^ (s.take i).length ≤ 256 ^ 5 := Nat.pow_le_pow_right (by decide) (by rw [List.length_take]; omega)
            omega)
          have sh8 : evShift .shl .i64 ((valOf (s.take i) : Nat) : Int) 8 = some (.int .i64 ((valOf (s.take i) * 256 : Nat) : Int)) := by
            rw [show (8 : Int) = ((8 : Nat) : Int) from rfl, shl_nat _ _ (by decide), wrapN (by omega)]
          have or1 : evBits .or .i64 ((valOf (s.take i) * 256 : Nat) : Int) (x.toNat : Int) = some (.int .i64 ((valOf (s.take (i + 1)) : Nat) : Int)) := by
            rw [or_nat (by omega) (by omega), valOf_succ hx]
            have := or_add (n := valOf (s.take i)) (i := 8) (b := x.toNat) (by omega)
            rw [show valOf (s.take i) * 256 = valOf (s.take i) * 2 ^ 8 from rfl, this]
          simp only [RT, Nat.reduceLT, Nat.reduceBEq, Nat.reduceEqDiff, Nat.reduceAdd, Int.reduceEq, Int.reduceLT, Int.reduceLE, Int.reduceGT, Int.reduceGE, h5, sh8, cnv83, or1, h10]
          exact ⟨s.length - (i + 1), by omega, h0, h1, h8, h9, i + 1, rfl, by omega, by omega, .inr hz0, by rw [wrapS (by omega)], rfl⟩
    · have : i = s.length := by omega
      subst this
      simp only [RT, Nat.reduceLT, Nat.reduceBEq, Nat.reduceEqDiff, Nat.reduceAdd, Int.reduceEq, Int.reduceLT, Int.reduceLE, Int.reduceGT, Int.reduceGE, h0, h1]
      exact ⟨rfl, _, h5, hv2, fun _ _ => by rw [List.take_length]⟩
  rintro x e B hx ⟨rfl, rfl, h0, h1, n, h5, hn, hval⟩
  have hl0 : ¬ ((s.length : Int) = 0) := by have : s.length ≠ 0 := fun q => hne (List.eq_nil_of_length_eq_zero q); omega
  simp only [RT, Nat.reduceLT, Nat.reduceBEq, Nat.reduceEqDiff, Nat.reduceAdd, Int.reduceEq, Int.reduceLT, Int.reduceLE, Int.reduceGT, Int.reduceGE, h1, hlen, hl0, x0, y0]
  have bad : numOf s = none → (numOf s = none ∧ Fr (· = .row br) B A1 ∧ A1.blk[br]? = some ⟨[rv, .int .i64 23], .var⟩ ∧ ∃ k : Int, V.int .i64 (n : Int) = .int .i64 k) := fun q => ⟨q, s2, s3, _, rfl⟩
  have z0 : s[0]? = some 0 ↔ z = 0 := by rw [hz]; simp
  refine contG_of (fun g1 => ?_) (fun g1 => ?_)
  · simp only [RT, Nat.reduceLT, Nat.reduceBEq, Nat.reduceEqDiff, Nat.reduceAdd, Int.reduceEq, Int.reduceLT, Int.reduceLE, Int.reduceGT, Int.reduceGE, g1, h0, h5, fa, s1]
    have : z = 0 := UInt8.toNat_inj.1 (by simpa using g1)
    exact .inl (bad (by unfold numOf; rw [if_pos (.inr (.inl (z0.2 this)))]))
  · have hz0 : z ≠ 0 := fun q => g1 (by rw [q]; rfl)
    simp only [RT, Nat.reduceLT, Nat.reduceBEq, Nat.reduceEqDiff, Nat.reduceAdd, Int.reduceEq, Int.reduceLT, Int.reduceLE, Int.reduceGT, Int.reduceGE, g1, h1, hlen]
    refine contG_of (fun g2 => ?_) (fun g2 => ?_)
    · simp only [RT, Nat.reduceLT, Nat.reduceBEq, Nat.reduceEqDiff, Nat.reduceAdd, Int.reduceEq, Int.reduceLT, Int.reduceLE, Int.reduceGT, Int.reduceGE, g2, h0, h5, fa, s1]
      exact .inl (bad (by unfold numOf; rw [if_pos (.inr (.inr (.inl (by omega))))]))
    · have hnv := hval hz0 (by omega)
      simp only [RT, Nat.reduceLT, Nat.reduceBEq, Nat.reduceEqDiff, Nat.reduceAdd, Int.reduceEq, Int.reduceLT, Int.reduceLE, Int.reduceGT, Int.reduceGE, g2, h5]
      refine condK_of (fun g3 => ?_) (fun g3 => ?_)
      · simp only [RT, Nat.reduceLT, Nat.reduceBEq, Nat.reduceEqDiff, Nat.reduceAdd, Int.reduceEq, Int.reduceLT, Int.reduceLE, Int.reduceGT, Int.reduceGE, h0, h5, fa, s1]
        exact .inl (bad (by unfold numOf; rw [if_pos (.inr (.inr (.inr (by omega))))]))
      · simp only [RT, Nat.reduceLT, Nat.reduceBEq, Nat.reduceEqDiff, Nat.reduceAdd, Int.reduceEq, Int.reduceLT, Int.reduceLE, Int.reduceGT, Int.reduceGE, h5]
        refine .inr ⟨n, ?_, rfl⟩
        unfold numOf
        rw [if_neg, hnv]
        rintro (q | q | q | q)
        · exact hne q
        · exact hz0 (z0.1 q)
        · omega
        · omega
end Go.Sv.Try
namespace Go.Sv.Try
open Go Go.Proofs
set_option linter.unusedVariables false
set_option linter.unusedSimpArgs false
def argI (m : Hp) (_ : AS) (args : List V) (f : Nat × Bts) : Prop := ∃ xv, args = [.int .u8 (f.1 : Int), xv] ∧ Slc eU8 m xv f.2 ∧ f.2.length ≤ 16777215 ∧ 1 ≤ f.1 ∧ f.1 ≤ 9
def rowR (br : Nat) (c : Int) (B : AS) : Prop := ∃ rv, B.blk[br]? = some ⟨[rv, .int .i64 c], .var⟩
theorem all_spec {A : AS} {br : Nat} : ∃ w A', EvF Try.prog HH 98 [.ptr br 0] A w A' ∧ w = .fn 115 [] [.ptr A.blk.length 0] ∧ Fr S0 A A' ∧ A'.blk[A.blk.length]? = some ⟨[.ptr br 0], .var⟩ := by
  refine run_fn2 rfl Try.func98 (by unfold Try.f98; rfl) Try.ntmps98 (by unfold Try.f98; rfl) (by simp) ?_
  simp only [RT, Nat.reduceLT, Nat.reduceBEq, Nat.reduceEqDiff, Nat.reduceAdd, Int.reduceEq, Int.reduceLT, Int.reduceLE, Int.reduceGT, Int.reduceGE]
  exact ⟨Fr.pushVar A _, push_row A _⟩
set_option maxRecDepth 10000 in
set_option maxHeartbeats 16000000 in
theorem all1_goes {m : Hp} {A : AS} {br bx : Nat} {rv : V} {s : Bts} {S : Loc → Prop} (hm : m.on A) (hS : ∀ b, S (.row b) → m b = none ∧ b ≠ bx) (hSr : S (.row br)) (hb : A.blk[bx]? = some ⟨[.ptr br 0], .var⟩) (hr : A.blk[br]? = some ⟨[rv, .int .i64 0], .var⟩)
    (h : Slc eU8 m rv s) (hs : s.length ≤ 9223372036854775807) : GoesG Try.prog HH 115 [] [.ptr bx 0] A S (· = .row br) (· = br) (rowR br 0) (rowR br (items 0 s).2) (argI m) (items 0 s).1 := by
  intro lo J D hJ hD hstep hJ0
  refine run_fn2 rfl Try.func115 (by unfold Try.f115; rfl) Try.ntmps115 (by unfold Try.f115; rfl) (by simp) ?_
  have fa := faR br
  have hmbr : m br = none := (hS br hSr).1
  have hld : ∀ {B}, Fr S A B → evLoad Try.prog 176 (.ptr bx 0) B = some (.ptr br 0) := fun q => load_one ag176 (q.row _ _ hb fun w => (hS _ w).2 rfl)
  have hmB : ∀ {B}, Fr S A B → m.on B := fun q => hm.fr q fun b w => (hS b w).1
  have inS : ∀ {B C : AS}, Fr (· = .row br) B C → Fr S B C := fun q => q.mono fun x w => by subst w; exact hSr
  simp only [RT, Nat.reduceLT, Nat.reduceBEq, Nat.reduceEqDiff, Nat.reduceAdd, Int.reduceEq, Int.reduceLT, Int.reduceLE, Int.reduceGT, Int.reduceGE]
  refine run_loop_j (fun n e B => Fr S A B ∧ e.get 0 = .yield lo ∧ e.get 1 = .ptr bx 0 ∧ ∃ (done : List (Nat × Bts)) (last : Nat) (rest : Bts) (rv' : V), n = rest.length ∧ e.get 3 = .int .u8 (last : Int) ∧ B.blk[br]? = some ⟨[rv', .int .i64 0], .var⟩ ∧ Slc eU8 m rv' rest ∧ rest.length ≤ 9223372036854775807 ∧
      J done.length B ∧ (items 0 s).1 = done ++ (items last rest).1 ∧ (items 0 s).2 = (items last rest).2)
    (fun z e B => Fr S A B ∧ (Is z (.exit 0) ∨ Is z .ret) ∧ ((J (items 0 s).1.length B ∧ rowR br (items 0 s).2 B) ∨ ∃ i, i < (items 0 s).1.length ∧ D i B))
    ⟨_, .refl S A, rfl, rfl, [], 0, s, rv, rfl, rfl, hr, h, hs, hJ0, rfl, rfl⟩ ?_ ?_
  rotate_left
  · rintro z e B hz ⟨hf, rfl | rfl, hd⟩
    · simp only [RT, Nat.reduceLT, Nat.reduceBEq, Nat.reduceEqDiff, Nat.reduceAdd, Int.reduceEq, Int.reduceLT, Int.reduceLE, Int.reduceGT, Int.reduceGE]
      exact ⟨hf, hd⟩
    · simp only [RT, Nat.reduceLT, Nat.reduceBEq, Nat.reduceEqDiff, Nat.reduceAdd, Int.reduceEq, Int.reduceLT, Int.reduceLE, Int.reduceGT, Int.reduceGE]
      exact ⟨hf, hd⟩
  rintro n e B ⟨hf, h0, h1, done, last, rest, rv', rfl, h3, row, hsl, hl, hj, e1, e2⟩
  have ld := ldR row
  have hlen := fun B => hsl.len (P := Try.prog) Try.underlying44 B
  simp only [RT, Nat.reduceLT, Nat.reduceBEq, Nat.reduceEqDiff, Nat.reduceAdd, Int.reduceEq, Int.reduceLT, Int.reduceLE, Int.reduceGT, Int.reduceGE, h1, hld hf, fa, ld, hlen]
  refine contG_of (fun g => ?_) (fun g => ?_)
  rotate_left
  · simp only [RT, Nat.reduceLT, Nat.reduceBEq, Nat.reduceEqDiff, Nat.reduceAdd, Int.reduceEq, Int.reduceLT, Int.reduceLE, Int.reduceGT, Int.reduceGE, g]
    have : rest = [] := List.eq_nil_of_length_eq_zero (by omega)
    subst this
    rw [items_nil] at e1 e2
    refine ⟨hf, .inl rfl, .inl ⟨?_, _, by rw [e2]; exact row⟩⟩
    rw [e1, List.append_nil]; exact hj
  match rest, hsl, hl, e1, e2, hlen, g with
  | [], _, _, _, _, _, g => simp at g
  | t :: r, hsl, hl, e1, e2, hlen, g =>
    obtain ⟨b0, o0, x0, y0⟩ := byte_at hsl (hmB hf) (i := 0) rfl
    have x0 : evIndexAddr Try.prog 44 rv' (.int .i64 0) = some (.ptr b0 o0) := x0
    obtain ⟨w1, u1, u2⟩ := hsl.subFrom (P := Try.prog) (t := 44) (lo := 1) (kl := .i64) Try.underlying44 sz5 (by simp) B
    have u1 : evSlice Try.prog 44 rv' (some (.int .i64 1)) none none B = some w1 := u1
    have u2 : Slc eU8 m w1 r := u2
    obtain ⟨B1, s1, s2, s3⟩ := setRest row u2.one
    have hf1 := hf.thn (inS s2)
    have ld1 := ldR s3
    simp only [RT, Nat.reduceLT, Nat.reduceBEq, Nat.reduceEqDiff, Nat.reduceAdd, Int.reduceEq, Int.reduceLT, Int.reduceLE, Int.reduceGT, Int.reduceGE, g, h1, hld hf, fa, ld, x0, y0]
    rw [pl_115_3, run_plan_id (by rfl)]
    simp only [RT, Nat.reduceLT, Nat.reduceBEq, Nat.reduceEqDiff, Nat.reduceAdd, Int.reduceEq, Int.reduceLT, Int.reduceLE, Int.reduceGT, Int.reduceGE, h1, hld hf, fa, ld, x0, y0, u1, s1, h3]
    obtain ⟨B2, t1, t2, t3⟩ := setBad (n := 21) s3
    have hbadtag : (t.toNat ≤ last ∨ t.toNat > 9) → (Fr S A B2 ∧ ((J (items 0 s).1.length B2 ∧ rowR br (items 0 s).2 B2) ∨ ∃ i, i < (items 0 s).1.length ∧ D i B2)) := fun q => by
      rw [items_tag q] at e1 e2
      refine ⟨hf1.thn (inS t2), .inl ⟨?_, _, by rw [e2]; exact t3⟩⟩
      rw [e1, List.append_nil]; exact hJ _ _ _ (hJ _ _ _ hj s2) t2
    refine contG_of (fun g1 => ?_) (fun g1 => ?_)
    · simp only [RT, Nat.reduceLT, Nat.reduceBEq, Nat.reduceEqDiff, Nat.reduceAdd, Int.reduceEq, Int.reduceLT, Int.reduceLE, Int.reduceGT, Int.reduceGE, g1, h1, hld hf1, fa, t1]
      obtain ⟨q1, q2⟩ := hbadtag (.inl (by omega))
      exact ⟨q1, .inr rfl, q2⟩
    · simp only [RT, Nat.reduceLT, Nat.reduceBEq, Nat.reduceEqDiff, Nat.reduceAdd, Int.reduceEq, Int.reduceLT, Int.reduceLE, Int.reduceGT, Int.reduceGE, g1]
      refine condK_of (fun g2 => ?_) (fun g2 => ?_)
      · simp only [RT, Nat.reduceLT, Nat.reduceBEq, Nat.reduceEqDiff, Nat.reduceAdd, Int.reduceEq, Int.reduceLT, Int.reduceLE, Int.reduceGT, Int.reduceGE, h1, hld hf1, fa, t1]
        obtain ⟨q1, q2⟩ := hbadtag (.inr (by omega))
        exact ⟨q1, .inr rfl, q2⟩
      have hgood : ¬ (t.toNat ≤ last ∨ t.toNat > 9) := by omega
      simp only [RT, Nat.reduceLT, Nat.reduceBEq, Nat.reduceEqDiff, Nat.reduceAdd, Int.reduceEq, Int.reduceLT, Int.reduceLE, Int.reduceGT, Int.reduceGE, h1, hld hf1]
      obtain ⟨w, B3, k1, k2, k3⟩ := rrun_spec (hmB hf1) hmbr s3 u2 (by simp only [List.length_cons] at hl; omega)
      refine run_call1 k1 ?_
      have hf3 := hf1.thn (inS k2)
      have hj3 := hJ _ _ _ (hJ _ _ _ hj s2) k2
      rcases k3 with ⟨k3, rfl, k4⟩ | ⟨x, r', rv3, k3, k4, k5, k6⟩
      · have ld3 := ldR k4
        simp only [RT, Nat.reduceLT, Nat.reduceBEq, Nat.reduceEqDiff, Nat.reduceAdd, Int.reduceEq, Int.reduceLT, Int.reduceLE, Int.reduceGT, Int.reduceGE, h1, hld hf3, fa, ld3]
        rw [items_short hgood k3] at e1 e2
        refine ⟨hf3, .inr rfl, .inl ⟨?_, _, by rw [e2]; exact k4⟩⟩
        rw [e1, List.append_nil]; exact hj3
      · have ld3 := ldR k5
        simp only [RT, Nat.reduceLT, Nat.reduceBEq, Nat.reduceEqDiff, Nat.reduceAdd, Int.reduceEq, Int.reduceLT, Int.reduceLE, Int.reduceGT, Int.reduceGE, h1, h0, hld hf3, fa, ld3]
        rw [items_more hgood k3] at e1 e2
        have hx := takeB_len k3
        have hat : (items 0 s).1[done.length]? = some (t.toNat, x) := by rw [e1]; simp
        obtain ⟨b, B4, y1, y2, y3, y4⟩ := hstep _ _ B3 _ hat hj3 hf3 ⟨_, k5⟩ ⟨w, rfl, k4, hx.2, by simp only []; omega, by simp only []; omega⟩
        refine ⟨_, B4, y1, ?_⟩
        simp only [RT, Nat.reduceLT, Nat.reduceBEq, Nat.reduceEqDiff, Nat.reduceAdd, Int.reduceEq, Int.reduceLT, Int.reduceLE, Int.reduceGT, Int.reduceGE]
        cases b with
        | true =>
          simp only [RT, Nat.reduceLT, Nat.reduceBEq, Nat.reduceEqDiff, Nat.reduceAdd, Int.reduceEq, Int.reduceLT, Int.reduceLE, Int.reduceGT, Int.reduceGE]
          obtain ⟨z1, z2⟩ := y3 rfl
          exact ⟨r'.length, by simp only [List.length_cons]; omega, hf3.thn y2, h0, h1, done ++ [(t.toNat, x)], t.toNat, r', rv3, rfl, rfl, by rw [z2 br rfl]; exact k5, k6, by simp only [List.length_cons] at hl; omega, by simpa using z1, by rw [e1]; simp, e2⟩
        | false =>
          simp only [RT, Nat.reduceLT, Nat.reduceBEq, Nat.reduceEqDiff, Nat.reduceAdd, Int.reduceEq, Int.reduceLT, Int.reduceLE, Int.reduceGT, Int.reduceGE]
          exact ⟨hf3.thn y2, .inr rfl, .inr ⟨_, (List.getElem?_eq_some_iff.1 hat).1, y4 rfl⟩⟩
end Go.Sv.Try
namespace Go.Sv.Try
open Go Go.Proofs
set_option linter.unusedVariables false
set_option linter.unusedSimpArgs false
abbrev mcZ : List V := mc (msg0 0) .snil .snil .snil
theorem zcM : (zeroT Try.prog 70).bind V.cells = some mcZ := by kernel_rfl
theorem bldM0 : evBuild Try.prog 70 [] = some (.agg mcZ) := by kernel_rfl
theorem bldMk (k : Int) : evBuild Try.prog 70 [(0, .int .i64 k)] = some (.agg (mc (msg0 k) .snil .snil .snil)) := by kernel_rfl
theorem bldR_nil : evBuild Try.prog 178 [(0, .snil)] = some (.agg [.snil, .int .i64 0]) := by kernel_rfl
theorem bldR_sl (b o n z : Nat) : evBuild Try.prog 178 [(0, .sl b o n z)] = some (.agg [.sl b o n z, .int .i64 0]) := by kernel_rfl
theorem bldR {v : V} (h : v = .snil ∨ ∃ b o n z, v = .sl b o n z) : evBuild Try.prog 178 [(0, v)] = some (.agg [v, .int .i64 0]) := by
  rcases h with rfl | ⟨b, o, n, z, rfl⟩
  · exact bldR_nil
  · exact bldR_sl b o n z
abbrev ptrs (b : Nat) : List V := [.ptr b 1, .ptr b 2, .ptr b 3, .ptr b 4, .ptr b 5]
theorem bldPt (b : Nat) : evBuild Try.prog 180 [(0, .ptr b 1), (1, .ptr b 2), (2, .ptr b 3), (3, .ptr b 4), (4, .ptr b 5)] = some (.agg (ptrs b)) := by kernel_rfl
theorem bsl0 : bsl Try.prog 44 0 (some []) = some (.newSl [] 0 1) := by kernel_rfl
theorem bslV_nil : bsl Try.prog 22 1 (some [(0, .snil)]) = some (.newSl [.snil] 1 1) := by kernel_rfl
theorem bslV_sl (b o n z : Nat) : bsl Try.prog 22 1 (some [(0, .sl b o n z)]) = some (.newSl [.sl b o n z] 1 1) := by kernel_rfl
theorem bslV {v : V} (h : v = .snil ∨ ∃ b o n z, v = .sl b o n z) : bsl Try.prog 22 1 (some [(0, v)]) = some (.newSl [v] 1 1) := by
  rcases h with rfl | ⟨b, o, n, z, rfl⟩
  · exact bslV_nil
  · exact bslV_sl b o n z
theorem bslI {y : Bts} (h : y.length = 32) : bsl Try.prog 36 1 (some [(0, .agg (bc y))]) = some (.newSl (bc y) 1 32) :=
  bsl_one Try.underlying36 sz32 zcI rfl (by rw [bc_len, h]) (by decide)
theorem msgIn0 {m : Hp} {k : Int} : MsgIn m (msg0 k) .snil .snil .snil := ⟨rfl, .inl ⟨rfl, rfl⟩, .inl ⟨rfl, rfl⟩, .inl ⟨rfl, rfl⟩⟩
theorem mc_num {x : M} {dv iv lv : V} {t : Nat} (h1 : 1 ≤ t) (h2 : t < 6) (n : Int) : putAt (mc x dv iv lv) t [.int .i64 n] = mc (setNum x t n) dv iv lv := by
  match t, h1, h2 with
  | 1, _, _ => rfl
  | 2, _, _ => rfl
  | 3, _, _ => rfl
  | 4, _, _ => rfl
  | 5, _, _ => rfl
theorem mc_id {x : M} {dv iv lv : V} {y : Bts} (hx : x.id.length = 32) (hy : y.length = 32) : putAt (mc x dv iv lv) 6 (bc y) = mc { x with id := y } dv iv lv := by
  unfold putAt mc
  rw [bc_len, hy]
  show _ ++ _ ++ List.drop 32 (bc x.id ++ [dv, iv, lv]) = _
  rw [List.drop_left' (by rw [bc_len, hx])]
  simp
theorem mc_tail {x : M} {dv iv lv : V} (hx : x.id.length = 32) (j : Nat) (hj : j < 3) (w : V) : putAt (mc x dv iv lv) (38 + j) [w] = (.int .i64 x.kind :: .int .i64 x.who :: .int .i64 x.height :: .int .i64 x.round :: .int .i64 x.valid :: .int .i64 x.num :: (bc x.id ++ putAt [dv, iv, lv] j [w])) := by
  have e : (bc x.id).length = 32 := by rw [bc_len, hx]
  unfold putAt mc
  rw [show 38 + j = (32 + j) + 6 by omega]
  simp only [List.length_singleton]
  rw [show 32 + j + 6 + 1 = (32 + (j + 1)) + 6 by omega]
  simp only [List.take_succ_cons, List.drop_succ_cons, List.cons_append]
  rw [List.take_append, List.drop_append, e, List.take_of_length_le (by rw [e]; omega), List.drop_eq_nil_of_le (by rw [e]; omega), show 32 + j - 32 = j by omega, show 32 + (j + 1) - 32 = j + 1 by omega]
  simp
theorem mc_data {x : M} {dv iv lv w : V} (hx : x.id.length = 32) (y : Bts) : putAt (mc x dv iv lv) 38 [w] = mc { x with data := y } w iv lv := by rw [mc_tail hx 0 (by decide)]; rfl
theorem mc_ids {x : M} {dv iv lv w : V} (hx : x.id.length = 32) (y : List Bts) : putAt (mc x dv iv lv) 39 [w] = mc { x with ids := y } dv w lv := by rw [mc_tail hx 1 (by decide)]; rfl
theorem mc_list {x : M} {dv iv lv w : V} (hx : x.id.length = 32) (y : List Bts) : putAt (mc x dv iv lv) 40 [w] = mc { x with list := y } dv iv w := by rw [mc_tail hx 2 (by decide)]; rfl
theorem setNum_id (x : M) (t : Nat) (n : Int) : (setNum x t n).id = x.id ∧ (setNum x t n).data = x.data ∧ (setNum x t n).ids = x.ids ∧ (setNum x t n).list = x.list := by
  unfold setNum; split <;> exact ⟨rfl, rfl, rfl, rfl⟩
def cellsAllB (l : List Bts) : List V := l.flatMap bc
theorem cellsAllB_at {l : List Bts} (h : ∀ b ∈ l, b.length = 32) : ∀ (i : Nat) x, l[i]? = some x → ((cellsAllB l).drop (i * 32)).take 32 = bc x := by
  induction l with
  | nil => intro i x q; simp at q
  | cons y l ih =>
    intro i x q
    have hy : (bc y).length = 32 := by rw [bc_len]; exact h y (by simp)
    unfold cellsAllB
    rw [List.flatMap_cons]
    cases i with
    | zero => simp at q; subst q; rw [Nat.zero_mul, List.drop_zero, List.take_left' hy]
    | succ i =>
      have := ih (fun b hb => h b (by simp [hb])) i x (by simpa using q)
      rw [show (i + 1) * 32 = (bc y).length + i * 32 by rw [hy]; omega, List.drop_append, List.drop_eq_nil_of_le (by omega), List.nil_append, show (bc y).length + i * 32 - (bc y).length = i * 32 by omega]
      exact this
theorem setM {A : AS} {b o : Nat} {x : M} {dv iv lv : V} {t : TypeId} {w : V} {cs : List V} (h : A.blk[b]? = some ⟨mc x dv iv lv, .var⟩) (hx : x.id.length = 32) (hw : w.cells = some cs) (hs : szT Try.prog t = some cs.length) (ho : o + cs.length ≤ 41) (h1 : cs.all V.one = true) :
    ∃ A', evStore Try.prog t (.ptr b o) w A = some A' ∧ Fr (· = .row b) A A' ∧ A'.blk[b]? = some ⟨putAt (mc x dv iv lv) o cs, .var⟩ := by
  obtain ⟨A', h1, h2, h3, _⟩ := store_var (P := Try.prog) (t := t) (o := o) (x := w) h hw hs (by rw [mc_len hx]; exact ho) h1
  exact ⟨A', h1, h2, h3⟩
theorem s2ap_load {m : Hp} {A : AS} {v : V} {l : Bts} (h : Slc eU8 m v l) (hm : m.on A) (hl : l.length = 32) : ∃ b o, evS2ap Try.prog 32 v = some (.ptr b o) ∧ evLoad Try.prog 32 (.ptr b o) A = some (.agg (bc l)) := by
  rcases h.bytes with ⟨rfl, rfl⟩ | ⟨b, o, cs, rfl, h2, h3, h4⟩
  · simp at hl
  · refine ⟨b, o, ?_, ?_⟩
    · rw [hl]
      unfold evS2ap
      simp only [Try.underlying32]
      rfl
    · rw [load_agg ag32 sz32, hm.range h2 (by omega)]
      rw [hl] at h4
      rw [h4]; rfl
structure CB (N b2 b5 b6 br bm : Nat) (m : Hp) (B : AS) : Prop where
  r2 : B.blk[b2]? = some ⟨mcZ, .var⟩
  r5 : B.blk[b5]? = some ⟨[.ptr br 0], .var⟩
  r6 : B.blk[b6]? = some ⟨ptrs bm, .var⟩
  on : m.on B
  wf : WF B
  len : N ≤ B.blk.length
theorem CB.fr {N b2 b5 b6 br bm : Nat} {m : Hp} {S : Loc → Prop} {B C : AS} (h : CB N b2 b5 b6 br bm m B) (hf : Fr S B C) (h1 : ∀ b, S (.row b) → b ≠ b2 ∧ b ≠ b5 ∧ b ≠ b6 ∧ m b = none) : CB N b2 b5 b6 br bm m C :=
  ⟨hf.row _ _ h.r2 fun q => (h1 _ q).1 rfl, hf.row _ _ h.r5 fun q => (h1 _ q).2.1 rfl, hf.row _ _ h.r6 fun q => (h1 _ q).2.2.1 rfl, h.on.fr hf fun b q => (h1 b q).2.2.2, hf.wf h.wf, by have := hf.len; have := h.len; omega⟩
def RdJ (N bm br : Nat) (k : Int) (xs : List (Nat × Bts)) (i : Nat) (B : AS) : Prop := ∃ (M : Go.Sv.M) (dv iv lv : V), B.blk[bm]? = some ⟨mc M dv iv lv, .var⟩ ∧ (∃ cs, B.blk[br]? = some ⟨cs, .var⟩) ∧ putAll (msg0 k) (xs.take i) = .ok M ∧ MsgIn (arrHq N B) M dv iv lv ∧
  ∀ f, xs[i]? = some f → (f.1 ≤ 8 → iv = .snil ∧ M.ids = []) ∧ lv = .snil ∧ M.list = []
def RdE (N bm br : Nat) (k : Int) (s : Bts) (B : AS) : Prop := (∃ rv c, c ≠ 0 ∧ B.blk[br]? = some ⟨[rv, .int .i64 c], .var⟩ ∧ restM (msg0 k) 0 s = .error c ∧ ∃ (M : Go.Sv.M) (dv iv lv : V), B.blk[bm]? = some ⟨mc M dv iv lv, .var⟩ ∧ M.id.length = 32) ∨
  ∃ (rv : V) (M : Go.Sv.M) (dv iv lv : V), B.blk[br]? = some ⟨[rv, .int .i64 0], .var⟩ ∧ restM (msg0 k) 0 s = .ok M ∧ B.blk[bm]? = some ⟨mc M dv iv lv, .var⟩ ∧ MsgIn (arrHq N B) M dv iv lv
theorem RdJ.fr {N bm br : Nat} {k : Int} {xs : List (Nat × Bts)} {i : Nat} {S : Loc → Prop} {B C : AS} (h : RdJ N bm br k xs i B) (hf : Fr S B C) (h1 : ∀ b, S (.row b) → b = br) (hne : bm ≠ br) : RdJ N bm br k xs i C := by
  obtain ⟨M, dv, iv, lv, q1, ⟨cs, q2⟩, q3, q4, q5⟩ := h
  obtain ⟨cs', z1, _⟩ := hf.kind br _ q2
  exact ⟨M, dv, iv, lv, hf.row _ _ q1 fun z => hne (h1 _ z), ⟨cs', z1⟩, q3, q4.mono (arrHq_le hf fun b z => by rw [h1 b z]; exact arrHq_var q2), q5⟩
theorem RdE.fr {N bm br : Nat} {k : Int} {s : Bts} {S : Loc → Prop} {B C : AS} (h : RdE N bm br k s B) (hf : Fr S B C) (h1 : ∀ b, ¬ S (.row b)) : RdE N bm br k s C := by
  rcases h with ⟨rv, c, q1, q2, q3, M, dv, iv, lv, q4, q5⟩ | ⟨rv, M, dv, iv, lv, q1, q2, q3, q4⟩
  · exact .inl ⟨rv, c, q1, hf.row _ _ q2 (h1 _), q3, M, dv, iv, lv, hf.row _ _ q4 (h1 _), q5⟩
  · exact .inr ⟨rv, M, dv, iv, lv, hf.row _ _ q1 (h1 _), q2, hf.row _ _ q3 (h1 _), q4.mono (arrHq_le hf fun b z => absurd z (h1 b))⟩
theorem RdJ.step {N bm br : Nat} {k : Int} {s : Bts} {i : Nat} {f : Nat × Bts} {C : AS} {M M' : Go.Sv.M} {iv lv dv' iv' lv' : V} (hi : (items 0 s).1[i]? = some f) (h3 : putAll (msg0 k) ((items 0 s).1.take i) = .ok M)
    (h5 : (f.1 ≤ 8 → iv = .snil ∧ M.ids = []) ∧ lv = .snil ∧ M.list = []) (hp : putM M f.1 f.2 = .ok M') (hc : C.blk[bm]? = some ⟨mc M' dv' iv' lv', .var⟩) (hbr : ∃ cs, C.blk[br]? = some ⟨cs, .var⟩) (hM : MsgIn (arrHq N C) M' dv' iv' lv')
    (hiv : f.1 < 8 → iv' = iv ∧ M'.ids = M.ids) (hlv : f.1 < 9 → lv' = lv ∧ M'.list = M.list) : RdJ N bm br k (items 0 s).1 (i + 1) C := by
  refine ⟨M', dv', iv', lv', hc, hbr, putAll_snoc h3 hi hp, hM, fun g hg => ?_⟩
  have h1 := items_rise s.length s 0 i f g (Nat.le_refl _) hi hg
  have h2 := items_gt s.length s 0 (Nat.le_refl _) g (List.mem_of_getElem? hg)
  refine ⟨fun q => ?_, ?_⟩
  · obtain ⟨z1, z2⟩ := hiv (by omega)
    obtain ⟨z3, z4⟩ := h5.1 (by omega)
    exact ⟨z1.trans z3, z2.trans z4⟩
  · obtain ⟨z1, z2⟩ := hlv (by omega)
    exact ⟨z1.trans h5.2.1, z2.trans h5.2.2⟩
end Go.Sv.Try
namespace Go.Sv.Try
open Go Go.Proofs
set_option linter.unusedVariables false
set_option linter.unusedSimpArgs false
def RdOutN (N : Nat) (b : Bts) (w : V) (B : AS) : Prop := ∃ dv iv lv, w = .tup [.agg (mc (readMsg b) dv iv lv), .int .i64 (readErr b)] ∧ MsgIn (arrHq N B) (readMsg b) dv iv lv
def RdOut (b : Bts) (w : V) (B : AS) : Prop := ∃ dv iv lv, w = .tup [.agg (mc (readMsg b) dv iv lv), .int .i64 (readErr b)] ∧ MsgIn (arrHp B) (readMsg b) dv iv lv
theorem rdOutN_bad {N : Nat} {b : Bts} {e : Int} {B : AS} (h : readM b = .error e) : RdOutN N b (.tup [.agg mcZ, .int .i64 e]) B := by
  refine ⟨.snil, .snil, .snil, ?_, ?_⟩
  · unfold readMsg readErr; rw [h]
  · unfold readMsg; rw [h]; exact msgIn0
theorem rdOutN_ok {N : Nat} {b : Bts} {x : M} {dv iv lv : V} {B : AS} (h : readM b = .ok x) (hm : MsgIn (arrHq N B) x dv iv lv) : RdOutN N b (.tup [.agg (mc x dv iv lv), .int .i64 0]) B := by
  refine ⟨dv, iv, lv, ?_, ?_⟩
  · unfold readMsg readErr; rw [h]
  · unfold readMsg; rw [h]; exact hm
set_option maxRecDepth 10000 in
set_option maxHeartbeats 32000000 in
theorem read_specN {m : Hp} {A : AS} {v : V} {b : Bts} (hw : WF A) (hm : m.on A) (h : Slc eU8 m v b) (hb : b.length ≤ 1000000000000) :
    ∃ w A', EvF Try.prog HH 73 [v] A w A' ∧ Fr S0 A A' ∧ RdOutN A.blk.length b w A' := by
  refine run_fn2 rfl Try.func73 (by unfold Try.f73; rfl) Try.ntmps73 (by unfold Try.f73; rfl) (by simp) ?_
  have hlen := fun B => h.len (P := Try.prog) Try.underlying44 B
  simp only [RT, Nat.reduceLT, Nat.reduceBEq, Nat.reduceEqDiff, Nat.reduceAdd, Int.reduceEq, Int.reduceLT, Int.reduceLE, Int.reduceGT, Int.reduceGE, zcM]
  obtain ⟨A1, e1, f1, r1, n1⟩ := new_var A mcZ
  rw [← e1]
  have zid : (msg0 0).id.length = 32 := rfl
  obtain ⟨A2, s1, s2, s3⟩ := setM (o := 0) (t := 70) (w := .agg mcZ) (cs := mcZ) r1 zid rfl sz70 (by decide) rfl
  rw [putAt_all rfl] at s3
  have f2 : Fr S0 A A2 := f1.row_ s2 (Nat.le_refl _)
  have ld2 := (ldM s3 zid).2.2.2.2.2.2.2.2.2.2
  simp only [RT, Nat.reduceLT, Nat.reduceBEq, Nat.reduceEqDiff, Nat.reduceAdd, Int.reduceEq, Int.reduceLT, Int.reduceLE, Int.reduceGT, Int.reduceGE, hlen]
  refine condK_of (fun g => ?_) (fun g => ?_)
  · simp only [RT, Nat.reduceLT, Nat.reduceBEq, Nat.reduceEqDiff, Nat.reduceAdd, Int.reduceEq, Int.reduceLT, Int.reduceLE, Int.reduceGT, Int.reduceGE, bldM0, s1, ld2]
    have : b = [] := List.eq_nil_of_length_eq_zero (by omega)
    subst this
    exact ⟨f2, rdOutN_bad rfl⟩
  match b, h, hb, hlen, g with
  | [], _, _, _, g => simp at g
  | kk :: s, h, hb, hlen, _ =>
    simp only [List.length_cons] at hb
    have hk := kk.toNat_lt
    obtain ⟨b0, o0, x0, y0⟩ := byte_at h (hm.fr0 f1) (i := 0) rfl
    have x0 : evIndexAddr Try.prog 44 v (.int .i64 0) = some (.ptr b0 o0) := x0
    simp only [RT, Nat.reduceLT, Nat.reduceBEq, Nat.reduceEqDiff, Nat.reduceAdd, Int.reduceEq, Int.reduceLT, Int.reduceLE, Int.reduceGT, Int.reduceGE, x0, y0]
    refine contG_of (fun g1 => ?_) (fun g1 => ?_)
    · simp only [RT, Nat.reduceLT, Nat.reduceBEq, Nat.reduceEqDiff, Nat.reduceAdd, Int.reduceEq, Int.reduceLT, Int.reduceLE, Int.reduceGT, Int.reduceGE, g1, bldM0, s1, ld2]
      exact ⟨f2, rdOutN_bad (by unfold readM; simp only []; rw [if_pos (.inl (by omega))])⟩
    simp only [RT, Nat.reduceLT, Nat.reduceBEq, Nat.reduceEqDiff, Nat.reduceAdd, Int.reduceEq, Int.reduceLT, Int.reduceLE, Int.reduceGT, Int.reduceGE, g1, x0, y0]
    refine condK_of (fun g2 => ?_) (fun g2 => ?_)
    · simp only [RT, Nat.reduceLT, Nat.reduceBEq, Nat.reduceEqDiff, Nat.reduceAdd, Int.reduceEq, Int.reduceLT, Int.reduceLE, Int.reduceGT, Int.reduceGE, bldM0, s1, ld2]
      exact ⟨f2, rdOutN_bad (by unfold readM; simp only []; rw [if_pos (.inr (by omega))])⟩
    have hread : readM (kk :: s) = match restM (msg0 kk.toNat) 0 s with | .error e => .error e | .ok m => if checkM m ≠ 0 then .error (checkM m) else .ok m := by
      conv => lhs; unfold readM
      simp only []
      rw [if_neg (by omega)]
      try (cases restM (msg0 kk.toNat) 0 s <;> rfl)
    clear s1 s2 s3 f2 ld2 g1 g2 A2
    simp only [RT, Nat.reduceLT, Nat.reduceBEq, Nat.reduceEqDiff, Nat.reduceAdd, Int.reduceEq, Int.reduceLT, Int.reduceLE, Int.reduceGT, Int.reduceGE, x0, y0, cnv83, bldMk, zcM]
    obtain ⟨A2, s1, s2, s3, s4⟩ := new_set (P := Try.prog) A1 (z := mcZ) (t := 70) (x := .agg (mc (msg0 kk.toNat) .snil .snil .snil)) (cs := mc (msg0 kk.toNat) .snil .snil .snil) rfl sz70 rfl rfl
    obtain ⟨w1, u1, u2⟩ := h.subFrom (P := Try.prog) (t := 44) (lo := 1) (kl := .i64) Try.underlying44 sz5 (by simp) A2
    have u1 : evSlice Try.prog 44 v (some (.int .i64 1)) none none A2 = some w1 := u1
    have u2 : Slc eU8 m w1 s := u2
    simp only [RT, Nat.reduceLT, Nat.reduceBEq, Nat.reduceEqDiff, Nat.reduceAdd, Int.reduceEq, Int.reduceLT, Int.reduceLE, Int.reduceGT, Int.reduceGE, s1, u1, bldR u2.form, zc176]
    obtain ⟨A3, e3, f3, r3, n3⟩ := new_var A2 [w1, .int .i64 0]
    rw [← e3]
    obtain ⟨A4, t1, t2, t3, t4⟩ := new_set (P := Try.prog) A3 (z := [.pnil]) (t := 176) (x := .ptr A2.blk.length 0) (cs := [.ptr A2.blk.length 0]) rfl sz176 rfl rfl
    have fa := faM A1.blk.length
    simp only [RT, Nat.reduceLT, Nat.reduceBEq, Nat.reduceEqDiff, Nat.reduceAdd, Int.reduceEq, Int.reduceLT, Int.reduceLE, Int.reduceGT, Int.reduceGE, t1, fa, bldPt, zc180]
    obtain ⟨A5, p1, p2, p3, p4⟩ := new_set (P := Try.prog) A4 (z := [.pnil, .pnil, .pnil, .pnil, .pnil]) (t := 180) (x := .agg (ptrs A1.blk.length)) (cs := ptrs A1.blk.length) rfl sz180 rfl rfl
    have ldp := load_one (P := Try.prog) ag176 (p2.row0 t3)
    simp only [RT, Nat.reduceLT, Nat.reduceBEq, Nat.reduceEqDiff, Nat.reduceAdd, Int.reduceEq, Int.reduceLT, Int.reduceLE, Int.reduceGT, Int.reduceGE, p1, ldp]
    obtain ⟨_, A6, q1, rfl, q2, q3⟩ := all_spec (A := A5) (br := A2.blk.length)
    refine run_call1 q1 ?_
    obtain ⟨b2, hb2⟩ : ∃ x, x = A.blk.length := ⟨_, rfl⟩
    obtain ⟨bm, hbm⟩ : ∃ x, x = A1.blk.length := ⟨_, rfl⟩
    obtain ⟨br, hbr⟩ : ∃ x, x = A2.blk.length := ⟨_, rfl⟩
    obtain ⟨b5, hb5⟩ : ∃ x, x = A3.blk.length := ⟨_, rfl⟩
    obtain ⟨b6, hb6⟩ : ∃ x, x = A4.blk.length := ⟨_, rfl⟩
    obtain ⟨bx, hbx⟩ : ∃ x, x = A5.blk.length := ⟨_, rfl⟩
    have fA6 : Fr S0 A A6 := ((((f1.then0 s2).then0 f3).then0 t2).then0 p2).then0 q2
    have fm : ∀ {B}, Fr S0 A B → ∀ b, A.blk.length ≤ b → m b = none := fun _ b hb => hm.fresh hb
    have hno : ∀ b, A.blk.length ≤ b → m b = none := fun b hb => hm.fresh hb
    have cb : CB A.blk.length b2 b5 b6 br bm m A6 := by
      subst hb2 hbm hbr hb5 hb6
      exact ⟨q2.row0 (p2.row0 (t2.row0 (f3.row0 (s2.row0 r1)))), q2.row0 (p2.row0 t3), q2.row0 p3, hm.fr0 fA6, fA6.wf hw, fA6.len⟩
    have rbm : A6.blk[bm]? = some ⟨mc (msg0 kk.toNat) .snil .snil .snil, .var⟩ := by subst hbm; exact q2.row0 (p2.row0 (t2.row0 (f3.row0 s3)))
    have rbr : A6.blk[br]? = some ⟨[w1, .int .i64 0], .var⟩ := by subst hbr; exact q2.row0 (p2.row0 (t2.row0 r3))
    have rbx : A6.blk[bx]? = some ⟨[.ptr br 0], .var⟩ := by subst hbx hbr; exact q3
    rw [← hb2, ← hbm, ← hbr, ← hb5, ← hb6, ← hbx]
    have o1 : b2 < bm ∧ bm < br ∧ br < b5 ∧ b5 < b6 ∧ b6 < bx := by omega
    have hN : A.blk.length = b2 := hb2.symm
    rw [hN] at hno cb
    clear q1 p1 t1 s1 u1 e3 e1 q3 p3 t3 r3 s3 fa ldp s4 t4 p4 n1 n3 x0 y0 hb2 hbm hbr hb5 hb6 hbx r1 f1 s2 f3 t2 p2 q2 fm
    simp only [RT, Nat.reduceLT, Nat.reduceBEq, Nat.reduceEqDiff, Nat.reduceAdd, Int.reduceEq, Int.reduceLT, Int.reduceLE, Int.reduceGT, Int.reduceGE]
    have hmul : ∀ (x : Nat), x ≤ 9 → x = x := fun _ _ => rfl
    refine run_gen_k (S := fun l => l = .row bm ∨ l = .row br ∨ famsFrom b2 l) (T := (· = .row br)) (K := (· = br)) (Pre := rowR br 0) (Fin := rowR br (items 0 s).2) (AR := argI m) (xs := (items 0 s).1)
      (fun i B => CB b2 b2 b5 b6 br bm m B ∧ RdJ b2 bm br kk.toNat (items 0 s).1 i B) (fun B => CB b2 b2 b5 b6 br bm m B ∧ RdE b2 bm br kk.toNat s B)
      rfl (fun q => by rcases q with q | q | q <;> cases q) (fun q => by cases q) ?_ ⟨cb, _, _, _, _, rbm, ⟨_, rbr⟩, rfl, msgIn0, fun f hf => ⟨fun _ => ⟨rfl, rfl⟩, rfl, rfl⟩⟩ ?_ ?_
      Try.func73 Try.ntmps73 (by simp) ?_ ?_ ?_
    · intro A0 hf0
      refine all1_goes (cb.on.fr0 hf0) ?_ (.inl (.inr (.inl rfl))) (hf0.row0 rbx) (hf0.row0 rbr) u2 (by omega)
      rintro b ((q | q | q) | q)
      · cases q; exact ⟨hno _ (by omega), by omega⟩
      · cases q; exact ⟨hno _ (by omega), by omega⟩
      · exact q.elim
      · cases q
    · rintro i B C ⟨c1, c2⟩ hf
      refine ⟨c1.fr hf ?_, c2.fr hf ?_ (by omega)⟩
      · rintro b (q | q) <;> cases q
        exact ⟨by omega, by omega, by omega, hno _ (by omega)⟩
      · rintro b (q | q) <;> cases q
        rfl
    · rintro B C ⟨c1, c2⟩ hf
      exact ⟨c1.fr hf (fun b q => by cases q), c2.fr hf (fun b q => by cases q)⟩
    ·
      rintro i f B args hi ⟨c1, M, dv, iv, lv, j1, _, j2, j3, j4⟩ hfB ⟨rv, rrow⟩ ⟨xv, rfl, hx, hxl, ht1, ht9⟩
      obtain ⟨t, x⟩ := f
      simp only [] at hx hxl ht1 ht9
      have j4 := j4 _ hi
      simp only [] at j4
      refine ⟨_, rfl, ?_⟩
      simp only [RT, Nat.reduceLT, Nat.reduceBEq, Nat.reduceEqDiff, Nat.reduceAdd, Int.reduceEq, Int.reduceLT, Int.reduceLE, Int.reduceGT, Int.reduceGE]
      refine ⟨rfl, .refl _ B, fun B1 hB1 => ?_⟩
      have c1 : CB b2 b2 b5 b6 br bm m B1 := c1.fr hB1 (fun b q => by cases q)
      have j1 := hB1.loop_row j1
      have rrow1 := hB1.loop_row rrow
      have j3 : MsgIn (arrHq b2 B1) M dv iv lv := j3.mono (arrHq_le (N := b2) hB1 (fun b q => by cases q))
      have hkeep : B1.blk[br]? = B.blk[br]? := by rw [rrow1, rrow]
      have xlen := fun B => hx.len (P := Try.prog) Try.underlying44 B
      have ld5 : ∀ {C}, CB b2 b2 b5 b6 br bm m C → evLoad Try.prog 176 (.ptr b5 0) C = some (.ptr br 0) := fun q => load_one ag176 q.r5
      have fr := faR br
      have fail : ∀ {C : AS} {rv' : V} {c n : Int} {M' : Go.Sv.M} {dv' iv' lv' : V}, CB b2 b2 b5 b6 br bm m C → C.blk[br]? = some ⟨[rv', .int .i64 c], .var⟩ → C.blk[bm]? = some ⟨mc M' dv' iv' lv', .var⟩ → M'.id.length = 32 → putM M t x = .error n → n ≠ 0 →
          ∃ C', evStore Try.prog 45 (.ptr br 1) (.int .i64 n) C = some C' ∧ Fr (· = .row br) C C' ∧ CB b2 b2 b5 b6 br bm m C' ∧ RdE b2 bm br kk.toNat s C' := by
        intro C rv' c n M' dv' iv' lv' z1 z2 z3 z4 z5 z6
        obtain ⟨C', y1, y2, y3⟩ := setBad (n := n) z2
        exact ⟨C', y1, y2, z1.fr y2 (by rintro b q; cases q; exact ⟨by omega, by omega, by omega, hno _ (by omega)⟩), .inl ⟨_, n, z6, y3, restM_of_bad j2 hi z5, M', dv', iv', lv', y2.rowNe z3 (by omega), z4⟩⟩
      have inBr : ∀ {C D : AS}, Fr (· = .row br) C D → Fr (fun l => l = .row bm ∨ l = .row br ∨ famsFrom b2 l) C D := fun q => q.mono fun _ z => .inr (.inl z)
      have inBm : ∀ {C D : AS}, Fr (· = .row bm) C D → Fr (fun l => l = .row bm ∨ l = .row br ∨ famsFrom b2 l) C D := fun q => q.mono fun _ z => .inl z
      have inFam : ∀ {C D : AS}, Fr (famsFrom b2) C D → Fr (fun l => l = .row bm ∨ l = .row br ∨ famsFrom b2 l) C D := fun q => q.mono fun _ z => .inr (.inr z)
      have cbm : ∀ {C D : AS}, CB b2 b2 b5 b6 br bm m C → Fr (· = .row bm) C D → CB b2 b2 b5 b6 br bm m D := fun q z => q.fr z (by rintro b q; cases q; exact ⟨by omega, by omega, by omega, hno _ (by omega)⟩)
      have famM : Fr (fun l => l = .row bm ∨ l = .row br ∨ famsFrom b2 l) B1 B1 := .refl _ _
      have hid := j3.id
      have faB := faM bm
      have ldm := ldM j1 hid
      simp only [RT, Nat.reduceLT, Nat.reduceBEq, Nat.reduceEqDiff, Nat.reduceAdd, Int.reduceEq, Int.reduceLT, Int.reduceLE, Int.reduceGT, Int.reduceGE, xlen]
      refine condK_of (fun g => ?_) (fun g => ?_)
      · have hx0 : x = [] := List.eq_nil_of_length_eq_zero (by omega)
        have hp : putM M t x = .error 23 := by unfold putM; rw [if_pos hx0]
        obtain ⟨C, k1, k2, k3, k4⟩ := fail c1 rrow1 j1 hid hp (by decide)
        simp only [RT, Nat.reduceLT, Nat.reduceBEq, Nat.reduceEqDiff, Nat.reduceAdd, Int.reduceEq, Int.reduceLT, Int.reduceLE, Int.reduceGT, Int.reduceGE, ld5 c1, fr, k1]
        exact ⟨inBr k2, .inr ⟨rfl, k3, k4⟩⟩
      have hx0 : x ≠ [] := fun q => g (by rw [q]; rfl)
      simp only [RT, Nat.reduceLT, Nat.reduceBEq, Nat.reduceEqDiff, Nat.reduceAdd, Int.reduceEq, Int.reduceLT, Int.reduceLE, Int.reduceGT, Int.reduceGE]
      refine condK_of (fun g1 => ?_) (fun g1 => ?_)
      ·
        have ht6 : t < 6 := by omega
        have hsub : IntKind.u8.wrap ((t : Int) - 1) = ((t - 1 : Nat) : Int) := by
          have : ((t : Int) - 1) = ((t - 1 : Nat) : Int) := by omega
          rw [this, u8wrap, UInt8.toNat_ofNat']
          omega
        have had : evIndexAddr Try.prog 180 (.ptr b6 0) (.int .u8 ((t - 1 : Nat) : Int)) = some (.ptr b6 (t - 1)) := by
          have := arr_addr (P := Try.prog) (t := 180) (b := b6) (o := 0) (k := .u8) (i := t - 1) Try.underlying180 sz179 (by omega)
          simpa using this
        have hptr : (ptrs bm)[t - 1]? = some (.ptr bm t) := by
          match t, ht1, ht6 with
          | 1, _, _ => rfl
          | 2, _, _ => rfl
          | 3, _, _ => rfl
          | 4, _, _ => rfl
          | 5, _, _ => rfl
        have ld6 : ∀ {C}, CB b2 b2 b5 b6 br bm m C → evLoad Try.prog 179 (.ptr b6 (t - 1)) C = some (.ptr bm t) := fun q => by rw [load_at ag179 q.r6, hptr]
        obtain ⟨w, C, k1, k2⟩ := rnumber_spec c1.on (hno br (by omega)) rrow1 hx hxl hx0
        simp only [RT, Nat.reduceLT, Nat.reduceBEq, Nat.reduceEqDiff, Nat.reduceAdd, Int.reduceEq, Int.reduceLT, Int.reduceLE, Int.reduceGT, Int.reduceGE]
        simp only [RT, Nat.reduceLT, Nat.reduceBEq, Nat.reduceEqDiff, Nat.reduceAdd, Int.reduceEq, Int.reduceLT, Int.reduceLE, Int.reduceGT, Int.reduceGE, pl_73_14, hsub, had, ld6 c1, ld5 c1, rc_nil]
        refine run_call1 k1 ?_
        rcases k2 with ⟨k2, k3, k4, n, rfl⟩ | ⟨n, k2, rfl, rfl⟩
        · have cC : CB b2 b2 b5 b6 br bm m C := c1.fr k3 (by rintro b q; cases q; exact ⟨by omega, by omega, by omega, hno _ (by omega)⟩)
          have j1C := k3.rowNe j1 (show bm ≠ br by omega)
          obtain ⟨C', y1, y2, y3⟩ := setM (o := t) (t := 3) (w := .int .i64 n) (cs := [.int .i64 n]) j1C hid rfl sz3 (by simp only [List.length_singleton]; omega) rfl
          rw [mc_num ht1 ht6] at y3
          have cC' := cbm cC y2
          have hp : putM M t x = .error 23 := by unfold putM; rw [if_neg hx0, if_pos ht6, k2]
          have row' := y2.rowNe k4 (show br ≠ bm by omega)
          have ldr' := ldR row'
          simp only [RT, Nat.reduceLT, Nat.reduceBEq, Nat.reduceEqDiff, Nat.reduceAdd, Int.reduceEq, Int.reduceLT, Int.reduceLE, Int.reduceGT, Int.reduceGE, rc_nil]
          refine ⟨rc_load (ha := rfl) rfl (ld6 cC) rfl rc_nil, ?_⟩
          simp only [RT, Nat.reduceLT, Nat.reduceBEq, Nat.reduceEqDiff, Nat.reduceAdd, Int.reduceEq, Int.reduceLT, Int.reduceLE, Int.reduceGT, Int.reduceGE, y1, rc_nil, ld5 cC', fr, ldr']
          exact ⟨(inBr k3).thn (inBm y2), .inr ⟨rfl, cC', .inl ⟨_, 23, by decide, row', restM_of_bad j2 hi hp, _, _, _, _, y3, by rw [(setNum_id M t n).1]; exact hid⟩⟩⟩
        · obtain ⟨C', y1, y2, y3⟩ := setM (o := t) (t := 3) (w := .int .i64 n) (cs := [.int .i64 n]) j1 hid rfl sz3 (by simp only [List.length_singleton]; omega) rfl
          rw [mc_num ht1 ht6] at y3
          have cC' := cbm c1 y2
          have hp : putM M t x = .ok (setNum M t n) := by unfold putM; rw [if_neg hx0, if_pos ht6, k2]
          have row' := y2.rowNe rrow1 (show br ≠ bm by omega)
          have ldr' := ldR row'
          obtain ⟨z1, z2, z3, z4⟩ := setNum_id M t n
          simp only [RT, Nat.reduceLT, Nat.reduceBEq, Nat.reduceEqDiff, Nat.reduceAdd, Int.reduceEq, Int.reduceLT, Int.reduceLE, Int.reduceGT, Int.reduceGE, rc_nil]
          refine ⟨rc_load (ha := rfl) rfl (ld6 c1) rfl rc_nil, ?_⟩
          simp only [RT, Nat.reduceLT, Nat.reduceBEq, Nat.reduceEqDiff, Nat.reduceAdd, Int.reduceEq, Int.reduceLT, Int.reduceLE, Int.reduceGT, Int.reduceGE, y1, rc_nil, ld5 cC', fr, ldr']
          have le := arrHq_le (N := b2) y2 (fun b q => by cases q; exact arrHq_var j1)
          refine ⟨inBm y2, .inl ⟨rfl, ⟨cC', RdJ.step hi j2 j4 hp y3 ⟨_, row'⟩ ⟨by rw [z1]; exact hid, by rw [z2]; exact j3.data.mono le, by rw [z3]; exact j3.ids.mono le, by rw [z4]; exact j3.list.mono le⟩ (fun _ => ⟨rfl, z3⟩) (fun _ => ⟨rfl, z4⟩)⟩, ?_⟩⟩
          rintro r rfl
          rw [row', rrow]
      simp only [RT, Nat.reduceLT, Nat.reduceBEq, Nat.reduceEqDiff, Nat.reduceAdd, Int.reduceEq, Int.reduceLT, Int.reduceLE, Int.reduceGT, Int.reduceGE]
      have ht6 : ¬ t < 6 := by omega
      refine condK_of (fun g2 => ?_) (fun g2 => ?_)
      ·
        have ht : t = 6 := by omega
        simp only [RT, Nat.reduceLT, Nat.reduceBEq, Nat.reduceEqDiff, Nat.reduceAdd, Int.reduceEq, Int.reduceLT, Int.reduceLE, Int.reduceGT, Int.reduceGE, xlen]
        refine contG_of (fun g3 => ?_) (fun g3 => ?_)
        · have hp : putM M t x = .error 23 := by unfold putM; rw [if_neg hx0, if_neg ht6, if_pos ht, if_pos (.inl (by omega))]
          obtain ⟨C, k1, k2, k3, k4⟩ := fail c1 rrow1 j1 hid hp (by decide)
          simp only [RT, Nat.reduceLT, Nat.reduceBEq, Nat.reduceEqDiff, Nat.reduceAdd, Int.reduceEq, Int.reduceLT, Int.reduceLE, Int.reduceGT, Int.reduceGE, g3, ld5 c1, fr, k1]
          exact ⟨inBr k2, .inr ⟨rfl, k3, k4⟩⟩
        have hxl32 : x.length = 32 := by omega
        obtain ⟨b7, o7, z1, z2⟩ := s2ap_load hx c1.on hxl32
        simp only [RT, Nat.reduceLT, Nat.reduceBEq, Nat.reduceEqDiff, Nat.reduceAdd, Int.reduceEq, Int.reduceLT, Int.reduceLE, Int.reduceGT, Int.reduceGE, g3, z1, z2, bldZ, eqI hxl32 (rfl : zero32.length = 32)]
        refine condK_of (fun g4 => ?_) (fun g4 => ?_)
        · have hp : putM M t x = .error 23 := by unfold putM; rw [if_neg hx0, if_neg ht6, if_pos ht, if_pos (.inr g4)]
          obtain ⟨C, k1, k2, k3, k4⟩ := fail c1 rrow1 j1 hid hp (by decide)
          simp only [RT, Nat.reduceLT, Nat.reduceBEq, Nat.reduceEqDiff, Nat.reduceAdd, Int.reduceEq, Int.reduceLT, Int.reduceLE, Int.reduceGT, Int.reduceGE, ld5 c1, fr, k1]
          exact ⟨inBr k2, .inr ⟨rfl, k3, k4⟩⟩
        · have hp : putM M t x = .ok { M with id := x } := by
            unfold putM; rw [if_neg hx0, if_neg ht6, if_pos ht, if_neg]
            rintro (q | q)
            · exact q hxl32
            · exact g4 q
          obtain ⟨C', y1, y2, y3⟩ := setM (o := 6) (t := 32) (w := .agg (bc x)) (cs := bc x) j1 hid rfl (by rw [bc_len, hxl32]; exact sz32) (by rw [bc_len, hxl32]; decide) (bc_one x)
          rw [mc_id hid hxl32] at y3
          have cC' := cbm c1 y2
          have row' := y2.rowNe rrow1 (show br ≠ bm by omega)
          have ldr' := ldR row'
          simp only [RT, Nat.reduceLT, Nat.reduceBEq, Nat.reduceEqDiff, Nat.reduceAdd, Int.reduceEq, Int.reduceLT, Int.reduceLE, Int.reduceGT, Int.reduceGE, z1, z2, faB, y1, ld5 cC', fr, ldr']
          have le := arrHq_le (N := b2) y2 (fun b q => by cases q; exact arrHq_var j1)
          refine ⟨inBm y2, .inl ⟨rfl, ⟨cC', RdJ.step hi j2 j4 hp y3 ⟨_, row'⟩ ⟨hxl32, j3.data.mono le, j3.ids.mono le, j3.list.mono le⟩ (fun _ => ⟨rfl, rfl⟩) (fun _ => ⟨rfl, rfl⟩)⟩, ?_⟩⟩
          rintro r rfl
          rw [row', rrow]
      simp only [RT, Nat.reduceLT, Nat.reduceBEq, Nat.reduceEqDiff, Nat.reduceAdd, Int.reduceEq, Int.reduceLT, Int.reduceLE, Int.reduceGT, Int.reduceGE]
      have ht7 : ¬ t = 6 := by omega
      refine condK_of (fun g3 => ?_) (fun g3 => ?_)
      ·
        have ht : t = 7 := by omega
        have hp : putM M t x = .ok { M with data := x } := by unfold putM; rw [if_neg hx0, if_neg ht6, if_neg ht7, if_pos ht]
        simp only [RT, Nat.reduceLT, Nat.reduceBEq, Nat.reduceEqDiff, Nat.reduceAdd, Int.reduceEq, Int.reduceLT, Int.reduceLE, Int.reduceGT, Int.reduceGE, bsl0]
        have o2 := Own.new (N := b2) (n := 0) (sz := 1) (cs := []) c1.wf c1.len rfl rfl
        have q1 := Fr.pushArr B1 []
        have cP := c1.fr q1 (fun b q => q.elim)
        have j1P := q1.row0 j1
        have rP := q1.row0 rrow1
        have leP := arrHq_le (N := b2) q1 (fun b q => q.elim)
        generalize B1.push ⟨[], .arr B1.blk.length 0⟩ = C at *
        obtain ⟨v', D, p1, p2, p3⟩ := o2.app sl44 cP.wf cP.len (src_bytes (P := Try.prog) (tx := 44) Try.underlying44 hx cP.on) (by rw [List.length_map, Nat.mul_one]) (bc_one x) (by omega) (by omega)
        have cD := cP.fr p3 (fun b q => q.elim)
        have j1D := p3.fam_row j1P
        have rD := p3.fam_row rP
        have leD := arrHq_le (N := b2) p3 (fun b q => q.elim)
        obtain ⟨C', y1, y2, y3⟩ := setM (o := 38) (t := 44) (w := v') (cs := [v']) j1D hid p2.cells1 sz44 (by simp) (by simp [p2.one])
        rw [mc_data hid x] at y3
        have cC' := cbm cD y2
        have row' := y2.rowNe rD (show br ≠ bm by omega)
        have ldr' := ldR row'
        have leC := arrHq_le (N := b2) y2 (fun b q => by cases q; exact arrHq_var j1D)
        have le := fun {τ : Type} {E : Enc τ} {w : V} {l : List τ} (q : Slc E (arrHq b2 B1) w l) => ((q.mono leP).mono leD).mono leC
        have p2' : Own b2 C' v' x.length 1 (bc x) := (p2.cast (by omega) rfl).frRow y2 j1D
        simp only [RT, Nat.reduceLT, Nat.reduceBEq, Nat.reduceEqDiff, Nat.reduceAdd, Int.reduceEq, Int.reduceLT, Int.reduceLE, Int.reduceGT, Int.reduceGE, p1, faB, y1, ld5 cC', fr, ldr']
        refine ⟨(q1.after0 (inFam p3)).thn (inBm y2), .inl ⟨rfl, ⟨cC', RdJ.step hi j2 j4 hp y3 ⟨_, row'⟩ ⟨hid, p2'.arrBtsQ (Nat.le_refl _), le j3.ids, le j3.list⟩ (fun _ => ⟨rfl, rfl⟩) (fun _ => ⟨rfl, rfl⟩)⟩, ?_⟩⟩
        rintro r rfl
        rw [row', rrow]
      simp only [RT, Nat.reduceLT, Nat.reduceBEq, Nat.reduceEqDiff, Nat.reduceAdd, Int.reduceEq, Int.reduceLT, Int.reduceLE, Int.reduceGT, Int.reduceGE]
      have ht8 : ¬ t = 7 := by omega
      refine condK_of (fun g4 => ?_) (fun g4 => ?_)
      ·
        have ht : t = 8 := by omega
        obtain ⟨rfl, hids⟩ := j4.1 (by omega)
        have hrem : evBin Try.prog .rem 3 (.int .i64 (x.length : Int)) (.int .i64 32) = some (.int .i64 ((x.length % 32 : Nat) : Int)) := rem_lit _ 32 (by decide)
        simp only [RT, Nat.reduceLT, Nat.reduceBEq, Nat.reduceEqDiff, Nat.reduceAdd, Int.reduceEq, Int.reduceLT, Int.reduceLE, Int.reduceGT, Int.reduceGE, xlen, hrem]
        refine condK_of (fun g5 => ?_) (fun g5 => ?_)
        · have hp : putM M t x = .error 23 := by unfold putM; rw [if_neg hx0, if_neg ht6, if_neg ht7, if_neg ht8, if_pos ht, if_pos (by omega)]
          obtain ⟨C, k1, k2, k3, k4⟩ := fail c1 rrow1 j1 hid hp (by decide)
          simp only [RT, Nat.reduceLT, Nat.reduceBEq, Nat.reduceEqDiff, Nat.reduceAdd, Int.reduceEq, Int.reduceLT, Int.reduceLE, Int.reduceGT, Int.reduceGE, ld5 c1, fr, k1]
          exact ⟨inBr k2, .inr ⟨rfl, k3, k4⟩⟩
        have hp : putM M t x = .ok { M with ids := chunk32 x } := by unfold putM; rw [if_neg hx0, if_neg ht6, if_neg ht7, if_neg ht8, if_pos ht, if_neg (by omega), hids, List.nil_append]
        simp only [RT, Nat.reduceLT, Nat.reduceBEq, Nat.reduceEqDiff, Nat.reduceAdd, Int.reduceEq, Int.reduceLT, Int.reduceLE, Int.reduceGT, Int.reduceGE]
        refine run_loop_j (fun n e C => Fr (fun l => l = .row bm ∨ l = .row br ∨ famsFrom b2 l) B1 C ∧ CB b2 b2 b5 b6 br bm m C ∧ C.blk[br]? = some ⟨[rv, .int .i64 0], .var⟩ ∧ e.get 4 = .ptr bm 0 ∧ e.get 5 = .ptr b5 0 ∧ (arrHq b2 B1).le (arrHq b2 C) ∧
            ∃ (done : List Bts) (rest : Bts) (xv' iv' : V), n = rest.length ∧ e.get 8 = xv' ∧ Slc eU8 m xv' rest ∧ rest.length % 32 = 0 ∧ rest.length ≤ x.length ∧ done.length * 32 + rest.length = x.length ∧ (∀ b ∈ done, b.length = 32) ∧ chunk32 x = done ++ chunk32 rest ∧ C.blk[bm]? = some ⟨mc { M with ids := done } dv iv' lv, .var⟩ ∧ Own b2 C iv' done.length 32 (cellsAllB done))
          (fun z e C => Is z (.exit 3) ∧ Fr (fun l => l = .row bm ∨ l = .row br ∨ famsFrom b2 l) B1 C ∧ CB b2 b2 b5 b6 br bm m C ∧ C.blk[br]? = some ⟨[rv, .int .i64 0], .var⟩ ∧ e.get 5 = .ptr b5 0 ∧ (arrHq b2 B1).le (arrHq b2 C) ∧
            ∃ iv', C.blk[bm]? = some ⟨mc { M with ids := chunk32 x } dv iv' lv, .var⟩ ∧ Slc eId (arrHq b2 C) iv' (chunk32 x))
          ⟨_, .refl _ B1, c1, rrow1, rfl, rfl, Hp.le_refl _, [], x, xv, .snil, rfl, rfl, hx, by omega, Nat.le_refl _, by simp, by simp, rfl, by rw [← hids]; exact j1, by simpa [cellsAllB] using Own.nil b2 B1 32⟩ ?_ ?_
        · rintro n e C ⟨fC, cC, rC, h4, h5, leC, done, rest, xv', iv', rfl, h8, hx', hmod, hle, hsum, hall, hch, jC, own⟩
          have xlen' := fun B => hx'.len (P := Try.prog) Try.underlying44 B
          have ldc := ldM jC hid
          simp only [RT, Nat.reduceLT, Nat.reduceBEq, Nat.reduceEqDiff, Nat.reduceAdd, Int.reduceEq, Int.reduceLT, Int.reduceLE, Int.reduceGT, Int.reduceGE, h8, xlen']
          refine condK_of (fun g6 => ?_) (fun g6 => ?_)
          · have hr32 : 32 ≤ rest.length := by omega
            have hrne : rest ≠ [] := by rintro rfl; simp at g6
            obtain ⟨w3, u3, u4⟩ := hx'.subTo (P := Try.prog) (t := 44) (hi := 32) (kh := .i64) Try.underlying44 sz5 hr32 C
            have u3 : evSlice Try.prog 44 xv' none (some (.int .i64 32)) none C = some w3 := u3
            obtain ⟨w4, u5, u6⟩ := hx'.subFrom (P := Try.prog) (t := 44) (lo := 32) (kl := .i64) Try.underlying44 sz5 hr32 C
            have htl : (rest.take 32).length = 32 := by rw [List.length_take]; omega
            obtain ⟨b7, o7, z1, z2⟩ := s2ap_load u4 cC.on htl
            obtain ⟨v', D, p1, p2, p3⟩ := own.appNew (k := 1) (new := bc (rest.take 32)) sl36 Try.underlying36 cC.wf cC.len (by rw [bc_len, htl]) (bc_one _) (by omega) (by omega)
            have cD := cC.fr p3 (fun b q => q.elim)
            have jD := p3.fam_row jC
            have rD := p3.fam_row rC
            have leD := arrHq_le (N := b2) p3 (fun b q => q.elim)
            obtain ⟨E, y1, y2, y3⟩ := setM (o := 39) (t := 36) (w := v') (cs := [v']) jD hid p2.cells1 sz36 (by simp) (by simp [p2.one])
            rw [mc_ids (x := { M with ids := done }) hid (done ++ [rest.take 32])] at y3
            have cE := cbm cD y2
            have rE := y2.rowNe rD (show br ≠ bm by omega)
            have leE := arrHq_le (N := b2) y2 (fun b q => by cases q; exact arrHq_var jD)
            have u5 : ∀ B, evSlice Try.prog 44 xv' (some (.int .i64 32)) none none B = some w4 := fun B => by
              rw [← u5]
              rcases hx'.form with rfl | ⟨b, o, n, z, rfl⟩ <;> rfl
            simp only [RT, Nat.reduceLT, Nat.reduceBEq, Nat.reduceEqDiff, Nat.reduceAdd, Int.reduceEq, Int.reduceLT, Int.reduceLE, Int.reduceGT, Int.reduceGE]
            rw [pl_73_26, run_plan_id (by rfl)]
            simp only [RT, Nat.reduceLT, Nat.reduceBEq, Nat.reduceEqDiff, Nat.reduceAdd, Int.reduceEq, Int.reduceLT, Int.reduceLE, Int.reduceGT, Int.reduceGE, h4, h8, faB, ldc, u3, z1, z2, bslI htl, p1, y1, u5]
            refine ⟨(rest.drop 32).length, by rw [List.length_drop]; omega, (fC.thn (inFam p3)).thn (inBm y2), cE, rE, h5, Hp.le_trans leC (Hp.le_trans leD leE), done ++ [rest.take 32], rest.drop 32, w4, v', rfl, rfl, u6, by rw [List.length_drop]; omega, by rw [List.length_drop]; omega, by rw [List.length_append, List.length_drop]; simp; omega, ?_, ?_, y3, (p2.frRow y2 jD).cast (by simp) (by simp [cellsAllB])⟩
            · intro b hb
              rcases List.mem_append.1 hb with q | q
              · exact hall b q
              · simp at q; rw [q]; exact htl
            · rw [hch, chunk32_cons hrne]; simp
          · have : rest = [] := List.eq_nil_of_length_eq_zero (by omega)
            subst this
            simp only [RT, Nat.reduceLT, Nat.reduceBEq, Nat.reduceEqDiff, Nat.reduceAdd, Int.reduceEq, Int.reduceLT, Int.reduceLE, Int.reduceGT, Int.reduceGE]
            rw [chunk32_nil, List.append_nil] at hch
            subst hch
            refine ⟨rfl, fC, cC, rC, h5, leC, iv', jC, Own.arrHq (E := eId) own (Nat.le_refl _) rfl fun i y hy => ⟨?_, hall y (List.mem_of_getElem? hy)⟩⟩
            exact cellsAllB_at hall i y hy
        · rintro z e C hz ⟨rfl, fC, cC, rC, h5, leC, iv', jC, hiv'⟩
          have ldr' := ldR rC
          simp only [RT, Nat.reduceLT, Nat.reduceBEq, Nat.reduceEqDiff, Nat.reduceAdd, Int.reduceEq, Int.reduceLT, Int.reduceLE, Int.reduceGT, Int.reduceGE, h5, ld5 cC, fr, ldr']
          refine ⟨fC, .inl ⟨rfl, ⟨cC, RdJ.step hi j2 j4 hp jC ⟨_, rC⟩ ⟨hid, j3.data.mono leC, hiv', j3.list.mono leC⟩ (fun q => absurd q (by simp only []; omega)) (fun _ => ⟨rfl, rfl⟩)⟩, ?_⟩⟩
          rintro r rfl
          rw [rC, rrow]
      simp only [RT, Nat.reduceLT, Nat.reduceBEq, Nat.reduceEqDiff, Nat.reduceAdd, Int.reduceEq, Int.reduceLT, Int.reduceLE, Int.reduceGT, Int.reduceGE]
      have ht9' : ¬ t = 8 := by omega
      have ht : t = 9 := by omega
      have g5 : ((t : Int) = 9) := by omega
      obtain ⟨rfl, hlist⟩ := j4.2
      have hnv : arrHq b2 B1 br = none := arrHq_var rrow1
      simp only [RT, Nat.reduceLT, Nat.reduceBEq, Nat.reduceEqDiff, Nat.reduceAdd, Int.reduceEq, Int.reduceLT, Int.reduceLE, Int.reduceGT, Int.reduceGE, g5, bldR hx.form]
      obtain ⟨B2, e2, f2, r2, n2⟩ := new_var B1 [xv, .int .i64 0]
      rw [← e2]
      obtain ⟨bi, hbi⟩ : ∃ y, y = B1.blk.length := ⟨_, rfl⟩
      rw [← hbi] at r2 ⊢
      have l1 := row_lt c1.r6
      have hbi1 : b2 ≤ bi := by have := c1.len; omega
      have hbi2 : bi ≠ b2 ∧ bi ≠ b5 ∧ bi ≠ b6 ∧ bi ≠ br ∧ bi ≠ bm := by
        have z1 := row_lt c1.r2; have z2 := row_lt c1.r5; have z3 := row_lt c1.r6; have z4 := row_lt rrow1; have z5 := row_lt j1
        omega
      have c2 := c1.fr f2 (fun b q => q.elim)
      have fi := faR bi
      have le2 := arrHq_le (N := b2) f2 (fun b q => q.elim)
      clear e2
      refine run_loop_j (fun n e C => Fr (fun l => l = .row bm ∨ l = .row br ∨ famsFrom b2 l) B1 C ∧ CB b2 b2 b5 b6 br bm m C ∧ C.blk[br]? = some ⟨[rv, .int .i64 0], .var⟩ ∧ e.get 4 = .ptr bm 0 ∧ e.get 5 = .ptr b5 0 ∧ e.get 9 = .ptr bi 0 ∧ (arrHq b2 B1).le (arrHq b2 C) ∧
          ∃ (done : List Bts) (rest : Bts) (rv' lv' : V) (lvs : List V), n = rest.length ∧ C.blk[bi]? = some ⟨[rv', .int .i64 0], .var⟩ ∧ Slc eU8 m rv' rest ∧ rest.length + done.length ≤ x.length ∧ runsOf x = (runsOf rest).map (done ++ ·) ∧ C.blk[bm]? = some ⟨mc { M with list := done } dv iv lv', .var⟩ ∧
            Own b2 C lv' done.length 1 lvs ∧ ∀ (i : Nat) b, done[i]? = some b → ∃ w, lvs[i]? = some w ∧ Slc eU8 (arrHq b2 C) w b)
        (fun z e C => Fr (fun l => l = .row bm ∨ l = .row br ∨ famsFrom b2 l) B1 C ∧ CB b2 b2 b5 b6 br bm m C ∧ e.get 5 = .ptr b5 0 ∧ ((Is z (.exit 5) ∧ C.blk[br]? = some ⟨[rv, .int .i64 0], .var⟩ ∧ (arrHq b2 B1).le (arrHq b2 C) ∧
            ∃ lv' l, runsOf x = some l ∧ C.blk[bm]? = some ⟨mc { M with list := l } dv iv lv', .var⟩ ∧ Slc (eSl eU8) (arrHq b2 C) lv' l) ∨ (Is z (.exit 0) ∧ RdE b2 bm br kk.toNat s C)))
        ⟨_, f2.mono fun _ q => q.elim, c2, f2.row0 rrow1, rfl, rfl, rfl, le2, [], x, xv, .snil, [], rfl, r2, hx, by simp, by simp, by rw [← hlist]; exact f2.row0 j1, Own.nil b2 B2 1, by simp⟩ ?_ ?_
      · rintro n e C ⟨fC, cC, rC, h4, h5, h9, leC, done, rest, rv', lv', lvs, rfl, riC, hx', hle, hrun, jC, own, hlv⟩
        have ldi := ldR riC
        have xlen' := fun B => hx'.len (P := Try.prog) Try.underlying44 B
        simp only [RT, Nat.reduceLT, Nat.reduceBEq, Nat.reduceEqDiff, Nat.reduceAdd, Int.reduceEq, Int.reduceLT, Int.reduceLE, Int.reduceGT, Int.reduceGE, h9, fi, ldi, xlen']
        refine condK_of (fun g6 => ?_) (fun g6 => ?_)
        · have hrne : rest ≠ [] := by rintro rfl; simp at g6
          simp only [RT, Nat.reduceLT, Nat.reduceBEq, Nat.reduceEqDiff, Nat.reduceAdd, Int.reduceEq, Int.reduceLT, Int.reduceLE, Int.reduceGT, Int.reduceGE, h9]
          obtain ⟨w, D, k1, k2, k3⟩ := rrun_spec cC.on (hno bi hbi1) riC hx' (by omega)
          refine run_call1 k1 ?_
          have cD := cC.fr k2 (by rintro b q; cases q; exact ⟨hbi2.1, hbi2.2.1, hbi2.2.2.1, hno _ hbi1⟩)
          have inBi : Fr (fun l => l = .row bm ∨ l = .row br ∨ famsFrom b2 l) B1 D := fC.trans k2 (by rintro l rfl; exact .inr (by show B1.blk.length ≤ bi; omega))
          have rD := k2.rowNe rC (show br ≠ bi by omega)
          have jD := k2.rowNe jC (show bm ≠ bi by omega)
          have leD := arrHq_le (N := b2) k2 (fun b q => by cases q; exact arrHq_var riC)
          rcases k3 with ⟨k3, rfl, k4⟩ | ⟨y, r', rv2, k3, k4, k5, k6⟩
          · have ldi2 := ldR k4
            have hp : putM M t x = .error 20 := by
              unfold putM; rw [if_neg hx0, if_neg ht6, if_neg ht7, if_neg ht8, if_neg ht9', hrun, runsOf_none hrne k3]; rfl
            obtain ⟨C', y1, y2, y3, y4⟩ := fail cD rD jD hid hp (by decide)
            simp only [RT, Nat.reduceLT, Nat.reduceBEq, Nat.reduceEqDiff, Nat.reduceAdd, Int.reduceEq, Int.reduceLT, Int.reduceLE, Int.reduceGT, Int.reduceGE, h9, fi, ldi2]
            rw [pl_73_32, run_plan_id (by rfl)]
            simp only [RT, Nat.reduceLT, Nat.reduceBEq, Nat.reduceEqDiff, Nat.reduceAdd, Int.reduceEq, Int.reduceLT, Int.reduceLE, Int.reduceGT, Int.reduceGE, h5, h9, ld5 cD, fr, fi, ldi2, y1]
            exact ⟨inBi.thn (inBr y2), y3, .inr ⟨rfl, y4⟩⟩
          · have ldi2 := ldR k5
            have hl3 := takeB_len k3
            have ldd := ldM jD hid
            simp only [RT, Nat.reduceLT, Nat.reduceBEq, Nat.reduceEqDiff, Nat.reduceAdd, Int.reduceEq, Int.reduceLT, Int.reduceLE, Int.reduceGT, Int.reduceGE, h9, fi, ldi2]
            simp only [RT, Nat.reduceLT, Nat.reduceBEq, Nat.reduceEqDiff, Nat.reduceAdd, Int.reduceEq, Int.reduceLT, Int.reduceLE, Int.reduceGT, Int.reduceGE, pl_73_33, h4, faB, ldd, bsl0, rc_nil]
            have o2 := Own.new (N := D.blk.length) (n := 0) (sz := 1) (cs := []) cD.wf (Nat.le_refl _) rfl rfl
            have q1 := Fr.pushArr D []
            have onP := cD.on.fr0 q1
            have wP := q1.wf cD.wf
            have nP := q1.len
            generalize D.push ⟨[], .arr D.blk.length 0⟩ = F at *
            obtain ⟨v1, G, p1, p2, p3⟩ := o2.app sl44 wP nP (src_bytes (P := Try.prog) (tx := 44) Try.underlying44 k4 onP) (by rw [List.length_map, Nat.mul_one]) (bc_one y) (by omega) (by omega)
            have fDG := q1.after0 p3
            have inFamN : ∀ {X Y : AS} {n : Nat}, b2 ≤ n → Fr (famsFrom n) X Y → Fr (fun l => l = .row bm ∨ l = .row br ∨ famsFrom b2 l) X Y := fun hn q => q.mono fun l z => .inr (.inr (by
              cases l <;> first | exact Nat.le_trans hn z | exact z))
            have cG := cD.fr fDG (fun b q => q.elim)
            have jG := fDG.fam_row jD
            have rG := fDG.fam_row rD
            have iG := fDG.fam_row k5
            have leG := arrHq_le (N := b2) fDG (fun b q => q.elim)
            have ownG := (own.frRow k2 riC).fams0 (Nat.le_refl _) fDG
            have ldg := ldM jG hid
            have p2' : Own D.blk.length G v1 y.length 1 (bc y) := p2.cast (by omega) rfl
            obtain ⟨v2, K, u1, u2, u3⟩ := ownG.appNew (k := 1) (new := [v1]) sl22 Try.underlying22 cG.wf cG.len rfl (by simp [p2'.one]) (by omega) (by omega)
            have cK := cG.fr u3 (fun b q => q.elim)
            have jK := u3.fam_row jG
            have rK := u3.fam_row rG
            have iK := u3.fam_row iG
            have leK := arrHq_le (N := b2) u3 (fun b q => q.elim)
            obtain ⟨E, y1, y2, y3⟩ := setM (o := 40) (t := 22) (w := v2) (cs := [v2]) jK hid u2.cells1 sz22 (by simp) (by simp [u2.one])
            rw [mc_list (x := { M with list := done }) hid (done ++ [y])] at y3
            have cE := cbm cK y2
            have rE := y2.rowNe rK (show br ≠ bm by omega)
            have iE := y2.rowNe iK (show bi ≠ bm from hbi2.2.2.2.2)
            have leE := arrHq_le (N := b2) y2 (fun b q => by cases q; exact arrHq_var jK)
            have leGE := Hp.le_trans leK leE
            have hv1 := (p2'.arrBtsQ cD.len).mono leGE
            simp only [RT, Nat.reduceLT, Nat.reduceBEq, Nat.reduceEqDiff, Nat.reduceAdd, Int.reduceEq, Int.reduceLT, Int.reduceLE, Int.reduceGT, Int.reduceGE, p1, rc_nil]
            refine ⟨rc_load (ha := rfl) rfl ldg.2.2.2.2.2.2.2.2.2.1 rfl rc_nil, ?_⟩
            simp only [RT, Nat.reduceLT, Nat.reduceBEq, Nat.reduceEqDiff, Nat.reduceAdd, Int.reduceEq, Int.reduceLT, Int.reduceLE, Int.reduceGT, Int.reduceGE, bslV p2'.form, u1, h4, faB, y1, rc_nil]
            refine ⟨r'.length, by omega, (((inBi.thn (inFamN cD.len fDG))).thn (inFam u3)).thn (inBm y2), cE, rE, h5, h9, Hp.le_trans leC (Hp.le_trans leD (Hp.le_trans leG leGE)), done ++ [y], r', rv2, v2, lvs ++ [v1], rfl, iE, k6, by rw [List.length_append]; simp; omega, ?_, y3, (u2.frRow y2 jK).cast (by simp) rfl, ?_⟩
            · rw [hrun, runsOf_some k3]
              cases runsOf r' <;> simp
            · intro j bb hj
              have hln : lvs.length = done.length := by have := own.1; omega
              rcases Nat.lt_or_ge j done.length with q | q
              · rw [List.getElem?_append_left q] at hj
                obtain ⟨w', z1, z2⟩ := hlv j bb hj
                exact ⟨w', by rw [List.getElem?_append_left (by omega)]; exact z1, z2.mono (Hp.le_trans leD (Hp.le_trans leG leGE))⟩
              · have hj' := (List.getElem?_eq_some_iff.1 hj).1
                simp only [List.length_append, List.length_singleton] at hj'
                have : j = done.length := by omega
                subst this
                simp at hj
                subst hj
                exact ⟨v1, by rw [← hln]; simp, hv1⟩
        · have : rest = [] := List.eq_nil_of_length_eq_zero (by omega)
          subst this
          simp only [RT, Nat.reduceLT, Nat.reduceBEq, Nat.reduceEqDiff, Nat.reduceAdd, Int.reduceEq, Int.reduceLT, Int.reduceLE, Int.reduceGT, Int.reduceGE]
          rw [runsOf_nil] at hrun
          refine ⟨fC, cC, h5, .inl ⟨rfl, rC, leC, lv', done, by rw [hrun]; simp, jC, Own.arrHq (E := eSl eU8) own (Nat.le_refl _) rfl fun j bb hj => ?_⟩⟩
          obtain ⟨w', z1, z2⟩ := hlv j bb hj
          refine ⟨w', ?_, z2⟩
          show (lvs.drop (j * 1)).take 1 = _
          rw [Nat.mul_one, List.take_one, List.head?_drop, z1]; rfl
      · rintro z e C hz ⟨fC, cC, h5, ⟨rfl, rC, leC, lv', l, hrun, jC, hlv⟩ | ⟨rfl, hE⟩⟩
        · have ldr' := ldR rC
          have hp : putM M t x = .ok { M with list := l } := by
            unfold putM; rw [if_neg hx0, if_neg ht6, if_neg ht7, if_neg ht8, if_neg ht9', hrun]; simp only [hlist, List.nil_append]
          simp only [RT, Nat.reduceLT, Nat.reduceBEq, Nat.reduceEqDiff, Nat.reduceAdd, Int.reduceEq, Int.reduceLT, Int.reduceLE, Int.reduceGT, Int.reduceGE, h5, ld5 cC, fr, ldr']
          refine ⟨fC, .inl ⟨rfl, ⟨cC, RdJ.step hi j2 j4 hp jC ⟨_, rC⟩ ⟨hid, j3.data.mono leC, j3.ids.mono leC, hlv⟩ (fun q => absurd q (by simp only []; omega)) (fun q => absurd q (by simp only []; omega))⟩, ?_⟩⟩
          rintro r rfl
          rw [rC, rrow]
        · simp only [RT, Nat.reduceLT, Nat.reduceBEq, Nat.reduceEqDiff, Nat.reduceAdd, Int.reduceEq, Int.reduceLT, Int.reduceLE, Int.reduceGT, Int.reduceGE]
          exact ⟨fC, .inr ⟨rfl, cC, hE⟩⟩
    · rintro B ⟨c1, M, dv, iv, lv, j1, _, j2, j3, _⟩ ⟨rv, rrow⟩
      refine ⟨c1, ?_⟩
      rw [List.take_length] at j2
      have hrest := restM_of_ok j2
      by_cases hc : (items 0 s).2 = 0
      · rw [if_neg (by simpa using hc)] at hrest
        rw [hc] at rrow
        exact .inr ⟨rv, M, dv, iv, lv, rrow, hrest, j1, j3⟩
      · rw [if_pos hc] at hrest
        exact .inl ⟨rv, _, hc, rrow, hrest, M, dv, iv, lv, j1, j3.id⟩
    · rintro B ⟨cB, hE⟩ hfB
      have fB : Fr S0 A B := fA6.trans hfB (by
        rintro l (rfl | rfl | q)
        · exact .inr (by show A.blk.length ≤ bm; omega)
        · exact .inr (by show A.blk.length ≤ br; omega)
        · rw [← hN] at q
          cases l <;> first | exact .inr q | exact q.elim)
      have ld5 : ∀ {C}, CB b2 b2 b5 b6 br bm m C → evLoad Try.prog 176 (.ptr b5 0) C = some (.ptr br 0) := fun q => load_one ag176 q.r5
      have fr := faR br
      have fin : ∀ {C : AS} {c : Int} {rv : V}, CB b2 b2 b5 b6 br bm m C → Fr S0 A C → c ≠ 0 → readM (kk :: s) = .error c →
          ∃ C', evStore Try.prog 70 (.ptr b2 0) (.agg mcZ) C = some C' ∧ CB b2 b2 b5 b6 br bm m C' ∧ Fr (· = .row b2) C C' ∧ evLoad Try.prog 70 (.ptr b2 0) C' = some (.agg mcZ) ∧ Fr S0 A C' ∧ RdOutN b2 (kk :: s) (.tup [.agg mcZ, .int .i64 c]) C' := by
        intro C c rv z1 z2 z3 z4
        obtain ⟨C', y1, y2, y3⟩ := setM (o := 0) (t := 70) (w := .agg mcZ) (cs := mcZ) z1.r2 zid rfl sz70 (by decide) rfl
        rw [putAt_all rfl] at y3
        exact ⟨C', y1, ⟨y3, y2.rowNe z1.r5 (by omega), y2.rowNe z1.r6 (by omega), z1.on.row y2 (hno _ (Nat.le_refl _)), y2.wf z1.wf, by have := y2.len; have := z1.len; omega⟩, y2, (ldM y3 zid).2.2.2.2.2.2.2.2.2.2, z2.row_ y2 (by omega), rdOutN_bad z4⟩
      rcases hE with ⟨rv, c, q1, q2, q3, M, dv, iv, lv, q4, q5⟩ | ⟨rv, M, dv, iv, lv, q1, q2, q3, q4⟩
      · have ldr' := ldR q2
        have hrd : readM (kk :: s) = .error c := by rw [hread, q3]
        obtain ⟨C', y1, y2, y3, y4, y5, y6⟩ := fin (rv := rv) cB fB q1 hrd
        have row' := y3.rowNe q2 (show br ≠ b2 by omega)
        have ldr2 := ldR row'
        simp only [RT, Nat.reduceLT, Nat.reduceBEq, Nat.reduceEqDiff, Nat.reduceAdd, Int.reduceEq, Int.reduceLT, Int.reduceLE, Int.reduceGT, Int.reduceGE, ld5 cB, fr, ldr', q1]
        simp only [RT, Nat.reduceLT, Nat.reduceBEq, Nat.reduceEqDiff, Nat.reduceAdd, Int.reduceEq, Int.reduceLT, Int.reduceLE, Int.reduceGT, Int.reduceGE, pl_73_38, bldM0, ld5 cB, fr, ldr', y1, rc_nil]
        refine ⟨rc_load (ha := rfl) rfl (ld5 y2) rfl (rc_load (ha := rfl) rfl ldr2.2 rfl rc_nil), ?_⟩
        simp only [RT, Nat.reduceLT, Nat.reduceBEq, Nat.reduceEqDiff, Nat.reduceAdd, Int.reduceEq, Int.reduceLT, Int.reduceLE, Int.reduceGT, Int.reduceGE, y4, rc_nil]
        exact ⟨y5, y6⟩
      · have ldr' := ldR q1
        have ldm := ldM q3 q4.id
        have hsz := restM_sz q2
        have hz0 : szM (msg0 kk.toNat) = 0 := rfl
        have hsized : Sized M := ⟨by simp only [szM] at hsz hz0; omega, by simp only [szM] at hsz hz0; omega, by simp only [szM] at hsz hz0; omega, fun b hb => by have := len_le_lens hb; simp only [szM] at hsz hz0; omega⟩
        obtain ⟨_, C, k1, rfl, k2⟩ := check_spec (arrHq_on b2 B) q4 hsized.ids hsized.data hsized.list hsized.each
        have cC := cB.fr k2 (fun b q => q.elim)
        have rC := k2.row0 q1
        obtain ⟨D, y1, y2, y3⟩ := setBad (n := checkM M) rC
        have cD := cC.fr y2 (by rintro b q; cases q; exact ⟨by omega, by omega, by omega, hno _ (by omega)⟩)
        have fD := (fB.then0 k2).row_ y2 (by omega)
        have ldd := ldR y3
        simp only [RT, Nat.reduceLT, Nat.reduceBEq, Nat.reduceEqDiff, Nat.reduceAdd, Int.reduceEq, Int.reduceLT, Int.reduceLE, Int.reduceGT, Int.reduceGE, ld5 cB, fr, ldr']
        simp only [RT, Nat.reduceLT, Nat.reduceBEq, Nat.reduceEqDiff, Nat.reduceAdd, Int.reduceEq, Int.reduceLT, Int.reduceLE, Int.reduceGT, Int.reduceGE, pl_73_36, ld5 cB, ldm, rc_nil]
        refine run_call1 k1 ?_
        simp only [RT, Nat.reduceLT, Nat.reduceBEq, Nat.reduceEqDiff, Nat.reduceAdd, Int.reduceEq, Int.reduceLT, Int.reduceLE, Int.reduceGT, Int.reduceGE, rc_nil]
        refine ⟨rc_load (ha := rfl) rfl (ld5 cC) rfl rc_nil, ?_⟩
        simp only [RT, Nat.reduceLT, Nat.reduceBEq, Nat.reduceEqDiff, Nat.reduceAdd, Int.reduceEq, Int.reduceLT, Int.reduceLE, Int.reduceGT, Int.reduceGE, fr, y1, ld5 cD, ldd, rc_nil]
        refine condK_of (fun g => ?_) (fun g => ?_)
        · have hrd : readM (kk :: s) = .error (checkM M) := by rw [hread, q2]; simp only []; rw [if_pos g]
          obtain ⟨E, z1, z2, z3, z4, z5, z6⟩ := fin (rv := rv) cD fD g hrd
          have row' := z3.rowNe y3 (show br ≠ b2 by omega)
          have ldr2 := ldR row'
          simp only [RT, Nat.reduceLT, Nat.reduceBEq, Nat.reduceEqDiff, Nat.reduceAdd, Int.reduceEq, Int.reduceLT, Int.reduceLE, Int.reduceGT, Int.reduceGE]
          simp only [RT, Nat.reduceLT, Nat.reduceBEq, Nat.reduceEqDiff, Nat.reduceAdd, Int.reduceEq, Int.reduceLT, Int.reduceLE, Int.reduceGT, Int.reduceGE, pl_73_38, bldM0, ld5 cD, fr, ldd, z1, rc_nil]
          refine ⟨rc_load (ha := rfl) rfl (ld5 z2) rfl (rc_load (ha := rfl) rfl ldr2.2 rfl rc_nil), ?_⟩
          simp only [RT, Nat.reduceLT, Nat.reduceBEq, Nat.reduceEqDiff, Nat.reduceAdd, Int.reduceEq, Int.reduceLT, Int.reduceLE, Int.reduceGT, Int.reduceGE, z4, rc_nil]
          exact ⟨z5, z6⟩
        · have hrd : readM (kk :: s) = .ok M := by rw [hread, q2]; simp only []; rw [if_neg g]
          have mD := y2.rowNe (k2.row0 q3) (show bm ≠ br by omega)
          have ldmD := ldM mD q4.id
          obtain ⟨E, z1, z2, z3⟩ := setM (o := 0) (t := 70) (w := .agg (mc M dv iv lv)) (cs := mc M dv iv lv) cD.r2 zid rfl (by rw [mc_len q4.id]; exact sz70) (by rw [mc_len q4.id]; decide) (mc_one q4)
          rw [putAt_all (by rw [mc_len zid, mc_len q4.id])] at z3
          have lde := (ldM z3 q4.id).2.2.2.2.2.2.2.2.2.2
          simp only [RT, Nat.reduceLT, Nat.reduceBEq, Nat.reduceEqDiff, Nat.reduceAdd, Int.reduceEq, Int.reduceLT, Int.reduceLE, Int.reduceGT, Int.reduceGE, ldmD, z1, lde]
          have le1 := arrHq_le (N := b2) k2 (fun b q => q.elim)
          have le2 := arrHq_le (N := b2) y2 (fun b q => by cases q; exact arrHq_var rC)
          have le3 := arrHq_le (N := b2) z2 (fun b q => by cases q; exact arrHq_var cD.r2)
          exact ⟨fD.row_ z2 (by omega), rdOutN_ok hrd (q4.mono (Hp.le_trans le1 (Hp.le_trans le2 le3)))⟩
theorem read_spec {m : Hp} {A : AS} {v : V} {b : Bts} (hw : WF A) (hm : m.on A) (h : Slc eU8 m v b) (hb : b.length ≤ 1000000000000) :
    ∃ w A', EvF Try.prog HH 73 [v] A w A' ∧ Fr S0 A A' ∧ RdOut b w A' := by
  obtain ⟨w, A', h1, h2, dv, iv, lv, h3, h4⟩ := read_specN hw hm h hb
  exact ⟨w, A', h1, h2, dv, iv, lv, h3, h4.mono (arrHq_arr _ _)⟩
end Go.Sv.Try
namespace Go.Sv.Try
open Go Go.Proofs
set_option linter.unusedVariables false
set_option linter.unusedSimpArgs false
end Go.Sv.Try
namespace Go.Sv.Try
open Go Go.Proofs
set_option linter.unusedVariables false
set_option linter.unusedSimpArgs false
end Go.Sv.Try
namespace Go.Sv.Try
open Go Go.Proofs
set_option linter.unusedVariables false
set_option linter.unusedSimpArgs false
end Go.Sv.Try
namespace Go.Sv.Try
open Go Go.Proofs
set_option linter.unusedVariables false
set_option linter.unusedSimpArgs false
theorem M.ext' {x y : Go.Sv.M} (h0 : x.kind = y.kind) (h1 : x.who = y.who) (h2 : x.height = y.height) (h3 : x.round = y.round) (h4 : x.valid = y.valid) (h5 : x.num = y.num) (h6 : x.id = y.id) (h7 : x.data = y.data) (h8 : x.ids = y.ids) (h9 : x.list = y.list) : x = y := by
  cases x; cases y; simp at h0 h1 h2 h3 h4 h5 h6 h7 h8 h9; simp [*]
theorem readMsg_sz (b : Bts) : szM (readMsg b) ≤ b.length := by
  unfold readMsg
  cases h : readM b with
  | error e => show szM (msg0 0) ≤ _; exact Nat.zero_le _
  | ok m =>
    show szM m ≤ _
    match b, h with
    | k :: r, h =>
      unfold readM at h
      simp only [] at h
      split at h
      · simp at h
      · split at h
        · simp at h
        · rename_i m' hm
          split at h
          · simp at h
          · simp at h; subst h
            have := restM_sz hm
            have hz : szM (msg0 k.toNat) = 0 := rfl
            simp only [List.length_cons]; omega
end Go.Sv.Try
namespace Go.Sv.Try
open Go Go.Proofs
set_option linter.unusedVariables false
set_option linter.unusedSimpArgs false
theorem rd_ok {b : Bts} {x : Go.Sv.M} (h : readM b = .ok x) : readMsg b = x ∧ readErr b = 0 := by
  unfold readMsg readErr; rw [h]; exact ⟨rfl, rfl⟩
theorem writeB_len {x : Go.Sv.M} {m : Hp} {dv iv lv : V} (h : MsgIn m x dv iv lv) (hok : OkM x) : (writeB x).length ≤ 1800091 := by
  have h1 := fieldsB_len (P9 x) 1 (P9_size hok h.id (eId_len h.ids))
  have h3 : (P9 x).length = 9 := rfl
  rw [h3] at h1
  simp only [writeB, fieldList, List.length_cons]; omega
theorem new_msg {A : AS} {x : Go.Sv.M} {dv iv lv : V} {m : Hp} (h : MsgIn m x dv iv lv) : ∃ A', evStore Try.prog 70 (.ptr A.blk.length 0) (.agg (mc x dv iv lv)) (A.push ⟨mcZ, .var⟩) = some A' ∧ Fr S0 A A' ∧ A'.blk[A.blk.length]? = some ⟨mc x dv iv lv, .var⟩ := by
  obtain ⟨A2, s1, s2, s3, s4⟩ := new_set (P := Try.prog) A (z := mcZ) (t := 70) (x := .agg (mc x dv iv lv)) (cs := mc x dv iv lv) rfl (by rw [mc_len h.id]; exact sz70) (by rw [mc_len h.id]; rfl) (mc_one h)
  exact ⟨A2, s1, s2, s3⟩
end Go.Sv.Try
namespace Go.Sv.Try
open Go Go.Proofs
set_option linter.unusedVariables false
set_option linter.unusedSimpArgs false
end Go.Sv.Try
namespace Go.Sv.Try
open Go Go.Proofs
set_option linter.unusedVariables false
set_option linter.unusedSimpArgs false
def entBad (x : Go.Sv.M) : Prop := x.kind ≠ 1 ∨ x.num < 1 ∨ x.who > 15 ∨ x.height ≠ 0 ∨ x.round ≠ 0 ∨ x.valid ≠ 0 ∨ x.id ≠ zero32 ∨ x.ids.length > 0 ∨ x.list.length > 0
open Classical in
noncomputable def entC (b : Bts) : Int := if readErr b ≠ 0 then readErr b else if entBad (readMsg b) then 23 else if (readMsg b).data.length > 256 then 2 else 0
theorem entC_err {b : Bts} (h : readErr b ≠ 0) : entC b = readErr b := by unfold entC; rw [if_pos h]
theorem entC_bad {b : Bts} (h : readErr b = 0) (hb : entBad (readMsg b)) : entC b = 23 := by unfold entC; rw [if_neg (by simpa using h), if_pos hb]
theorem entC_long {b : Bts} (h : readErr b = 0) (hb : ¬ entBad (readMsg b)) (hl : (readMsg b).data.length > 256) : entC b = 2 := by unfold entC; rw [if_neg (by simpa using h), if_neg hb, if_pos hl]
theorem entC_ok {b : Bts} (h : readErr b = 0) (hb : ¬ entBad (readMsg b)) (hl : ¬ (readMsg b).data.length > 256) : entC b = 0 := by unfold entC; rw [if_neg (by simpa using h), if_neg hb, if_neg hl]
theorem read_okM {b : Bts} (h : readErr b = 0) : OkM (readMsg b) := by
  obtain ⟨x, hx⟩ := readErr_ne.1 h
  rw [(rd_ok hx).1]
  exact okM_of (write_read hx).2.1
def EntOut (b : Bts) (w : V) (B : AS) : Prop := ∃ (X : Go.Sv.M) (dv iv lv : V), w = .tup [.agg (mc X dv iv lv), .int .i64 (entC b)] ∧ MsgIn (arrHp B) X dv iv lv ∧ (entC b = 0 → X = readMsg b)
def EntOutZ (b : Bts) (w : V) (B : AS) : Prop := EntOut b w B ∧ (entC b ≠ 0 → w = .tup [.agg mcZ, .int .i64 (entC b)])
set_option maxRecDepth 10000 in
set_option maxHeartbeats 32000000 in
theorem bookCheck_specZ {m : Hp} {A : AS} {v : V} {b : Bts} (hw : WF A) (hm : m.on A) (h : Slc eU8 m v b) (hb : b.length ≤ 1000000000000) :
    ∃ w A', EvF Try.prog HH 36 [v] A w A' ∧ Fr S0 A A' ∧ EntOutZ b w A' := by
  refine run_fn2 rfl Try.func36 (by unfold Try.f36; rfl) Try.ntmps36 (by unfold Try.f36; rfl) (by simp) ?_
  simp only [RT, Nat.reduceLT, Nat.reduceBEq, Nat.reduceEqDiff, Nat.reduceAdd, Int.reduceEq, Int.reduceLT, Int.reduceLE, Int.reduceGT, Int.reduceGE, zcM]
  obtain ⟨A1, e1, f1, r1, n1⟩ := new_var A mcZ
  rw [← e1]
  have zid : (msg0 0).id.length = 32 := rfl
  obtain ⟨w, A2, k1, k2, dv, iv, lv, rfl, k3⟩ := read_spec (f1.wf hw) (hm.fr0 f1) h hb
  refine run_call1 k1 ?_
  obtain ⟨A3, s1, s2, s3⟩ := new_msg (A := A2) k3
  have f3 := (f1.then0 k2).then0 s2
  have r2 := s2.row0 (k2.row0 r1)
  have hM : MsgIn (arrHp A3) (readMsg b) dv iv lv := k3.mono (arrHp_le s2 fun b q => q.elim)
  have ld := ldM s3 k3.id
  have fa := faM A2.blk.length
  have dl := fun B => hM.data.len (P := Try.prog) Try.underlying44 B
  have il := fun B => hM.ids.len (P := Try.prog) Try.underlying36 B
  have ll := fun B => hM.list.len (P := Try.prog) Try.underlying22 B
  have bad : ∃ C, evStore Try.prog 70 (.ptr A.blk.length 0) (.agg mcZ) A3 = some C ∧ evLoad Try.prog 70 (.ptr A.blk.length 0) C = some (.agg mcZ) ∧ Fr S0 A C ∧ (entC b ≠ 0 → EntOutZ b (.tup [.agg mcZ, .int .i64 (entC b)]) C) := by
    obtain ⟨C, y1, y2, y3⟩ := setM (o := 0) (t := 70) (w := .agg mcZ) (cs := mcZ) r2 zid rfl sz70 (by decide) rfl
    rw [putAt_all rfl] at y3
    exact ⟨C, y1, (ldM y3 zid).2.2.2.2.2.2.2.2.2.2, f3.row_ y2 (Nat.le_refl _), fun q => ⟨⟨_, _, _, _, rfl, msgIn0 (k := 0), fun z => absurd z q⟩, fun _ => rfl⟩⟩
  obtain ⟨C, b1, b2, b3, b4⟩ := bad
  obtain ⟨D, g1, g2, g3⟩ := setM (o := 0) (t := 70) (w := .agg (mc (readMsg b) dv iv lv)) (cs := mc (readMsg b) dv iv lv) r2 zid rfl (by rw [mc_len hM.id]; exact sz70) (by rw [mc_len hM.id]; decide) (mc_one hM)
  rw [putAt_all (by rw [mc_len zid, mc_len hM.id])] at g3
  have ldD := (ldM g3 hM.id).2.2.2.2.2.2.2.2.2.2
  have fD := f3.row_ g2 (Nat.le_refl _)
  have hMD : MsgIn (arrHp D) (readMsg b) dv iv lv := hM.mono (arrHp_le g2 fun b q => by cases q; exact arrHp_var r2)
  simp only [RT, Nat.reduceLT, Nat.reduceBEq, Nat.reduceEqDiff, Nat.reduceAdd, Int.reduceEq, Int.reduceLT, Int.reduceLE, Int.reduceGT, Int.reduceGE, zcM, s1]
  refine condK_of (fun h0 => ?_) (fun h0 => ?_)
  · simp only [RT, Nat.reduceLT, Nat.reduceBEq, Nat.reduceEqDiff, Nat.reduceAdd, Int.reduceEq, Int.reduceLT, Int.reduceLE, Int.reduceGT, Int.reduceGE, bldM0, b1, b2]
    rw [← entC_err h0]
    exact ⟨b3, b4 (by rw [entC_err h0]; exact h0)⟩
  have he : readErr b = 0 := by omega
  have hok := read_okM he
  have hn := hok.nums
  simp only [M.nums, List.mem_cons, List.mem_nil_iff, or_false, forall_eq_or_imp, forall_eq] at hn
  obtain ⟨⟨a1, c1⟩, ⟨a2, c2⟩, ⟨a3, c3⟩, ⟨a4, c4⟩, a5, c5⟩ := hn
  have hsz := readMsg_sz b
  generalize hX : readMsg b = X at *
  have no : entBad X → EntOutZ b (.tup [.agg mcZ, .int .i64 23]) C := fun q => by
    have e := entC_bad he (by rw [hX]; exact q)
    rw [e] at b4; exact b4 (by decide)
  simp only [RT, Nat.reduceLT, Nat.reduceBEq, Nat.reduceEqDiff, Nat.reduceAdd, Int.reduceEq, Int.reduceLT, Int.reduceLE, Int.reduceGT, Int.reduceGE, fa, ld]
  by_cases q1 : X.kind = 1
  rotate_left
  · simp only [RT, Nat.reduceLT, Nat.reduceBEq, Nat.reduceEqDiff, Nat.reduceAdd, Int.reduceEq, Int.reduceLT, Int.reduceLE, Int.reduceGT, Int.reduceGE, q1, bldM0, b1, b2]
    exact ⟨b3, no (.inl q1)⟩
  simp only [RT, Nat.reduceLT, Nat.reduceBEq, Nat.reduceEqDiff, Nat.reduceAdd, Int.reduceEq, Int.reduceLT, Int.reduceLE, Int.reduceGT, Int.reduceGE, q1, fa, ld]
  by_cases q2 : X.num < 1
  · simp only [RT, Nat.reduceLT, Nat.reduceBEq, Nat.reduceEqDiff, Nat.reduceAdd, Int.reduceEq, Int.reduceLT, Int.reduceLE, Int.reduceGT, Int.reduceGE, q2, bldM0, b1, b2]
    exact ⟨b3, no (.inr (.inl q2))⟩
  simp only [RT, Nat.reduceLT, Nat.reduceBEq, Nat.reduceEqDiff, Nat.reduceAdd, Int.reduceEq, Int.reduceLT, Int.reduceLE, Int.reduceGT, Int.reduceGE, q2, fa, ld]
  by_cases q3 : X.who > 15
  · simp only [RT, Nat.reduceLT, Nat.reduceBEq, Nat.reduceEqDiff, Nat.reduceAdd, Int.reduceEq, Int.reduceLT, Int.reduceLE, Int.reduceGT, Int.reduceGE, q3, bldM0, b1, b2]
    exact ⟨b3, no (.inr (.inr (.inl q3)))⟩
  have w1 : IntKind.i64.wrap (X.height + X.round) = X.height + X.round := wrapI (by omega) (by omega)
  have w2 : IntKind.i64.wrap (X.height + X.round + X.valid) = X.height + X.round + X.valid := wrapI (by omega) (by omega)
  simp only [RT, Nat.reduceLT, Nat.reduceBEq, Nat.reduceEqDiff, Nat.reduceAdd, Int.reduceEq, Int.reduceLT, Int.reduceLE, Int.reduceGT, Int.reduceGE, q3, fa, ld, w1, w2]
  by_cases q4 : X.height + X.round + X.valid > 0
  · simp only [RT, Nat.reduceLT, Nat.reduceBEq, Nat.reduceEqDiff, Nat.reduceAdd, Int.reduceEq, Int.reduceLT, Int.reduceLE, Int.reduceGT, Int.reduceGE, q4, bldM0, b1, b2]
    refine ⟨b3, no (.inr (.inr (.inr ?_)))⟩
    omega
  simp only [RT, Nat.reduceLT, Nat.reduceBEq, Nat.reduceEqDiff, Nat.reduceAdd, Int.reduceEq, Int.reduceLT, Int.reduceLE, Int.reduceGT, Int.reduceGE, q4, fa, ld, bldZ, eqI hM.id (rfl : zero32.length = 32)]
  by_cases q5 : X.id = zero32
  rotate_left
  · simp only [RT, Nat.reduceLT, Nat.reduceBEq, Nat.reduceEqDiff, Nat.reduceAdd, Int.reduceEq, Int.reduceLT, Int.reduceLE, Int.reduceGT, Int.reduceGE, q5, bldM0, b1, b2]
    exact ⟨b3, no (.inr (.inr (.inr (.inr (.inr (.inr (.inl q5)))))))⟩
  have w3 : IntKind.i64.wrap ((X.ids.length : Int) + (X.list.length : Int)) = (X.ids.length : Int) + (X.list.length : Int) := by simp only [szM] at hsz; exact wrapI (by omega) (by omega)
  simp only [RT, Nat.reduceLT, Nat.reduceBEq, Nat.reduceEqDiff, Nat.reduceAdd, Int.reduceEq, Int.reduceLT, Int.reduceLE, Int.reduceGT, Int.reduceGE, q5, fa, ld, il, ll, w3]
  refine condK_of (fun q6 => ?_) (fun q6 => ?_)
  · simp only [RT, Nat.reduceLT, Nat.reduceBEq, Nat.reduceEqDiff, Nat.reduceAdd, Int.reduceEq, Int.reduceLT, Int.reduceLE, Int.reduceGT, Int.reduceGE, bldM0, b1, b2]
    refine ⟨b3, no (.inr (.inr (.inr (.inr (.inr (.inr (.inr ?_)))))))⟩
    omega
  have good : ¬ entBad X := by
    rintro (z | z | z | z | z | z | z | z | z)
    · exact z q1
    · exact q2 z
    · exact q3 z
    · omega
    · omega
    · omega
    · exact z q5
    · omega
    · omega
  simp only [RT, Nat.reduceLT, Nat.reduceBEq, Nat.reduceEqDiff, Nat.reduceAdd, Int.reduceEq, Int.reduceLT, Int.reduceLE, Int.reduceGT, Int.reduceGE, fa, ld, dl]
  refine condK_of (fun q7 => ?_) (fun q7 => ?_)
  · simp only [RT, Nat.reduceLT, Nat.reduceBEq, Nat.reduceEqDiff, Nat.reduceAdd, Int.reduceEq, Int.reduceLT, Int.reduceLE, Int.reduceGT, Int.reduceGE, bldM0, b1, b2]
    have e := entC_long he (by rw [hX]; exact good) (by rw [hX]; omega)
    rw [e] at b4
    exact ⟨b3, b4 (by decide)⟩
  · simp only [RT, Nat.reduceLT, Nat.reduceBEq, Nat.reduceEqDiff, Nat.reduceAdd, Int.reduceEq, Int.reduceLT, Int.reduceLE, Int.reduceGT, Int.reduceGE, ld, g1, ldD]
    have e := entC_ok he (by rw [hX]; exact good) (by rw [hX]; omega)
    exact ⟨fD, ⟨X, dv, iv, lv, by rw [e], hMD, fun _ => hX.symm⟩, fun q => absurd e q⟩
theorem bookCheck_spec {m : Hp} {A : AS} {v : V} {b : Bts} (hw : WF A) (hm : m.on A) (h : Slc eU8 m v b) (hb : b.length ≤ 1000000000000) :
    ∃ w A', EvF Try.prog HH 36 [v] A w A' ∧ Fr S0 A A' ∧ EntOut b w A' := by
  obtain ⟨w, A', h1, h2, h3, _⟩ := bookCheck_specZ hw hm h hb
  exact ⟨w, A', h1, h2, h3⟩
end Go.Sv.Try
namespace Go.Sv.Try
open Go Go.Proofs
set_option linter.unusedVariables false
set_option linter.unusedSimpArgs false
theorem zB : zeroT Try.prog 4 = some (.bool false) := by kernel_rfl
end Go.Sv.Try
namespace Go.Sv.Try
open Go Go.Proofs
set_option linter.unusedVariables false
set_option linter.unusedSimpArgs false
noncomputable def nameOf (b : Bts) : Option (Int × Int) := if entC b = 0 then some ((readMsg b).who, (readMsg b).num) else none
noncomputable def nm (list : List Bts) (i : Nat) : Option (Int × Int) := (list[i]?).bind nameOf
theorem ld_cells {P : Program} {A : AS} {b n : Nat} {t : TypeId} {cs : List V} {k : BK} (ha : aggT P t = some true) (hs : szT P t = some n) (hb : A.blk[b]? = some ⟨cs, k⟩) (hl : cs.length = n) : evLoad P t (.ptr b 0) A = some (.agg cs) := by
  rw [load_agg ha hs]
  unfold AS.range
  rw [hb]
  simp only [hl, Nat.zero_add, Nat.le_refl, if_true, List.drop_zero]
  rw [← hl, List.take_length]; rfl
end Go.Sv.Try
