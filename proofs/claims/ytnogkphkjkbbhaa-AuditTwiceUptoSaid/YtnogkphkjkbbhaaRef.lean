/- The document's way of reading: runs, numbers, sums. -/
import Derived.Test.YtnogkphkjkbbhaaRead
namespace Go.Sv.Try
open Go Go.Proofs
set_option linter.unusedVariables false
set_option linter.unusedSimpArgs false

theorem drop_get {s : Bts} {i : Nat} {x : UInt8} {r : Bts} (h : s.drop i = x :: r) : s[i]? = some x ∧ s.drop (i + 1) = r ∧ i < s.length := by
  have h1 : (s.drop i)[0]? = some x := by rw [h]; rfl
  rw [List.getElem?_drop, Nat.add_zero] at h1
  refine ⟨h1, ?_, (List.getElem?_eq_some_iff.1 h1).1⟩
  rw [← List.drop_drop, h]; rfl

set_option maxRecDepth 10000 in
set_option maxHeartbeats 8000000 in
theorem refTake_spec {A : AS} {s : Bts} {i : Nat} (hi : i ≤ s.length) (hs : s.length ≤ 1000000000000) :
    ∃ w A', EvF Try.prog HH 70 [.str s, .int .i64 i] A w A' ∧ A' = A ∧ ((takeB (s.drop i) = none ∧ w = .tup [.str [], .int .i64 i, .bool false]) ∨
      ∃ x r, takeB (s.drop i) = some (x, r) ∧ w = .tup [.str x, .int .i64 ((i + 3 + x.length : Nat) : Int), .bool true] ∧ r = s.drop (i + 3 + x.length) ∧ i + 3 + x.length ≤ s.length) := by
  refine run_fn2 rfl Try.func70 (by unfold Try.f70; rfl) Try.ntmps70 (by unfold Try.f70; rfl) (by simp) ?_
  have hw1 : IntKind.i64.wrap ((s.length : Int) - i) = (((s.drop i).length : Nat) : Int) := by rw [wrapI (by omega) (by omega), List.length_drop]; omega
  simp only [RS, xs_some, Option.bind_some, Option.map_some, if_true, if_false, decide_true, decide_false, true_and, and_true, Bool.not_true, Bool.not_false, Bool.false_eq_true, not_false_eq_true, not_true_eq_false, Nat.reduceLT, Nat.reduceBEq, Nat.reduceEqDiff, Nat.reduceAdd, Int.reduceEq, Int.reduceLT, Int.reduceLE, Int.reduceGT, Int.reduceGE, beq_self_eq_true, List.getElem?_toArray, List.getElem?_cons_zero, List.getElem?_cons_succ, List.append_nil, List.nil_append, List.cons_append, List.append_eq, evLen_str Try.underlying9, hw1]
  refine condK_of (fun g => ?_) (fun g => ?_)
  · have ht : takeB (s.drop i) = none := by
      match s.drop i, g with
      | [], _ => rfl
      | [a], _ => rfl
      | [a, b], _ => rfl
      | a :: b :: c :: q, g => simp at g; omega
    simp only [RS, xs_some, Option.bind_some, Option.map_some, if_true, if_false, decide_true, decide_false, true_and, and_true, Bool.not_true, Bool.not_false, Bool.false_eq_true, not_false_eq_true, not_true_eq_false, Nat.reduceLT, Nat.reduceBEq, Nat.reduceEqDiff, Nat.reduceAdd, Int.reduceEq, Int.reduceLT, Int.reduceLE, Int.reduceGT, Int.reduceGE, beq_self_eq_true, List.getElem?_toArray, List.getElem?_cons_zero, List.getElem?_cons_succ, List.append_nil, List.nil_append, List.cons_append, List.append_eq]
    exact .inl ht
  · match hd : s.drop i, g with
    | [], g => simp at g
    | [a], g => simp at g
    | [a, b], g => simp at g
    | a :: b :: c :: q, g =>
      clear g
      obtain ⟨x0, d0, i0⟩ := drop_get hd
      obtain ⟨x1, d1, i1⟩ := drop_get d0
      obtain ⟨x2, d2, i2⟩ := drop_get d1
      have ha := a.toNat_lt; have hbb := b.toNat_lt; have hc := c.toNat_lt
      have hql : (s.drop i).length = q.length + 3 := by rw [hd]; rfl
      rw [List.length_drop] at hql
      obtain ⟨n, hn⟩ : ∃ n, n = a.toNat * 65536 + b.toNat * 256 + c.toNat := ⟨_, rfl⟩
      have hnn : n < 16777216 := by omega
      have y0 := str_at (P := Try.prog) (t := 9) (k := .i64) Try.underlying9 x0
      have y1 := str_at (P := Try.prog) (t := 9) (k := .i64) Try.underlying9 x1
      have y2 := str_at (P := Try.prog) (t := 9) (k := .i64) Try.underlying9 x2
      have e1 : IntKind.i64.wrap ((i : Int) + 1) = ((i + 1 : Nat) : Int) := wrapS (by omega)
      have e2 : IntKind.i64.wrap ((i : Int) + 2) = ((i + 1 + 1 : Nat) : Int) := by rw [wrapI (by omega) (by omega)]; omega
      have m1 : IntKind.i64.wrap ((a.toNat : Int) * 65536) = ((a.toNat * 65536 : Nat) : Int) := by rw [wrapI (by omega) (by omega)]; omega
      have m2 : IntKind.i64.wrap ((b.toNat : Int) * 256) = ((b.toNat * 256 : Nat) : Int) := by rw [wrapI (by omega) (by omega)]; omega
      have m3 : IntKind.i64.wrap (((a.toNat * 65536 : Nat) : Int) + ((b.toNat * 256 : Nat) : Int)) = ((a.toNat * 65536 + b.toNat * 256 : Nat) : Int) := by rw [wrapI (by omega) (by omega)]; omega
      have m4 : IntKind.i64.wrap (((a.toNat * 65536 + b.toNat * 256 : Nat) : Int) + (c.toNat : Int)) = (n : Int) := by rw [wrapI (by omega) (by omega)]; omega
      have m5 : IntKind.i64.wrap (((a :: b :: c :: q).length : Int) - 3) = (q.length : Int) := by rw [wrapI (by simp only [List.length_cons]; omega) (by simp only [List.length_cons]; omega)]; simp only [List.length_cons]; omega
      have hw1' : IntKind.i64.wrap ((s.length : Int) - i) = ((a :: b :: c :: q).length : Int) := by rw [← hd]; exact hw1
      have e3 : IntKind.i64.wrap ((i : Int) + 3) = ((i + 3 : Nat) : Int) := by rw [wrapI (by omega) (by omega)]; omega
      have e4 : IntKind.i64.wrap (((i + 3 : Nat) : Int) + (n : Int)) = ((i + 3 + n : Nat) : Int) := by rw [wrapI (by omega) (by omega)]; omega
      simp only [RS, xs_some, Option.bind_some, Option.map_some, if_true, if_false, decide_true, decide_false, true_and, and_true, Bool.not_true, Bool.not_false, Bool.false_eq_true, not_false_eq_true, not_true_eq_false, Nat.reduceLT, Nat.reduceBEq, Nat.reduceEqDiff, Nat.reduceAdd, Int.reduceEq, Int.reduceLT, Int.reduceLE, Int.reduceGT, Int.reduceGE, beq_self_eq_true, List.getElem?_toArray, List.getElem?_cons_zero, List.getElem?_cons_succ, List.append_nil, List.nil_append, List.cons_append, List.append_eq]
      rw [pl_70_3, run_plan_id (by rfl)]
      simp only [RS, xs_some, Option.bind_some, Option.map_some, if_true, if_false, decide_true, decide_false, true_and, and_true, Bool.not_true, Bool.not_false, Bool.false_eq_true, not_false_eq_true, not_true_eq_false, Nat.reduceLT, Nat.reduceBEq, Nat.reduceEqDiff, Nat.reduceAdd, Int.reduceEq, Int.reduceLT, Int.reduceLE, Int.reduceGT, Int.reduceGE, beq_self_eq_true, List.getElem?_toArray, List.getElem?_cons_zero, List.getElem?_cons_succ, List.append_nil, List.nil_append, List.cons_append, List.append_eq, y0, y1, y2, cnv83, e1, e2, m1, m2, m3, m4, evLen_str Try.underlying9, hw1', m5]
      simp only [takeB, ← hn]
      refine condK_of (fun g => ?_) (fun g => ?_)
      · simp only [RS, xs_some, Option.bind_some, Option.map_some, if_true, if_false, decide_true, decide_false, true_and, and_true, Bool.not_true, Bool.not_false, Bool.false_eq_true, not_false_eq_true, not_true_eq_false, Nat.reduceLT, Nat.reduceBEq, Nat.reduceEqDiff, Nat.reduceAdd, Int.reduceEq, Int.reduceLT, Int.reduceLE, Int.reduceGT, Int.reduceGE, beq_self_eq_true, List.getElem?_toArray, List.getElem?_cons_zero, List.getElem?_cons_succ, List.append_nil, List.nil_append, List.cons_append, List.append_eq]
        exact .inl (if_pos (by omega))
      · have hsub := str_sub (P := Try.prog) (A := A) (t := 9) (l := s) (k := .i64) (k' := .i64) (lo := i + 3) (hi := i + 3 + n) Try.underlying9 (by omega) (by omega)
        simp only [RS, xs_some, Option.bind_some, Option.map_some, if_true, if_false, decide_true, decide_false, true_and, and_true, Bool.not_true, Bool.not_false, Bool.false_eq_true, not_false_eq_true, not_true_eq_false, Nat.reduceLT, Nat.reduceBEq, Nat.reduceEqDiff, Nat.reduceAdd, Int.reduceEq, Int.reduceLT, Int.reduceLE, Int.reduceGT, Int.reduceGE, beq_self_eq_true, List.getElem?_toArray, List.getElem?_cons_zero, List.getElem?_cons_succ, List.append_nil, List.nil_append, List.cons_append, List.append_eq, e3, e4, hsub]
        rw [if_neg (by omega)]
        have hx : (s.take (i + 3 + n)).drop (i + 3) = q.take n := by
          have d3 : s.drop (i + 3) = q := d2
          rw [List.drop_take, d3, show i + 3 + n - (i + 3) = n by omega]
        have hxl : (q.take n).length = n := by rw [List.length_take]; omega
        rw [hx]
        refine .inr ⟨_, _, rfl, by rw [hxl], ?_, by rw [hxl]; omega⟩
        rw [hxl, ← List.drop_drop]
        rw [show s.drop (i + 3) = q from d2]

set_option maxRecDepth 10000 in
set_option maxHeartbeats 8000000 in
theorem refNumber_spec {A : AS} {s : Bts} (hs : s.length ≤ 1000000000000) (hne : s ≠ []) :
    ∃ w A', EvF Try.prog HH 90 [.str s] A w A' ∧ A' = A ∧ ((numOf s = none ∧ ∃ n : Int, w = .tup [.int .i64 n, .bool false]) ∨ ∃ n : Nat, numOf s = some n ∧ w = .tup [.int .i64 n, .bool true]) := by
  refine run_fn2 rfl Try.func90 (by unfold Try.f90; rfl) Try.ntmps90 (by unfold Try.f90; rfl) (by simp) ?_
  obtain ⟨z, hz⟩ := get_lt (l := s) (i := 0) (by have : s.length ≠ 0 := fun q => hne (List.eq_nil_of_length_eq_zero q); omega)
  have y0 := str_at (P := Try.prog) (t := 9) (k := .i64) Try.underlying9 hz
  have y0 : evIndex Try.prog 9 (.str s) (.int .i64 0) = some (.int .u8 z.toNat) := y0
  have z0 : s[0]? = some 0 ↔ z = 0 := by rw [hz]; simp
  have hlen := fun B => evLen_str (P := Try.prog) Try.underlying9 s B
  simp only [RS, xs_some, Option.bind_some, Option.map_some, if_true, if_false, decide_true, decide_false, true_and, and_true, Bool.not_true, Bool.not_false, Bool.false_eq_true, not_false_eq_true, not_true_eq_false, Nat.reduceLT, Nat.reduceBEq, Nat.reduceEqDiff, Nat.reduceAdd, Int.reduceEq, Int.reduceLT, Int.reduceLE, Int.reduceGT, Int.reduceGE, beq_self_eq_true, List.getElem?_toArray, List.getElem?_cons_zero, List.getElem?_cons_succ, List.append_nil, List.nil_append, List.cons_append, List.append_eq, hne, y0]
  refine contG_of (fun g1 => ?_) (fun g1 => ?_)
  · simp only [RS, xs_some, Option.bind_some, Option.map_some, if_true, if_false, decide_true, decide_false, true_and, and_true, Bool.not_true, Bool.not_false, Bool.false_eq_true, not_false_eq_true, not_true_eq_false, Nat.reduceLT, Nat.reduceBEq, Nat.reduceEqDiff, Nat.reduceAdd, Int.reduceEq, Int.reduceLT, Int.reduceLE, Int.reduceGT, Int.reduceGE, beq_self_eq_true, List.getElem?_toArray, List.getElem?_cons_zero, List.getElem?_cons_succ, List.append_nil, List.nil_append, List.cons_append, List.append_eq, g1]
    have : z = 0 := UInt8.toNat_inj.1 (by simpa using g1)
    exact .inl ⟨by unfold numOf; rw [if_pos (.inr (.inl (z0.2 this)))], _, rfl⟩
  have hz0 : z ≠ 0 := fun q => g1 (by rw [q]; rfl)
  simp only [RS, xs_some, Option.bind_some, Option.map_some, if_true, if_false, decide_true, decide_false, true_and, and_true, Bool.not_true, Bool.not_false, Bool.false_eq_true, not_false_eq_true, not_true_eq_false, Nat.reduceLT, Nat.reduceBEq, Nat.reduceEqDiff, Nat.reduceAdd, Int.reduceEq, Int.reduceLT, Int.reduceLE, Int.reduceGT, Int.reduceGE, beq_self_eq_true, List.getElem?_toArray, List.getElem?_cons_zero, List.getElem?_cons_succ, List.append_nil, List.nil_append, List.cons_append, List.append_eq, g1, hlen]
  refine condK_of (fun g2 => ?_) (fun g2 => ?_)
  · simp only [RS, xs_some, Option.bind_some, Option.map_some, if_true, if_false, decide_true, decide_false, true_and, and_true, Bool.not_true, Bool.not_false, Bool.false_eq_true, not_false_eq_true, not_true_eq_false, Nat.reduceLT, Nat.reduceBEq, Nat.reduceEqDiff, Nat.reduceAdd, Int.reduceEq, Int.reduceLT, Int.reduceLE, Int.reduceGT, Int.reduceGE, beq_self_eq_true, List.getElem?_toArray, List.getElem?_cons_zero, List.getElem?_cons_succ, List.append_nil, List.nil_append, List.cons_append, List.append_eq]
    exact .inl ⟨by unfold numOf; rw [if_pos (.inr (.inr (.inl (by omega))))], _, rfl⟩
  simp only [RS, xs_some, Option.bind_some, Option.map_some, if_true, if_false, decide_true, decide_false, true_and, and_true, Bool.not_true, Bool.not_false, Bool.false_eq_true, not_false_eq_true, not_true_eq_false, Nat.reduceLT, Nat.reduceBEq, Nat.reduceEqDiff, Nat.reduceAdd, Int.reduceEq, Int.reduceLT, Int.reduceLE, Int.reduceGT, Int.reduceGE, beq_self_eq_true, List.getElem?_toArray, List.getElem?_cons_zero, List.getElem?_cons_succ, List.append_nil, List.nil_append, List.cons_append, List.append_eq]
  refine run_loop (fun k e B => B = A ∧ e.get 0 = .str s ∧ ∃ i : Nat, k = s.length - i ∧ i ≤ s.length ∧ e.get 5 = .int .i64 i ∧ e.get 4 = .int .i64 (valOf (s.take i) : Nat))
    ⟨_, rfl, rfl, 0, rfl, by simp, rfl, by simp [valOf, Env.get]⟩ ?_
  rintro k e B ⟨rfl, h0, i, rfl, hi, h5, h4⟩
  have hv := valOf_lt (s.take i)
  have hv2 : valOf (s.take i) < 281474976710656 := Nat.lt_of_lt_of_le hv (by
    have : (256 : Nat) ^ (s.take i).length ≤ 256 ^ 6 := Nat.pow_le_pow_right (by decide) (by rw [List.length_take]; omega)
    omega)
  simp only [RS, xs_some, Option.bind_some, Option.map_some, if_true, if_false, decide_true, decide_false, true_and, and_true, Bool.not_true, Bool.not_false, Bool.false_eq_true, not_false_eq_true, not_true_eq_false, Nat.reduceLT, Nat.reduceBEq, Nat.reduceEqDiff, Nat.reduceAdd, Int.reduceEq, Int.reduceLT, Int.reduceLE, Int.reduceGT, Int.reduceGE, beq_self_eq_true, List.getElem?_toArray, List.getElem?_cons_zero, List.getElem?_cons_succ, List.append_nil, List.nil_append, List.cons_append, List.append_eq, h5, h0, hlen]
  refine condK_of (fun g => ?_) (fun g => ?_)
  · obtain ⟨x, hx⟩ := get_lt (l := s) (i := i) (by omega)
    have hxt := x.toNat_lt
    have y1 := str_at (P := Try.prog) (t := 9) (k := .i64) Try.underlying9 hx
    have m1 : IntKind.i64.wrap (((valOf (s.take i) : Nat) : Int) * 256) = ((valOf (s.take i) * 256 : Nat) : Int) := by rw [wrapI (by omega) (by omega)]; omega
    have m2 : IntKind.i64.wrap (((valOf (s.take i) * 256 : Nat) : Int) + (x.toNat : Int)) = ((valOf (s.take (i + 1)) : Nat) : Int) := by rw [valOf_succ hx, wrapI (by omega) (by omega)]; omega
    simp only [RS, xs_some, Option.bind_some, Option.map_some, if_true, if_false, decide_true, decide_false, true_and, and_true, Bool.not_true, Bool.not_false, Bool.false_eq_true, not_false_eq_true, not_true_eq_false, Nat.reduceLT, Nat.reduceBEq, Nat.reduceEqDiff, Nat.reduceAdd, Int.reduceEq, Int.reduceLT, Int.reduceLE, Int.reduceGT, Int.reduceGE, beq_self_eq_true, List.getElem?_toArray, List.getElem?_cons_zero, List.getElem?_cons_succ, List.append_nil, List.nil_append, List.cons_append, List.append_eq, h4, h0, h5, y1, cnv83, m1, m2]
    exact ⟨s.length - (i + 1), by omega, i + 1, rfl, by omega, by rw [wrapS (by omega)], rfl⟩
  · have : i = s.length := by omega
    subst this
    rw [List.take_length] at h4 hv2
    simp only [RS, xs_some, Option.bind_some, Option.map_some, if_true, if_false, decide_true, decide_false, true_and, and_true, Bool.not_true, Bool.not_false, Bool.false_eq_true, not_false_eq_true, not_true_eq_false, Nat.reduceLT, Nat.reduceBEq, Nat.reduceEqDiff, Nat.reduceAdd, Int.reduceEq, Int.reduceLT, Int.reduceLE, Int.reduceGT, Int.reduceGE, beq_self_eq_true, List.getElem?_toArray, List.getElem?_cons_zero, List.getElem?_cons_succ, List.append_nil, List.nil_append, List.cons_append, List.append_eq, h4]
    by_cases hc : valOf s ≤ 1099511627776
    · refine .inr ⟨valOf s, ?_, ?_⟩
      · unfold numOf
        rw [if_neg]
        rintro (q | q | q | q)
        · exact hne q
        · exact hz0 (z0.1 q)
        · omega
        · omega
      · have : ((valOf s : Nat) : Int) ≤ 1099511627776 := by omega
        simp only [this, decide_true]
    · refine .inl ⟨by unfold numOf; rw [if_pos (.inr (.inr (.inr (by omega))))], ((valOf s : Nat) : Int), ?_⟩
      have : ¬ ((valOf s : Nat) : Int) ≤ 1099511627776 := by omega
      simp only [this, decide_false]

theorem putAt_bc {l : Bts} {i : Nat} {x : UInt8} (hi : i < l.length) : putAt (bc l) i [.int .u8 (x.toNat : Int)] = bc (l.set i x) := by
  unfold putAt
  simp only [List.length_singleton, bc]
  rw [List.map_set, List.set_eq_take_append_cons_drop, if_pos (by simpa using hi)]
  simp
theorem set_fill {s : Bts} {n i : Nat} {x : UInt8} (hx : s[i]? = some x) (hi : i < n) (hn : n ≤ s.length) : (s.take i ++ List.replicate (n - i) 0).set i x = s.take (i + 1) ++ List.replicate (n - (i + 1)) 0 := by
  have hl : (s.take i).length = i := by rw [List.length_take]; omega
  rw [List.set_append_right _ _ (by omega), hl, Nat.sub_self, show n - i = (n - (i + 1)) + 1 by omega, List.replicate_succ, List.set_cons_zero, List.take_add_one, hx]
  simp

set_option maxRecDepth 10000 in
set_option maxHeartbeats 8000000 in
theorem refId_spec {A : AS} {s : Bts} {at_ : Nat} (hs : s.length ≤ 1000000000000) (ha : at_ + 32 ≤ s.length) :
    ∃ w A', EvF Try.prog HH 91 [.str s, .int .i64 at_] A w A' ∧ w = .agg (bc ((s.drop at_).take 32)) ∧ Fr S0 A A' := by
  refine run_fn2 rfl Try.func91 (by unfold Try.f91; rfl) Try.ntmps91 (by unfold Try.f91; rfl) (by simp) ?_
  simp only [RS, xs_some, Option.bind_some, Option.map_some, if_true, if_false, decide_true, decide_false, true_and, and_true, Bool.not_true, Bool.not_false, Bool.false_eq_true, not_false_eq_true, not_true_eq_false, Nat.reduceLT, Nat.reduceBEq, Nat.reduceEqDiff, Nat.reduceAdd, Int.reduceEq, Int.reduceLT, Int.reduceLE, Int.reduceGT, Int.reduceGE, beq_self_eq_true, List.getElem?_toArray, List.getElem?_cons_zero, List.getElem?_cons_succ, List.append_nil, List.nil_append, List.cons_append, List.append_eq, zcI, bldZ]
  obtain ⟨A1, e1, f1, r1, n1⟩ := new_var A (bc zero32)
  rw [← e1]
  obtain ⟨A2, s1, s2, s3, s4⟩ := new_set (P := Try.prog) A1 (z := bc zero32) (t := 37) (x := .agg (bc zero32)) (cs := bc zero32) rfl sz37 rfl (bc_one zero32)
  simp only [RS, xs_some, Option.bind_some, Option.map_some, if_true, if_false, decide_true, decide_false, true_and, and_true, Bool.not_true, Bool.not_false, Bool.false_eq_true, not_false_eq_true, not_true_eq_false, Nat.reduceLT, Nat.reduceBEq, Nat.reduceEqDiff, Nat.reduceAdd, Int.reduceEq, Int.reduceLT, Int.reduceLE, Int.reduceGT, Int.reduceGE, beq_self_eq_true, List.getElem?_toArray, List.getElem?_cons_zero, List.getElem?_cons_succ, List.append_nil, List.nil_append, List.cons_append, List.append_eq, s1]
  obtain ⟨u, hu⟩ : ∃ u, u = (s.drop at_).take 32 := ⟨_, rfl⟩
  have hul : u.length = 32 := by rw [hu, List.length_take, List.length_drop]; omega
  rw [← hu]
  refine run_loop (fun k e B => Fr S0 A B ∧ B.blk[A.blk.length]? = some ⟨bc zero32, .var⟩ ∧ e.get 0 = .str s ∧ e.get 1 = .int .i64 at_ ∧ e.get 5 = .ptr A1.blk.length 0 ∧ e.get 4 = .ptr A.blk.length 0 ∧ ∃ i : Nat, k = 32 - i ∧ i ≤ 32 ∧ e.get 6 = .int .i64 i ∧ B.blk[A1.blk.length]? = some ⟨bc (u.take i ++ List.replicate (32 - i) 0), .var⟩)
    ⟨_, f1.then0 s2, s2.row0 r1, rfl, rfl, rfl, rfl, 0, rfl, by simp, rfl, s3⟩ ?_
  rintro k e B ⟨hf, hr, h0, h1, h5, h4, i, rfl, hi, h6, row⟩
  have l1 := row_lt r1
  simp only [RS, xs_some, Option.bind_some, Option.map_some, if_true, if_false, decide_true, decide_false, true_and, and_true, Bool.not_true, Bool.not_false, Bool.false_eq_true, not_false_eq_true, not_true_eq_false, Nat.reduceLT, Nat.reduceBEq, Nat.reduceEqDiff, Nat.reduceAdd, Int.reduceEq, Int.reduceLT, Int.reduceLE, Int.reduceGT, Int.reduceGE, beq_self_eq_true, List.getElem?_toArray, List.getElem?_cons_zero, List.getElem?_cons_succ, List.append_nil, List.nil_append, List.cons_append, List.append_eq, h6]
  refine condK_of (fun g => ?_) (fun g => ?_)
  · obtain ⟨x, hx⟩ := get_lt (l := u) (i := i) (by omega)
    have hxs : s[at_ + i]? = some x := by
      rw [hu, List.getElem?_take_of_lt (by omega), List.getElem?_drop] at hx; exact hx
    have y1 := str_at (P := Try.prog) (t := 9) (k := .i64) Try.underlying9 hxs
    have e2 : IntKind.i64.wrap ((at_ : Int) + (i : Int)) = ((at_ + i : Nat) : Int) := by rw [wrapI (by omega) (by omega)]; omega
    have had : evIndexAddr Try.prog 37 (.ptr A1.blk.length 0) (.int .i64 (i : Int)) = some (.ptr A1.blk.length i) := by
      have := arr_addr (P := Try.prog) (t := 37) (b := A1.blk.length) (o := 0) (k := .i64) (i := i) Try.underlying37 sz5 (by omega)
      simpa using this
    have hll : (u.take i ++ List.replicate (32 - i) (0 : UInt8)).length = 32 := by rw [List.length_append, List.length_take, List.length_replicate]; omega
    obtain ⟨C, t1, t2, t3, t4⟩ := store_var (P := Try.prog) (t := 5) (o := i) (x := .int .u8 x.toNat) row rfl sz5 (by rw [bc_len, hll]; simp; omega) rfl
    rw [putAt_bc (by omega), set_fill hx (by omega) (by omega)] at t3
    simp only [RS, xs_some, Option.bind_some, Option.map_some, if_true, if_false, decide_true, decide_false, true_and, and_true, Bool.not_true, Bool.not_false, Bool.false_eq_true, not_false_eq_true, not_true_eq_false, Nat.reduceLT, Nat.reduceBEq, Nat.reduceEqDiff, Nat.reduceAdd, Int.reduceEq, Int.reduceLT, Int.reduceLE, Int.reduceGT, Int.reduceGE, beq_self_eq_true, List.getElem?_toArray, List.getElem?_cons_zero, List.getElem?_cons_succ, List.append_nil, List.nil_append, List.cons_append, List.append_eq, h6, h0, h1, e2, y1, h5, had, t1]
    exact ⟨32 - (i + 1), by omega, hf.row_ t2 (by omega), t2.rowNe hr (by omega), h4, i + 1, rfl, by omega, by rw [wrapS (by omega)], t3⟩
  · have : i = 32 := by omega
    subst this
    rw [List.take_of_length_le (by omega), Nat.sub_self, List.replicate_zero, List.append_nil] at row
    have ld : evLoad Try.prog 37 (.ptr A1.blk.length 0) B = some (.agg (bc u)) := by
      rw [load_agg ag37 sz37]
      unfold AS.range
      rw [row]
      simp only [bc_len, hul]
      rw [if_pos (by decide), List.drop_zero, List.take_of_length_le (by rw [bc_len, hul]; decide)]; rfl
    obtain ⟨C, t1, t2, t3, t4⟩ := store_var (P := Try.prog) (t := 37) (o := 0) (x := .agg (bc u)) hr rfl (by rw [bc_len, hul]; exact sz37) (by rw [bc_len, bc_len, hul]; decide) (bc_one u)
    rw [putAt_all (by rw [bc_len, bc_len, hul]; rfl)] at t3
    have ld2 : evLoad Try.prog 37 (.ptr A.blk.length 0) C = some (.agg (bc u)) := by
      rw [load_agg ag37 sz37]
      unfold AS.range
      rw [t3]
      simp only [bc_len, hul]
      rw [if_pos (by decide), List.drop_zero, List.take_of_length_le (by rw [bc_len, hul]; decide)]; rfl
    simp only [RS, xs_some, Option.bind_some, Option.map_some, if_true, if_false, decide_true, decide_false, true_and, and_true, Bool.not_true, Bool.not_false, Bool.false_eq_true, not_false_eq_true, not_true_eq_false, Nat.reduceLT, Nat.reduceBEq, Nat.reduceEqDiff, Nat.reduceAdd, Int.reduceEq, Int.reduceLT, Int.reduceLE, Int.reduceGT, Int.reduceGE, beq_self_eq_true, List.getElem?_toArray, List.getElem?_cons_zero, List.getElem?_cons_succ, List.append_nil, List.nil_append, List.cons_append, List.append_eq, h5, ld, h4, t1, ld2]
    exact hf.row_ t2 (Nat.le_refl _)
end Go.Sv.Try


namespace Go.Sv.Try
open Go Go.Proofs
set_option linter.unusedVariables false
set_option linter.unusedSimpArgs false

/-- What putting a field in hands back. -/
def PutOut (M : M) (t : Nat) (x : Bts) (w : V) (B : AS) : Prop := (∃ e cs, putM M t x = .error e ∧ e ≠ 0 ∧ w = .tup [.agg cs, .int .i64 e] ∧ cs.length = 41 ∧ cs.all V.one = true) ∨
  ∃ M' dv iv lv, putM M t x = .ok M' ∧ w = .tup [.agg (mc M' dv iv lv), .int .i64 0] ∧ MsgIn (arrHp B) M' dv iv lv ∧ (t < 8 → M.ids = [] → iv = .snil ∧ M'.ids = []) ∧ (t < 9 → M.list = [] → lv = .snil ∧ M'.list = [])

set_option maxRecDepth 10000 in
set_option maxHeartbeats 32000000 in
theorem refPut_spec {A : AS} {x : Bts} {t : Nat} {M : Go.Sv.M} {dv iv lv : V} (hw : WF A) (hM : MsgIn (arrHp A) M dv iv lv) (ht1 : 1 ≤ t) (ht9 : t ≤ 9) (hxl : x.length ≤ 16777215) (hiv : t ≤ 8 → iv = .snil ∧ M.ids = []) (hlv : lv = .snil ∧ M.list = []) :
    ∃ w A', EvF Try.prog HH 71 [.agg (mc M dv iv lv), .int .i64 t, .str x] A w A' ∧ Fr S0 A A' ∧ PutOut M t x w A' := by
  refine run_fn2 rfl Try.func71 (by unfold Try.f71; rfl) Try.ntmps71 (by unfold Try.f71; rfl) (by simp) ?_
  have hid := hM.id
  have zid : (msg0 0).id.length = 32 := rfl
  simp only [RS, xs_some, Option.bind_some, Option.map_some, if_true, if_false, decide_true, decide_false, true_and, and_true, Bool.not_true, Bool.not_false, Bool.false_eq_true, not_false_eq_true, not_true_eq_false, Nat.reduceLT, Nat.reduceBEq, Nat.reduceEqDiff, Nat.reduceAdd, Int.reduceEq, Int.reduceLT, Int.reduceLE, Int.reduceGT, Int.reduceGE, beq_self_eq_true, List.getElem?_toArray, List.getElem?_cons_zero, List.getElem?_cons_succ, List.append_nil, List.nil_append, List.cons_append, List.append_eq, zcM]
  obtain ⟨A1, e1, f1, r1, n1⟩ := new_var A (mc M dv iv lv)
  rw [← e1]
  obtain ⟨A2, e2, f2, r2, n2⟩ := new_var A1 mcZ
  rw [← e2]
  have hM2 : MsgIn (arrHp A2) M dv iv lv := hM.mono (Hp.le_trans (arrHp_le f1 fun b q => q.elim) (arrHp_le f2 fun b q => q.elim))
  have fA2 := f1.then0 f2
  obtain ⟨bm, hbm⟩ : ∃ y, y = A.blk.length := ⟨_, rfl⟩
  obtain ⟨b6, hb6⟩ : ∃ y, y = A1.blk.length := ⟨_, rfl⟩
  rw [← hbm, ← hb6]
  have r1 : A2.blk[bm]? = some ⟨mc M dv iv lv, .var⟩ := by rw [hbm]; exact f2.row0 r1
  have r2 : A2.blk[b6]? = some ⟨mcZ, .var⟩ := by rw [hb6]; exact r2
  have hne : bm ≠ b6 := by omega
  have hbmN : A.blk.length ≤ bm := by omega
  have hb6N : A.blk.length ≤ b6 := by omega
  have fa := faM bm
  have ldm := ldM r1 hid
  -- an error
  have fail : ∀ {C : AS} {n : Int} {M' : Go.Sv.M} {dv' iv' lv' : V}, Fr S0 A C → C.blk[bm]? = some ⟨mc M' dv' iv' lv', .var⟩ → C.blk[b6]? = some ⟨mcZ, .var⟩ → M'.id.length = 32 → (mc M' dv' iv' lv').all V.one = true → putM M t x = .error n → n ≠ 0 →
      ∃ C', evStore Try.prog 41 (.ptr b6 0) (.agg (mc M' dv' iv' lv')) C = some C' ∧ evLoad Try.prog 41 (.ptr b6 0) C' = some (.agg (mc M' dv' iv' lv')) ∧ Fr S0 A C' ∧ PutOut M t x (.tup [.agg (mc M' dv' iv' lv'), .int .i64 n]) C' := by
    intro C n M' dv' iv' lv' z1 z2 z3 z4 z5 z6 z7
    obtain ⟨C', y1, y2, y3⟩ := setM (o := 0) (t := 41) (w := .agg (mc M' dv' iv' lv')) (cs := mc M' dv' iv' lv') z3 zid rfl (by rw [mc_len z4]; exact sz41) (by rw [mc_len z4]; decide) z5
    rw [putAt_all (by rw [mc_len zid, mc_len z4])] at y3
    exact ⟨C', y1, (ldM y3 z4).2.2.2.2.2.2.2.2.2.2, z1.row_ y2 hb6N, .inl ⟨n, _, z6, z7, rfl, mc_len z4, z5⟩⟩
  -- the message
  have good : ∀ {C : AS} {M' : Go.Sv.M} {dv' iv' lv' : V}, Fr S0 A C → C.blk[bm]? = some ⟨mc M' dv' iv' lv', .var⟩ → C.blk[b6]? = some ⟨mcZ, .var⟩ → MsgIn (arrHp C) M' dv' iv' lv' → putM M t x = .ok M' → (t < 8 → M.ids = [] → iv' = .snil ∧ M'.ids = []) → (t < 9 → M.list = [] → lv' = .snil ∧ M'.list = []) →
      ∃ C', evStore Try.prog 41 (.ptr b6 0) (.agg (mc M' dv' iv' lv')) C = some C' ∧ evLoad Try.prog 41 (.ptr b6 0) C' = some (.agg (mc M' dv' iv' lv')) ∧ Fr S0 A C' ∧ PutOut M t x (.tup [.agg (mc M' dv' iv' lv'), .int .i64 0]) C' := by
    intro C M' dv' iv' lv' z1 z2 z3 z4 z6 z7 z8
    obtain ⟨C', y1, y2, y3⟩ := setM (o := 0) (t := 41) (w := .agg (mc M' dv' iv' lv')) (cs := mc M' dv' iv' lv') z3 zid rfl (by rw [mc_len z4.id]; exact sz41) (by rw [mc_len z4.id]; decide) (mc_one z4)
    rw [putAt_all (by rw [mc_len zid, mc_len z4.id])] at y3
    exact ⟨C', y1, (ldM y3 z4.id).2.2.2.2.2.2.2.2.2.2, z1.row_ y2 hb6N, .inr ⟨M', dv', iv', lv', z6, rfl, z4.mono (arrHp_le y2 fun b q => by cases q; exact arrHp_var z3), z7, z8⟩⟩
  by_cases hx0 : x = []
  · have hp : putM M t x = .error 23 := by unfold putM; rw [if_pos hx0]
    obtain ⟨C, y1, y2, y3, y4⟩ := fail fA2 r1 r2 hid (mc_one hM2) hp (by decide)
    simp only [RS, xs_some, Option.bind_some, Option.map_some, if_true, if_false, decide_true, decide_false, true_and, and_true, Bool.not_true, Bool.not_false, Bool.false_eq_true, not_false_eq_true, not_true_eq_false, Nat.reduceLT, Nat.reduceBEq, Nat.reduceEqDiff, Nat.reduceAdd, Int.reduceEq, Int.reduceLT, Int.reduceLE, Int.reduceGT, Int.reduceGE, beq_self_eq_true, List.getElem?_toArray, List.getElem?_cons_zero, List.getElem?_cons_succ, List.append_nil, List.nil_append, List.cons_append, List.append_eq, hx0, ldm, y1, y2]
    rw [hx0] at y4
    exact ⟨y3, y4⟩
  simp only [RS, xs_some, Option.bind_some, Option.map_some, if_true, if_false, decide_true, decide_false, true_and, and_true, Bool.not_true, Bool.not_false, Bool.false_eq_true, not_false_eq_true, not_true_eq_false, Nat.reduceLT, Nat.reduceBEq, Nat.reduceEqDiff, Nat.reduceAdd, Int.reduceEq, Int.reduceLT, Int.reduceLE, Int.reduceGT, Int.reduceGE, beq_self_eq_true, List.getElem?_toArray, List.getElem?_cons_zero, List.getElem?_cons_succ, List.append_nil, List.nil_append, List.cons_append, List.append_eq, hx0]
  refine condK_of (fun g1 => ?_) (fun g1 => ?_)
  · -- a number
    have ht6 : t < 6 := by omega
    obtain ⟨w, _, k1, rfl, k2⟩ := refNumber_spec (A := A2) (s := x) (by omega) hx0
    have ne6 : ¬ ((t : Int) = 6) := by omega
    have ne7 : ¬ ((t : Int) = 7) := by omega
    have ne8 : ¬ ((t : Int) = 8) := by omega
    have ne9 : ¬ ((t : Int) = 9) := by omega
    simp only [RS, xs_some, Option.bind_some, Option.map_some, if_true, if_false, decide_true, decide_false, true_and, and_true, Bool.not_true, Bool.not_false, Bool.false_eq_true, not_false_eq_true, not_true_eq_false, Nat.reduceLT, Nat.reduceBEq, Nat.reduceEqDiff, Nat.reduceAdd, Int.reduceEq, Int.reduceLT, Int.reduceLE, Int.reduceGT, Int.reduceGE, beq_self_eq_true, List.getElem?_toArray, List.getElem?_cons_zero, List.getElem?_cons_succ, List.append_nil, List.nil_append, List.cons_append, List.append_eq]
    refine run_call1 k1 ?_
    rcases k2 with ⟨k2, n, rfl⟩ | ⟨n, k2, rfl⟩
    · have hp : putM M t x = .error 23 := by unfold putM; rw [if_neg hx0, if_pos ht6, k2]
      obtain ⟨C, y1, y2, y3, y4⟩ := fail fA2 r1 r2 hid (mc_one hM2) hp (by decide)
      simp only [RS, xs_some, Option.bind_some, Option.map_some, if_true, if_false, decide_true, decide_false, true_and, and_true, Bool.not_true, Bool.not_false, Bool.false_eq_true, not_false_eq_true, not_true_eq_false, Nat.reduceLT, Nat.reduceBEq, Nat.reduceEqDiff, Nat.reduceAdd, Int.reduceEq, Int.reduceLT, Int.reduceLE, Int.reduceGT, Int.reduceGE, beq_self_eq_true, List.getElem?_toArray, List.getElem?_cons_zero, List.getElem?_cons_succ, List.append_nil, List.nil_append, List.cons_append, List.append_eq, ldm, y1, y2]
      exact ⟨y3, y4⟩
    · have hp : putM M t x = .ok (setNum M t n) := by unfold putM; rw [if_neg hx0, if_pos ht6, k2]
      obtain ⟨z1, z2, z3, z4⟩ := setNum_id M t n
      obtain ⟨C, y1, y2, y3⟩ := setM (o := t) (t := 3) (w := .int .i64 n) (cs := [.int .i64 n]) r1 hid rfl sz3 (by simp only [List.length_singleton]; omega) rfl
      rw [mc_num ht1 ht6] at y3
      have le := arrHp_le y2 (fun b q => by cases q; exact arrHp_var r1)
      have hMC : MsgIn (arrHp C) (setNum M t n) dv iv lv := ⟨by rw [z1]; exact hid, by rw [z2]; exact hM2.data.mono le, by rw [z3]; exact hM2.ids.mono le, by rw [z4]; exact hM2.list.mono le⟩
      have fC := fA2.row_ y2 hbmN
      have ldc := ldM y3 hMC.id
      obtain ⟨D, v1, v2, v3, v4⟩ := good fC y3 (y2.rowNe r2 (show b6 ≠ bm by omega)) hMC hp (fun _ q => ⟨(hiv (by omega)).1, by rw [z3]; exact q⟩) (fun _ q => ⟨hlv.1, by rw [z4]; exact q⟩)
      have d1 : ((1 : Nat) : Int) = 1 := rfl
      have d2 : ((2 : Nat) : Int) = 2 := rfl
      have d3 : ((3 : Nat) : Int) = 3 := rfl
      have d4 : ((4 : Nat) : Int) = 4 := rfl
      have d5 : ((5 : Nat) : Int) = 5 := rfl
      have ht : t = 1 ∨ t = 2 ∨ t = 3 ∨ t = 4 ∨ t = 5 := by omega
      rcases ht with rfl | rfl | rfl | rfl | rfl
      · simp only [RS, xs_some, Option.bind_some, Option.map_some, if_true, if_false, decide_true, decide_false, true_and, and_true, Bool.not_true, Bool.not_false, Bool.false_eq_true, not_false_eq_true, not_true_eq_false, Nat.reduceLT, Nat.reduceBEq, Nat.reduceEqDiff, Nat.reduceAdd, Int.reduceEq, Int.reduceLT, Int.reduceLE, Int.reduceGT, Int.reduceGE, beq_self_eq_true, List.getElem?_toArray, List.getElem?_cons_zero, List.getElem?_cons_succ, List.append_nil, List.nil_append, List.cons_append, List.append_eq, fa, y1, d1, ldc, v1, v2]
        exact ⟨v3, v4⟩
      · simp only [RS, xs_some, Option.bind_some, Option.map_some, if_true, if_false, decide_true, decide_false, true_and, and_true, Bool.not_true, Bool.not_false, Bool.false_eq_true, not_false_eq_true, not_true_eq_false, Nat.reduceLT, Nat.reduceBEq, Nat.reduceEqDiff, Nat.reduceAdd, Int.reduceEq, Int.reduceLT, Int.reduceLE, Int.reduceGT, Int.reduceGE, beq_self_eq_true, List.getElem?_toArray, List.getElem?_cons_zero, List.getElem?_cons_succ, List.append_nil, List.nil_append, List.cons_append, List.append_eq, fa, y1, d2, ldc, v1, v2]
        exact ⟨v3, v4⟩
      · simp only [RS, xs_some, Option.bind_some, Option.map_some, if_true, if_false, decide_true, decide_false, true_and, and_true, Bool.not_true, Bool.not_false, Bool.false_eq_true, not_false_eq_true, not_true_eq_false, Nat.reduceLT, Nat.reduceBEq, Nat.reduceEqDiff, Nat.reduceAdd, Int.reduceEq, Int.reduceLT, Int.reduceLE, Int.reduceGT, Int.reduceGE, beq_self_eq_true, List.getElem?_toArray, List.getElem?_cons_zero, List.getElem?_cons_succ, List.append_nil, List.nil_append, List.cons_append, List.append_eq, fa, y1, d3, ldc, v1, v2]
        exact ⟨v3, v4⟩
      · simp only [RS, xs_some, Option.bind_some, Option.map_some, if_true, if_false, decide_true, decide_false, true_and, and_true, Bool.not_true, Bool.not_false, Bool.false_eq_true, not_false_eq_true, not_true_eq_false, Nat.reduceLT, Nat.reduceBEq, Nat.reduceEqDiff, Nat.reduceAdd, Int.reduceEq, Int.reduceLT, Int.reduceLE, Int.reduceGT, Int.reduceGE, beq_self_eq_true, List.getElem?_toArray, List.getElem?_cons_zero, List.getElem?_cons_succ, List.append_nil, List.nil_append, List.cons_append, List.append_eq, fa, y1, d4, ldc, v1, v2]
        exact ⟨v3, v4⟩
      · simp only [RS, xs_some, Option.bind_some, Option.map_some, if_true, if_false, decide_true, decide_false, true_and, and_true, Bool.not_true, Bool.not_false, Bool.false_eq_true, not_false_eq_true, not_true_eq_false, Nat.reduceLT, Nat.reduceBEq, Nat.reduceEqDiff, Nat.reduceAdd, Int.reduceEq, Int.reduceLT, Int.reduceLE, Int.reduceGT, Int.reduceGE, beq_self_eq_true, List.getElem?_toArray, List.getElem?_cons_zero, List.getElem?_cons_succ, List.append_nil, List.nil_append, List.cons_append, List.append_eq, fa, y1, d5, ldc, v1, v2]
        exact ⟨v3, v4⟩
  have ht6 : ¬ t < 6 := by omega
  have hlen := fun B => evLen_str (P := Try.prog) Try.underlying9 x B
  simp only [RS, xs_some, Option.bind_some, Option.map_some, if_true, if_false, decide_true, decide_false, true_and, and_true, Bool.not_true, Bool.not_false, Bool.false_eq_true, not_false_eq_true, not_true_eq_false, Nat.reduceLT, Nat.reduceBEq, Nat.reduceEqDiff, Nat.reduceAdd, Int.reduceEq, Int.reduceLT, Int.reduceLE, Int.reduceGT, Int.reduceGE, beq_self_eq_true, List.getElem?_toArray, List.getElem?_cons_zero, List.getElem?_cons_succ, List.append_nil, List.nil_append, List.cons_append, List.append_eq]
  refine condK_of (fun g2 => ?_) (fun g2 => ?_)
  · -- the sum
    have ht : t = 6 := by omega
    have ne7 : ¬ ((t : Int) = 7) := by omega
    have ne8 : ¬ ((t : Int) = 8) := by omega
    have ne9 : ¬ ((t : Int) = 9) := by omega
    simp only [RS, xs_some, Option.bind_some, Option.map_some, if_true, if_false, decide_true, decide_false, true_and, and_true, Bool.not_true, Bool.not_false, Bool.false_eq_true, not_false_eq_true, not_true_eq_false, Nat.reduceLT, Nat.reduceBEq, Nat.reduceEqDiff, Nat.reduceAdd, Int.reduceEq, Int.reduceLT, Int.reduceLE, Int.reduceGT, Int.reduceGE, beq_self_eq_true, List.getElem?_toArray, List.getElem?_cons_zero, List.getElem?_cons_succ, List.append_nil, List.nil_append, List.cons_append, List.append_eq, hlen]
    refine contG_of (fun g3 => ?_) (fun g3 => ?_)
    · have hp : putM M t x = .error 23 := by unfold putM; rw [if_neg hx0, if_neg ht6, if_pos ht, if_pos (.inl (by omega))]
      obtain ⟨C, y1, y2, y3, y4⟩ := fail fA2 r1 r2 hid (mc_one hM2) hp (by decide)
      simp only [RS, xs_some, Option.bind_some, Option.map_some, if_true, if_false, decide_true, decide_false, true_and, and_true, Bool.not_true, Bool.not_false, Bool.false_eq_true, not_false_eq_true, not_true_eq_false, Nat.reduceLT, Nat.reduceBEq, Nat.reduceEqDiff, Nat.reduceAdd, Int.reduceEq, Int.reduceLT, Int.reduceLE, Int.reduceGT, Int.reduceGE, beq_self_eq_true, List.getElem?_toArray, List.getElem?_cons_zero, List.getElem?_cons_succ, List.append_nil, List.nil_append, List.cons_append, List.append_eq, g3, ldm, y1, y2]
      exact ⟨y3, y4⟩
    have hx32 : x.length = 32 := by omega
    obtain ⟨_, C, k1, rfl, k2⟩ := refId_spec (A := A2) (s := x) (at_ := 0) (by omega) (by omega)
    rw [List.drop_zero, List.take_of_length_le (by omega)] at k1
    have k1 : EvF Try.prog HH 91 [.str x, .int .i64 0] A2 (.agg (bc x)) C := k1
    simp only [RS, xs_some, Option.bind_some, Option.map_some, if_true, if_false, decide_true, decide_false, true_and, and_true, Bool.not_true, Bool.not_false, Bool.false_eq_true, not_false_eq_true, not_true_eq_false, Nat.reduceLT, Nat.reduceBEq, Nat.reduceEqDiff, Nat.reduceAdd, Int.reduceEq, Int.reduceLT, Int.reduceLE, Int.reduceGT, Int.reduceGE, beq_self_eq_true, List.getElem?_toArray, List.getElem?_cons_zero, List.getElem?_cons_succ, List.append_nil, List.nil_append, List.cons_append, List.append_eq, g3]
    refine run_call1 k1 ?_
    simp only [RS, xs_some, Option.bind_some, Option.map_some, if_true, if_false, decide_true, decide_false, true_and, and_true, Bool.not_true, Bool.not_false, Bool.false_eq_true, not_false_eq_true, not_true_eq_false, Nat.reduceLT, Nat.reduceBEq, Nat.reduceEqDiff, Nat.reduceAdd, Int.reduceEq, Int.reduceLT, Int.reduceLE, Int.reduceGT, Int.reduceGE, beq_self_eq_true, List.getElem?_toArray, List.getElem?_cons_zero, List.getElem?_cons_succ, List.append_nil, List.nil_append, List.cons_append, List.append_eq, g3, bldZ, eqI hx32 (rfl : zero32.length = 32)]
    have r1C := k2.row0 r1
    have r2C := k2.row0 r2
    have leC := arrHp_le k2 (fun b q => q.elim)
    have ldc := ldM r1C hid
    refine condK_of (fun g4 => ?_) (fun g4 => ?_)
    · have hp : putM M t x = .error 23 := by unfold putM; rw [if_neg hx0, if_neg ht6, if_pos ht, if_pos (.inr g4)]
      obtain ⟨D, y1, y2, y3, y4⟩ := fail (fA2.then0 k2) r1C r2C hid (mc_one hM2) hp (by decide)
      simp only [RS, xs_some, Option.bind_some, Option.map_some, if_true, if_false, decide_true, decide_false, true_and, and_true, Bool.not_true, Bool.not_false, Bool.false_eq_true, not_false_eq_true, not_true_eq_false, Nat.reduceLT, Nat.reduceBEq, Nat.reduceEqDiff, Nat.reduceAdd, Int.reduceEq, Int.reduceLT, Int.reduceLE, Int.reduceGT, Int.reduceGE, beq_self_eq_true, List.getElem?_toArray, List.getElem?_cons_zero, List.getElem?_cons_succ, List.append_nil, List.nil_append, List.cons_append, List.append_eq, ldc, y1, y2]
      exact ⟨y3, y4⟩
    · have hp : putM M t x = .ok { M with id := x } := by
        unfold putM; rw [if_neg hx0, if_neg ht6, if_pos ht, if_neg]
        rintro (q | q)
        · exact q hx32
        · exact g4 q
      obtain ⟨_, D, u1, rfl, u2⟩ := refId_spec (A := C) (s := x) (at_ := 0) (by omega) (by omega)
      rw [List.drop_zero, List.take_of_length_le (by omega)] at u1
      have u1 : EvF Try.prog HH 91 [.str x, .int .i64 0] C (.agg (bc x)) D := u1
      simp only [RS, xs_some, Option.bind_some, Option.map_some, if_true, if_false, decide_true, decide_false, true_and, and_true, Bool.not_true, Bool.not_false, Bool.false_eq_true, not_false_eq_true, not_true_eq_false, Nat.reduceLT, Nat.reduceBEq, Nat.reduceEqDiff, Nat.reduceAdd, Int.reduceEq, Int.reduceLT, Int.reduceLE, Int.reduceGT, Int.reduceGE, beq_self_eq_true, List.getElem?_toArray, List.getElem?_cons_zero, List.getElem?_cons_succ, List.append_nil, List.nil_append, List.cons_append, List.append_eq]
      refine run_call1 u1 ?_
      obtain ⟨E, y1, y2, y3⟩ := setM (o := 6) (t := 37) (w := .agg (bc x)) (cs := bc x) (u2.row0 r1C) hid rfl (by rw [bc_len, hx32]; exact sz37) (by rw [bc_len, hx32]; decide) (bc_one x)
      rw [mc_id hid hx32] at y3
      have leD := arrHp_le u2 (fun b q => q.elim)
      have leE := arrHp_le y2 (fun b q => by cases q; exact arrHp_var (u2.row0 r1C))
      have le := Hp.le_trans leC (Hp.le_trans leD leE)
      have hME : MsgIn (arrHp E) { M with id := x } dv iv lv := ⟨hx32, hM2.data.mono le, hM2.ids.mono le, hM2.list.mono le⟩
      have fE := ((fA2.then0 k2).then0 u2).row_ y2 hbmN
      have lde := ldM y3 hME.id
      obtain ⟨F, v1, v2, v3, v4⟩ := good fE y3 (y2.rowNe (u2.row0 r2C) (show b6 ≠ bm by omega)) hME hp (fun _ q => ⟨(hiv (by omega)).1, q⟩) (fun _ q => ⟨hlv.1, q⟩)
      simp only [RS, xs_some, Option.bind_some, Option.map_some, if_true, if_false, decide_true, decide_false, true_and, and_true, Bool.not_true, Bool.not_false, Bool.false_eq_true, not_false_eq_true, not_true_eq_false, Nat.reduceLT, Nat.reduceBEq, Nat.reduceEqDiff, Nat.reduceAdd, Int.reduceEq, Int.reduceLT, Int.reduceLE, Int.reduceGT, Int.reduceGE, beq_self_eq_true, List.getElem?_toArray, List.getElem?_cons_zero, List.getElem?_cons_succ, List.append_nil, List.nil_append, List.cons_append, List.append_eq, fa, y1, ne7, ne8, ne9, lde, v1, v2]
      exact ⟨v3, v4⟩
  have ht7 : ¬ t = 6 := by omega
  simp only [RS, xs_some, Option.bind_some, Option.map_some, if_true, if_false, decide_true, decide_false, true_and, and_true, Bool.not_true, Bool.not_false, Bool.false_eq_true, not_false_eq_true, not_true_eq_false, Nat.reduceLT, Nat.reduceBEq, Nat.reduceEqDiff, Nat.reduceAdd, Int.reduceEq, Int.reduceLT, Int.reduceLE, Int.reduceGT, Int.reduceGE, beq_self_eq_true, List.getElem?_toArray, List.getElem?_cons_zero, List.getElem?_cons_succ, List.append_nil, List.nil_append, List.cons_append, List.append_eq]
  refine condK_of (fun g3 => ?_) (fun g3 => ?_)
  · -- the data
    have ht : t = 7 := by omega
    have ne8 : ¬ ((t : Int) = 8) := by omega
    have ne9 : ¬ ((t : Int) = 9) := by omega
    have hp : putM M t x = .ok { M with data := x } := by unfold putM; rw [if_neg hx0, if_neg ht6, if_neg ht7, if_pos ht]
    have hcv := fun B => cnv_bytes (P := Try.prog) (A := B) (s := 9) (d := 38) (l := x) (by decide) Try.underlying9 Try.underlying38 Try.underlying5
    simp only [RS, xs_some, Option.bind_some, Option.map_some, if_true, if_false, decide_true, decide_false, true_and, and_true, Bool.not_true, Bool.not_false, Bool.false_eq_true, not_false_eq_true, not_true_eq_false, Nat.reduceLT, Nat.reduceBEq, Nat.reduceEqDiff, Nat.reduceAdd, Int.reduceEq, Int.reduceLT, Int.reduceLE, Int.reduceGT, Int.reduceGE, beq_self_eq_true, List.getElem?_toArray, List.getElem?_cons_zero, List.getElem?_cons_succ, List.append_nil, List.nil_append, List.cons_append, List.append_eq, hcv]
    have q1 := Fr.pushArr A2 (bc x)
    have hsl := new_arrBts A2 x (sz := 1) rfl
    have r1C := q1.row0 r1
    have r2C := q1.row0 r2
    have leC := arrHp_le q1 (fun b q => q.elim)
    have e9 : (A2.push ⟨x.map fun u => V.int .u8 u.toNat, .arr A2.blk.length 0⟩) = A2.push ⟨bc x, .arr A2.blk.length 0⟩ := rfl
    rw [e9]
    generalize A2.push ⟨bc x, .arr A2.blk.length 0⟩ = C at *
    obtain ⟨E, y1, y2, y3⟩ := setM (o := 38) (t := 38) (w := .sl A2.blk.length 0 x.length 1) (cs := [.sl A2.blk.length 0 x.length 1]) r1C hid rfl sz38 (by simp) rfl
    rw [mc_data hid x] at y3
    have leE := arrHp_le y2 (fun b q => by cases q; exact arrHp_var r1C)
    have le := Hp.le_trans leC leE
    have hME : MsgIn (arrHp E) { M with data := x } (.sl A2.blk.length 0 x.length 1) iv lv := ⟨hid, hsl.mono leE, hM2.ids.mono le, hM2.list.mono le⟩
    have fE := (fA2.then0 q1).row_ y2 hbmN
    have lde := ldM y3 hME.id
    obtain ⟨F, v1, v2, v3, v4⟩ := good fE y3 (y2.rowNe r2C (show b6 ≠ bm by omega)) hME hp (fun _ q => ⟨(hiv (by omega)).1, q⟩) (fun _ q => ⟨hlv.1, q⟩)
    simp only [RS, xs_some, Option.bind_some, Option.map_some, if_true, if_false, decide_true, decide_false, true_and, and_true, Bool.not_true, Bool.not_false, Bool.false_eq_true, not_false_eq_true, not_true_eq_false, Nat.reduceLT, Nat.reduceBEq, Nat.reduceEqDiff, Nat.reduceAdd, Int.reduceEq, Int.reduceLT, Int.reduceLE, Int.reduceGT, Int.reduceGE, beq_self_eq_true, List.getElem?_toArray, List.getElem?_cons_zero, List.getElem?_cons_succ, List.append_nil, List.nil_append, List.cons_append, List.append_eq, fa, y1, ne8, ne9, lde, v1, v2]
    exact ⟨v3, v4⟩
  have ht8 : ¬ t = 7 := by omega
  simp only [RS, xs_some, Option.bind_some, Option.map_some, if_true, if_false, decide_true, decide_false, true_and, and_true, Bool.not_true, Bool.not_false, Bool.false_eq_true, not_false_eq_true, not_true_eq_false, Nat.reduceLT, Nat.reduceBEq, Nat.reduceEqDiff, Nat.reduceAdd, Int.reduceEq, Int.reduceLT, Int.reduceLE, Int.reduceGT, Int.reduceGE, beq_self_eq_true, List.getElem?_toArray, List.getElem?_cons_zero, List.getElem?_cons_succ, List.append_nil, List.nil_append, List.cons_append, List.append_eq]
  refine condK_of (fun g4 => ?_) (fun g4 => ?_)
  · -- the sums
    have ht : t = 8 := by omega
    have ne9 : ¬ ((t : Int) = 9) := by omega
    obtain ⟨rfl, hids⟩ := hiv (by omega)
    have hrem : evBin Try.prog .rem 3 (.int .i64 (x.length : Int)) (.int .i64 32) = some (.int .i64 ((x.length % 32 : Nat) : Int)) := rem_lit _ 32 (by decide)
    simp only [RS, xs_some, Option.bind_some, Option.map_some, if_true, if_false, decide_true, decide_false, true_and, and_true, Bool.not_true, Bool.not_false, Bool.false_eq_true, not_false_eq_true, not_true_eq_false, Nat.reduceLT, Nat.reduceBEq, Nat.reduceEqDiff, Nat.reduceAdd, Int.reduceEq, Int.reduceLT, Int.reduceLE, Int.reduceGT, Int.reduceGE, beq_self_eq_true, List.getElem?_toArray, List.getElem?_cons_zero, List.getElem?_cons_succ, List.append_nil, List.nil_append, List.cons_append, List.append_eq, hlen, hrem]
    refine condK_of (fun g5 => ?_) (fun g5 => ?_)
    · have hp : putM M t x = .error 23 := by unfold putM; rw [if_neg hx0, if_neg ht6, if_neg ht7, if_neg ht8, if_pos ht, if_pos (by omega)]
      obtain ⟨C, y1, y2, y3, y4⟩ := fail fA2 r1 r2 hid (mc_one hM2) hp (by decide)
      simp only [RS, xs_some, Option.bind_some, Option.map_some, if_true, if_false, decide_true, decide_false, true_and, and_true, Bool.not_true, Bool.not_false, Bool.false_eq_true, not_false_eq_true, not_true_eq_false, Nat.reduceLT, Nat.reduceBEq, Nat.reduceEqDiff, Nat.reduceAdd, Int.reduceEq, Int.reduceLT, Int.reduceLE, Int.reduceGT, Int.reduceGE, beq_self_eq_true, List.getElem?_toArray, List.getElem?_cons_zero, List.getElem?_cons_succ, List.append_nil, List.nil_append, List.cons_append, List.append_eq, ldm, y1, y2]
      exact ⟨y3, y4⟩
    have hp : putM M t x = .ok { M with ids := chunk32 x } := by unfold putM; rw [if_neg hx0, if_neg ht6, if_neg ht7, if_neg ht8, if_pos ht, if_neg (by omega), hids, List.nil_append]
    simp only [RS, xs_some, Option.bind_some, Option.map_some, if_true, if_false, decide_true, decide_false, true_and, and_true, Bool.not_true, Bool.not_false, Bool.false_eq_true, not_false_eq_true, not_true_eq_false, Nat.reduceLT, Nat.reduceBEq, Nat.reduceEqDiff, Nat.reduceAdd, Int.reduceEq, Int.reduceLT, Int.reduceLE, Int.reduceGT, Int.reduceGE, beq_self_eq_true, List.getElem?_toArray, List.getElem?_cons_zero, List.getElem?_cons_succ, List.append_nil, List.nil_append, List.cons_append, List.append_eq]
    refine run_loop_j (fun n e C => Fr S0 A C ∧ C.blk[b6]? = some ⟨mcZ, .var⟩ ∧ e.get 3 = .ptr bm 0 ∧ e.get 6 = .ptr b6 0 ∧ e.get 2 = .str x ∧ e.get 1 = .int .i64 t ∧ (arrHp A2).le (arrHp C) ∧
        ∃ (done : List Bts) (p : Nat) (iv' : V), n = x.length - p ∧ e.get 10 = .int .i64 p ∧ p ≤ x.length ∧ p % 32 = 0 ∧ done.length * 32 = p ∧ (∀ b ∈ done, b.length = 32) ∧ chunk32 x = done ++ chunk32 (x.drop p) ∧ C.blk[bm]? = some ⟨mc { M with ids := done } dv iv' lv, .var⟩ ∧ Own A.blk.length C iv' done.length 32 (cellsAllB done))
      (fun z e C => Is z (.exit 1) ∧ Fr S0 A C ∧ C.blk[b6]? = some ⟨mcZ, .var⟩ ∧ e.get 3 = .ptr bm 0 ∧ e.get 6 = .ptr b6 0 ∧ e.get 1 = .int .i64 t ∧ (arrHp A2).le (arrHp C) ∧
        ∃ iv', C.blk[bm]? = some ⟨mc { M with ids := chunk32 x } dv iv' lv, .var⟩ ∧ Slc eId (arrHp C) iv' (chunk32 x))
      ⟨_, fA2, r2, rfl, rfl, rfl, rfl, Hp.le_refl _, [], 0, .snil, rfl, rfl, by omega, rfl, rfl, by simp, by simp, by rw [← hids]; exact r1, by simpa [cellsAllB] using Own.nil A.blk.length A2 32⟩ ?_ ?_
    · rintro n e C ⟨fC, r6C, h3, h6, h2, h1, leC, done, p, iv', rfl, h10, hple, hpm, hsum, hall, hch, jC, own⟩
      have ldc := ldM jC hid
      simp only [RS, xs_some, Option.bind_some, Option.map_some, if_true, if_false, decide_true, decide_false, true_and, and_true, Bool.not_true, Bool.not_false, Bool.false_eq_true, not_false_eq_true, not_true_eq_false, Nat.reduceLT, Nat.reduceBEq, Nat.reduceEqDiff, Nat.reduceAdd, Int.reduceEq, Int.reduceLT, Int.reduceLE, Int.reduceGT, Int.reduceGE, beq_self_eq_true, List.getElem?_toArray, List.getElem?_cons_zero, List.getElem?_cons_succ, List.append_nil, List.nil_append, List.cons_append, List.append_eq, h10, h2, hlen]
      refine condK_of (fun g6 => ?_) (fun g6 => ?_)
      · have hp32 : p + 32 ≤ x.length := by omega
        obtain ⟨_, D, k1, rfl, k2⟩ := refId_spec (A := C) (s := x) (at_ := p) (by omega) hp32
        have hdl : (x.drop p).length = x.length - p := List.length_drop
        have hrne : x.drop p ≠ [] := by intro q; rw [q] at hdl; simp at hdl; omega
        have htl : ((x.drop p).take 32).length = 32 := by rw [List.length_take]; omega
        have ldd := ldM (k2.row0 jC) hid
        have wD := k2.wf (fC.wf hw)
        have nD : A.blk.length ≤ D.blk.length := by have := fC.len; have := k2.len; omega
        obtain ⟨v', E, p1, p2, p3⟩ := (own.fr0 k2).appNew (k := 1) (new := bc ((x.drop p).take 32)) sl39 Try.underlying39 wD nD (by rw [bc_len, htl]) (bc_one _) (by omega) (by omega)
        have jE := p3.fam_row (k2.row0 jC)
        have r6E := p3.fam_row (k2.row0 r6C)
        obtain ⟨F, y1, y2, y3⟩ := setM (o := 39) (t := 39) (w := v') (cs := [v']) jE hid p2.cells1 sz39 (by simp) (by simp [p2.one])
        rw [mc_ids (x := { M with ids := done }) hid (done ++ [(x.drop p).take 32])] at y3
        have leD := arrHp_le k2 (fun b q => q.elim)
        have leE := arrHp_le p3 (fun b q => q.elim)
        have leF := arrHp_le y2 (fun b q => by cases q; exact arrHp_var jE)
        have e10 : IntKind.i64.wrap ((p : Int) + 32) = ((p + 32 : Nat) : Int) := by rw [wrapI (by omega) (by omega)]; omega
        simp only [RS, xs_some, Option.bind_some, Option.map_some, if_true, if_false, decide_true, decide_false, true_and, and_true, Bool.not_true, Bool.not_false, Bool.false_eq_true, not_false_eq_true, not_true_eq_false, Nat.reduceLT, Nat.reduceBEq, Nat.reduceEqDiff, Nat.reduceAdd, Int.reduceEq, Int.reduceLT, Int.reduceLE, Int.reduceGT, Int.reduceGE, beq_self_eq_true, List.getElem?_toArray, List.getElem?_cons_zero, List.getElem?_cons_succ, List.append_nil, List.nil_append, List.cons_append, List.append_eq]
        simp only [RS, xs_some, Option.bind_some, Option.map_some, if_true, if_false, decide_true, decide_false, true_and, and_true, Bool.not_true, Bool.not_false, Bool.false_eq_true, not_false_eq_true, not_true_eq_false, Nat.reduceLT, Nat.reduceBEq, Nat.reduceEqDiff, Nat.reduceAdd, Int.reduceEq, Int.reduceLT, Int.reduceLE, Int.reduceGT, Int.reduceGE, beq_self_eq_true, List.getElem?_toArray, List.getElem?_cons_zero, List.getElem?_cons_succ, List.append_nil, List.nil_append, List.cons_append, List.append_eq, pl_71_29, h3, h2, h10, fa, ldc, rc_nil]
        refine run_call1 k1 ?_
        simp only [RS, xs_some, Option.bind_some, Option.map_some, if_true, if_false, decide_true, decide_false, true_and, and_true, Bool.not_true, Bool.not_false, Bool.false_eq_true, not_false_eq_true, not_true_eq_false, Nat.reduceLT, Nat.reduceBEq, Nat.reduceEqDiff, Nat.reduceAdd, Int.reduceEq, Int.reduceLT, Int.reduceLE, Int.reduceGT, Int.reduceGE, beq_self_eq_true, List.getElem?_toArray, List.getElem?_cons_zero, List.getElem?_cons_succ, List.append_nil, List.nil_append, List.cons_append, List.append_eq, rc_nil]
        refine ⟨rc_load (ha := rfl) rfl ldd.2.2.2.2.2.2.2.2.1 rfl rc_nil, ?_⟩
        simp only [RS, xs_some, Option.bind_some, Option.map_some, if_true, if_false, decide_true, decide_false, true_and, and_true, Bool.not_true, Bool.not_false, Bool.false_eq_true, not_false_eq_true, not_true_eq_false, Nat.reduceLT, Nat.reduceBEq, Nat.reduceEqDiff, Nat.reduceAdd, Int.reduceEq, Int.reduceLT, Int.reduceLE, Int.reduceGT, Int.reduceGE, beq_self_eq_true, List.getElem?_toArray, List.getElem?_cons_zero, List.getElem?_cons_succ, List.append_nil, List.nil_append, List.cons_append, List.append_eq, bslI htl, p1, h3, fa, y1, h10, e10, rc_nil]
        refine ⟨x.length - (p + 32), by omega, ((fC.then0 k2).fams p3).row_ y2 hbmN, y2.rowNe r6E (show b6 ≠ bm by omega), h6, h2, h1, Hp.le_trans leC (Hp.le_trans leD (Hp.le_trans leE leF)), done ++ [(x.drop p).take 32], p + 32, v', rfl, rfl, hp32, by omega, by rw [List.length_append]; simp; omega, ?_, ?_, y3, (p2.frRow y2 jE).cast (by simp) (by simp [cellsAllB])⟩
        · intro b hb
          rcases List.mem_append.1 hb with q | q
          · exact hall b q
          · simp at q; rw [q]; exact htl
        · rw [hch, chunk32_cons hrne, List.drop_drop]; simp
      · have : p = x.length := by omega
        subst this
        simp only [RS, xs_some, Option.bind_some, Option.map_some, if_true, if_false, decide_true, decide_false, true_and, and_true, Bool.not_true, Bool.not_false, Bool.false_eq_true, not_false_eq_true, not_true_eq_false, Nat.reduceLT, Nat.reduceBEq, Nat.reduceEqDiff, Nat.reduceAdd, Int.reduceEq, Int.reduceLT, Int.reduceLE, Int.reduceGT, Int.reduceGE, beq_self_eq_true, List.getElem?_toArray, List.getElem?_cons_zero, List.getElem?_cons_succ, List.append_nil, List.nil_append, List.cons_append, List.append_eq]
        rw [List.drop_length, chunk32_nil, List.append_nil] at hch
        subst hch
        refine ⟨rfl, fC, r6C, h3, h6, h1, leC, iv', jC, Own.arrHp (E := eId) own rfl fun i y hy => ⟨?_, hall y (List.mem_of_getElem? hy)⟩⟩
        exact cellsAllB_at hall i y hy
    · rintro z e C hz ⟨rfl, fC, r6C, h3, h6, h1, leC, iv', jC, hiv'⟩
      have hMC : MsgIn (arrHp C) { M with ids := chunk32 x } dv iv' lv := ⟨hid, hM2.data.mono leC, hiv', hM2.list.mono leC⟩
      have ldc := ldM jC hMC.id
      obtain ⟨F, v1, v2, v3, v4⟩ := good fC jC r6C hMC hp (fun q => absurd q (by omega)) (fun _ q => ⟨hlv.1, q⟩)
      simp only [RS, xs_some, Option.bind_some, Option.map_some, if_true, if_false, decide_true, decide_false, true_and, and_true, Bool.not_true, Bool.not_false, Bool.false_eq_true, not_false_eq_true, not_true_eq_false, Nat.reduceLT, Nat.reduceBEq, Nat.reduceEqDiff, Nat.reduceAdd, Int.reduceEq, Int.reduceLT, Int.reduceLE, Int.reduceGT, Int.reduceGE, beq_self_eq_true, List.getElem?_toArray, List.getElem?_cons_zero, List.getElem?_cons_succ, List.append_nil, List.nil_append, List.cons_append, List.append_eq, h1, ne9, h3, h6, ldc, v1, v2]
      exact ⟨v3, v4⟩
  have ht9' : ¬ t = 8 := by omega
  have ht : t = 9 := by omega
  have g5 : (t : Int) = 9 := by omega
  obtain ⟨rfl, hlist⟩ := hlv
  simp only [RS, xs_some, Option.bind_some, Option.map_some, if_true, if_false, decide_true, decide_false, true_and, and_true, Bool.not_true, Bool.not_false, Bool.false_eq_true, not_false_eq_true, not_true_eq_false, Nat.reduceLT, Nat.reduceBEq, Nat.reduceEqDiff, Nat.reduceAdd, Int.reduceEq, Int.reduceLT, Int.reduceLE, Int.reduceGT, Int.reduceGE, beq_self_eq_true, List.getElem?_toArray, List.getElem?_cons_zero, List.getElem?_cons_succ, List.append_nil, List.nil_append, List.cons_append, List.append_eq, g5]
  refine run_loop_j (fun n e C => Fr S0 A C ∧ C.blk[b6]? = some ⟨mcZ, .var⟩ ∧ e.get 3 = .ptr bm 0 ∧ e.get 6 = .ptr b6 0 ∧ e.get 2 = .str x ∧ (arrHp A2).le (arrHp C) ∧
      ∃ (done : List Bts) (p : Nat) (lv' : V) (lvs : List V), n = x.length - p ∧ e.get 11 = .int .i64 p ∧ p ≤ x.length ∧ done.length ≤ p ∧ runsOf x = (runsOf (x.drop p)).map (done ++ ·) ∧ C.blk[bm]? = some ⟨mc { M with list := done } dv iv lv', .var⟩ ∧
        Own A.blk.length C lv' done.length 1 lvs ∧ ∀ (i : Nat) b, done[i]? = some b → ∃ w, lvs[i]? = some w ∧ Slc eU8 (arrHp C) w b)
    (fun z e C => Fr S0 A C ∧ ((Is z (.exit 3) ∧ C.blk[b6]? = some ⟨mcZ, .var⟩ ∧ e.get 3 = .ptr bm 0 ∧ e.get 6 = .ptr b6 0 ∧ (arrHp A2).le (arrHp C) ∧
        ∃ lv' l, runsOf x = some l ∧ C.blk[bm]? = some ⟨mc { M with list := l } dv iv lv', .var⟩ ∧ Slc (eSl eU8) (arrHp C) lv' l) ∨
        (Is z .ret ∧ e.get 6 = .ptr b6 0 ∧ ∃ mv, evLoad Try.prog 41 (.ptr b6 0) C = some mv ∧ ∃ cv, e.get 7 = cv ∧ PutOut M t x (.tup [mv, cv]) C)))
    ⟨_, fA2, r2, rfl, rfl, rfl, Hp.le_refl _, [], 0, .snil, [], rfl, rfl, by omega, by simp, by simp, by rw [← hlist]; exact r1, Own.nil _ A2 1, by simp⟩ ?_ ?_
  · rintro n e C ⟨fC, r6C, h3, h6, h2, leC, done, p, lv', lvs, rfl, h11, hple, hdp, hrun, jC, own, hlvs⟩
    have ldc := ldM jC hid
    simp only [RS, xs_some, Option.bind_some, Option.map_some, if_true, if_false, decide_true, decide_false, true_and, and_true, Bool.not_true, Bool.not_false, Bool.false_eq_true, not_false_eq_true, not_true_eq_false, Nat.reduceLT, Nat.reduceBEq, Nat.reduceEqDiff, Nat.reduceAdd, Int.reduceEq, Int.reduceLT, Int.reduceLE, Int.reduceGT, Int.reduceGE, beq_self_eq_true, List.getElem?_toArray, List.getElem?_cons_zero, List.getElem?_cons_succ, List.append_nil, List.nil_append, List.cons_append, List.append_eq, h11, h2, hlen]
    refine condK_of (fun g6 => ?_) (fun g6 => ?_)
    · have hdl : (x.drop p).length = x.length - p := List.length_drop
      have hrne : x.drop p ≠ [] := by intro q; rw [q] at hdl; simp at hdl; omega
      obtain ⟨w, C', k1, hC', k2⟩ := refTake_spec (A := C) (s := x) (i := p) (by omega) (by omega)
      rw [hC'] at k1
      simp only [RS, xs_some, Option.bind_some, Option.map_some, if_true, if_false, decide_true, decide_false, true_and, and_true, Bool.not_true, Bool.not_false, Bool.false_eq_true, not_false_eq_true, not_true_eq_false, Nat.reduceLT, Nat.reduceBEq, Nat.reduceEqDiff, Nat.reduceAdd, Int.reduceEq, Int.reduceLT, Int.reduceLE, Int.reduceGT, Int.reduceGE, beq_self_eq_true, List.getElem?_toArray, List.getElem?_cons_zero, List.getElem?_cons_succ, List.append_nil, List.nil_append, List.cons_append, List.append_eq, h2, h11]
      refine run_call1 k1 ?_
      rcases k2 with ⟨k2, rfl⟩ | ⟨y, r', k2, rfl, k3, k4⟩
      · have hp : putM M t x = .error 20 := by
          unfold putM; rw [if_neg hx0, if_neg ht6, if_neg ht7, if_neg ht8, if_neg ht9', hrun, runsOf_none hrne k2]; rfl
        have hone : (mc { M with list := done } dv iv lv').all V.one = true := by
          simp only [mc, List.all_cons, List.all_append, bc_one, hM2.data.one, hM2.ids.one, own.one, one_int, List.all_nil, Bool.and_self]
        obtain ⟨D, y1, y2, y3, y4⟩ := fail fC jC r6C hid hone hp (by decide)
        simp only [RS, xs_some, Option.bind_some, Option.map_some, if_true, if_false, decide_true, decide_false, true_and, and_true, Bool.not_true, Bool.not_false, Bool.false_eq_true, not_false_eq_true, not_true_eq_false, Nat.reduceLT, Nat.reduceBEq, Nat.reduceEqDiff, Nat.reduceAdd, Int.reduceEq, Int.reduceLT, Int.reduceLE, Int.reduceGT, Int.reduceGE, beq_self_eq_true, List.getElem?_toArray, List.getElem?_cons_zero, List.getElem?_cons_succ, List.append_nil, List.nil_append, List.cons_append, List.append_eq, h3, ldc, h6, y1]
        exact ⟨y3, .inr ⟨rfl, _, y2, _, rfl, y4⟩⟩
      · have hcv := fun B => cnv_bytes (P := Try.prog) (A := B) (s := 9) (d := 38) (l := y) (by decide) Try.underlying9 Try.underlying38 Try.underlying5
        have e9 : ∀ B : AS, (B.push ⟨y.map fun u => V.int .u8 u.toNat, .arr B.blk.length 0⟩) = B.push ⟨bc y, .arr B.blk.length 0⟩ := fun _ => rfl
        have q1 := Fr.pushArr C (bc y)
        have hsl := new_arrBts C y (sz := 1) rfl
        have ownD := own.fr0 q1
        simp only [RS, xs_some, Option.bind_some, Option.map_some, if_true, if_false, decide_true, decide_false, true_and, and_true, Bool.not_true, Bool.not_false, Bool.false_eq_true, not_false_eq_true, not_true_eq_false, Nat.reduceLT, Nat.reduceBEq, Nat.reduceEqDiff, Nat.reduceAdd, Int.reduceEq, Int.reduceLT, Int.reduceLE, Int.reduceGT, Int.reduceGE, beq_self_eq_true, List.getElem?_toArray, List.getElem?_cons_zero, List.getElem?_cons_succ, List.append_nil, List.nil_append, List.cons_append, List.append_eq, h3, fa, ldc, hcv]
        rw [e9]
        generalize C.push ⟨bc y, .arr C.blk.length 0⟩ = D at *
        have jD := q1.row0 jC
        have r6D := q1.row0 r6C
        have ldd := ldM jD hid
        have wD := q1.wf (fC.wf hw)
        have nD : A.blk.length ≤ D.blk.length := by have := fC.len; have := q1.len; omega
        have hl3 := takeB_len k2
        obtain ⟨v2, K, u1, u2, u3⟩ := ownD.appNew (k := 1) (new := [.sl C.blk.length 0 y.length 1]) sl33 Try.underlying33 wD nD rfl rfl (by omega) (by omega)
        have jK := u3.fam_row jD
        have r6K := u3.fam_row r6D
        obtain ⟨E, y1, y2, y3⟩ := setM (o := 40) (t := 33) (w := v2) (cs := [v2]) jK hid u2.cells1 sz33 (by simp) (by simp [u2.one])
        rw [mc_list (x := { M with list := done }) hid (done ++ [y])] at y3
        have leD := arrHp_le q1 (fun b q => q.elim)
        have leK := arrHp_le u3 (fun b q => q.elim)
        have leE := arrHp_le y2 (fun b q => by cases q; exact arrHp_var jK)
        have leDE := Hp.le_trans leK leE
        simp only [RS, xs_some, Option.bind_some, Option.map_some, if_true, if_false, decide_true, decide_false, true_and, and_true, Bool.not_true, Bool.not_false, Bool.false_eq_true, not_false_eq_true, not_true_eq_false, Nat.reduceLT, Nat.reduceBEq, Nat.reduceEqDiff, Nat.reduceAdd, Int.reduceEq, Int.reduceLT, Int.reduceLE, Int.reduceGT, Int.reduceGE, beq_self_eq_true, List.getElem?_toArray, List.getElem?_cons_zero, List.getElem?_cons_succ, List.append_nil, List.nil_append, List.cons_append, List.append_eq, bslV_sl, u1, h3, fa, y1]
        refine ⟨x.length - (p + 3 + y.length), by omega, ((fC.then0 q1).fams u3).row_ y2 hbmN, y2.rowNe r6K (show b6 ≠ bm by omega), h6, h2, Hp.le_trans leC (Hp.le_trans leD leDE), done ++ [y], p + 3 + y.length, v2, lvs ++ [.sl C.blk.length 0 y.length 1], rfl, rfl, k4, by rw [List.length_append]; simp; omega, ?_, y3, (u2.frRow y2 jK).cast (by simp) rfl, ?_⟩
        · rw [hrun, runsOf_some k2, k3]
          cases runsOf (x.drop (p + 3 + y.length)) <;> simp
        · intro j bb hj
          have hln : lvs.length = done.length := by have := own.1; omega
          rcases Nat.lt_or_ge j done.length with q | q
          · rw [List.getElem?_append_left q] at hj
            obtain ⟨w', z1, z2⟩ := hlvs j bb hj
            exact ⟨w', by rw [List.getElem?_append_left (by omega)]; exact z1, z2.mono (Hp.le_trans leD leDE)⟩
          · have hj' := (List.getElem?_eq_some_iff.1 hj).1
            simp only [List.length_append, List.length_singleton] at hj'
            have : j = done.length := by omega
            subst this
            simp at hj
            subst hj
            exact ⟨_, by rw [← hln]; simp, hsl.mono leDE⟩
    · have : p = x.length := by omega
      subst this
      simp only [RS, xs_some, Option.bind_some, Option.map_some, if_true, if_false, decide_true, decide_false, true_and, and_true, Bool.not_true, Bool.not_false, Bool.false_eq_true, not_false_eq_true, not_true_eq_false, Nat.reduceLT, Nat.reduceBEq, Nat.reduceEqDiff, Nat.reduceAdd, Int.reduceEq, Int.reduceLT, Int.reduceLE, Int.reduceGT, Int.reduceGE, beq_self_eq_true, List.getElem?_toArray, List.getElem?_cons_zero, List.getElem?_cons_succ, List.append_nil, List.nil_append, List.cons_append, List.append_eq]
      rw [List.drop_length, runsOf_nil] at hrun
      refine ⟨fC, .inl ⟨rfl, r6C, h3, h6, leC, lv', done, by rw [hrun]; simp, jC, Own.arrHp (E := eSl eU8) own rfl fun j bb hj => ?_⟩⟩
      obtain ⟨w', z1, z2⟩ := hlvs j bb hj
      refine ⟨w', ?_, z2⟩
      show (lvs.drop (j * 1)).take 1 = _
      rw [Nat.mul_one, List.take_one, List.head?_drop, z1]; rfl
  · rintro z e C hz ⟨fC, ⟨rfl, r6C, h3, h6, leC, lv', l, hrun, jC, hlv'⟩ | ⟨rfl, h6, mv, h7, cv, h8, h9⟩⟩
    · have hp : putM M t x = .ok { M with list := l } := by
        unfold putM; rw [if_neg hx0, if_neg ht6, if_neg ht7, if_neg ht8, if_neg ht9', hrun]; simp only [hlist, List.nil_append]
      have hMC : MsgIn (arrHp C) { M with list := l } dv iv lv' := ⟨hid, hM2.data.mono leC, hM2.ids.mono leC, hlv'⟩
      have ldc := ldM jC hMC.id
      obtain ⟨F, v1, v2, v3, v4⟩ := good fC jC r6C hMC hp (fun q => absurd q (by omega)) (fun q => absurd q (by omega))
      simp only [RS, xs_some, Option.bind_some, Option.map_some, if_true, if_false, decide_true, decide_false, true_and, and_true, Bool.not_true, Bool.not_false, Bool.false_eq_true, not_false_eq_true, not_true_eq_false, Nat.reduceLT, Nat.reduceBEq, Nat.reduceEqDiff, Nat.reduceAdd, Int.reduceEq, Int.reduceLT, Int.reduceLE, Int.reduceGT, Int.reduceGE, beq_self_eq_true, List.getElem?_toArray, List.getElem?_cons_zero, List.getElem?_cons_succ, List.append_nil, List.nil_append, List.cons_append, List.append_eq, h3, h6, ldc, v1, v2]
      exact ⟨v3, v4⟩
    · simp only [RS, xs_some, Option.bind_some, Option.map_some, if_true, if_false, decide_true, decide_false, true_and, and_true, Bool.not_true, Bool.not_false, Bool.false_eq_true, not_false_eq_true, not_true_eq_false, Nat.reduceLT, Nat.reduceBEq, Nat.reduceEqDiff, Nat.reduceAdd, Int.reduceEq, Int.reduceLT, Int.reduceLE, Int.reduceGT, Int.reduceGE, beq_self_eq_true, List.getElem?_toArray, List.getElem?_cons_zero, List.getElem?_cons_succ, List.append_nil, List.nil_append, List.cons_append, List.append_eq, h6, h7, h8]
      exact ⟨fC, h9⟩
end Go.Sv.Try


namespace Go.Sv.Try
open Go Go.Proofs
set_option linter.unusedVariables false
set_option linter.unusedSimpArgs false

set_option maxRecDepth 10000 in
set_option maxHeartbeats 32000000 in
theorem refRead_spec {A : AS} {b : Bts} (hw : WF A) (hb : b.length ≤ 1000000000000) :
    ∃ w A', EvF Try.prog HH 31 [.str b] A w A' ∧ Fr S0 A A' ∧ RdOut b w A' := by
  refine run_fn2 rfl Try.func31 (by unfold Try.f31; rfl) Try.ntmps31 (by unfold Try.f31; rfl) (by simp) ?_
  simp only [RS, xs_some, Option.bind_some, Option.map_some, if_true, if_false, decide_true, decide_false, true_and, and_true, Bool.not_true, Bool.not_false, Bool.false_eq_true, not_false_eq_true, not_true_eq_false, Nat.reduceLT, Nat.reduceBEq, Nat.reduceEqDiff, Nat.reduceAdd, Int.reduceEq, Int.reduceLT, Int.reduceLE, Int.reduceGT, Int.reduceGE, beq_self_eq_true, List.getElem?_toArray, List.getElem?_cons_zero, List.getElem?_cons_succ, List.append_nil, List.nil_append, List.cons_append, List.append_eq, zcM]
  obtain ⟨A1, e1, f1, r1, n1⟩ := new_var A mcZ
  rw [← e1]
  have zid : (msg0 0).id.length = 32 := rfl
  obtain ⟨b2, hb2⟩ : ∃ y, y = A.blk.length := ⟨_, rfl⟩
  rw [← hb2]
  rw [← hb2] at r1
  have hN : A.blk.length ≤ b2 := by omega
  -- an error
  have fin : ∀ (C : AS) (c : Int), Fr S0 A C → C.blk[b2]? = some ⟨mcZ, .var⟩ → readM b = .error c →
      ∃ C', evStore Try.prog 41 (.ptr b2 0) (.agg mcZ) C = some C' ∧ evLoad Try.prog 41 (.ptr b2 0) C' = some (.agg mcZ) ∧ Fr S0 A C' ∧ RdOut b (.tup [.agg mcZ, .int .i64 c]) C' := by
    intro C c z1 z2 z3
    obtain ⟨C', y1, y2, y3⟩ := setM (o := 0) (t := 41) (w := .agg mcZ) (cs := mcZ) z2 zid rfl sz41 (by decide) rfl
    rw [putAt_all rfl] at y3
    exact ⟨C', y1, (ldM y3 zid).2.2.2.2.2.2.2.2.2.2, z1.row_ y2 hN, rdOut_bad z3⟩
  match b, hb, fin with
  | [], hb, fin =>
    obtain ⟨C, y1, y2, y3, y4⟩ := fin _ 20 f1 r1 rfl
    simp only [RS, xs_some, Option.bind_some, Option.map_some, if_true, if_false, decide_true, decide_false, true_and, and_true, Bool.not_true, Bool.not_false, Bool.false_eq_true, not_false_eq_true, not_true_eq_false, Nat.reduceLT, Nat.reduceBEq, Nat.reduceEqDiff, Nat.reduceAdd, Int.reduceEq, Int.reduceLT, Int.reduceLE, Int.reduceGT, Int.reduceGE, beq_self_eq_true, List.getElem?_toArray, List.getElem?_cons_zero, List.getElem?_cons_succ, List.append_nil, List.nil_append, List.cons_append, List.append_eq, bldM0, y1, y2]
    exact ⟨y3, y4⟩
  | kk :: s, hb, fin =>
    simp only [List.length_cons] at hb
    have hne : ¬ (kk :: s = []) := by simp
    have hk := kk.toNat_lt
    have x0 : evIndex Try.prog 9 (.str (kk :: s)) (.int .i64 0) = some (.int .u8 kk.toNat) := str_at (P := Try.prog) (t := 9) (k := .i64) (i := 0) (l := kk :: s) Try.underlying9 rfl
    simp only [RS, xs_some, Option.bind_some, Option.map_some, if_true, if_false, decide_true, decide_false, true_and, and_true, Bool.not_true, Bool.not_false, Bool.false_eq_true, not_false_eq_true, not_true_eq_false, Nat.reduceLT, Nat.reduceBEq, Nat.reduceEqDiff, Nat.reduceAdd, Int.reduceEq, Int.reduceLT, Int.reduceLE, Int.reduceGT, Int.reduceGE, beq_self_eq_true, List.getElem?_toArray, List.getElem?_cons_zero, List.getElem?_cons_succ, List.append_nil, List.nil_append, List.cons_append, List.append_eq, hne, x0]
    refine contG_of (fun g1 => ?_) (fun g1 => ?_)
    · obtain ⟨C, y1, y2, y3, y4⟩ := fin _ 21 f1 r1 (by unfold readM; simp only []; rw [if_pos (.inl (by omega))])
      simp only [RS, xs_some, Option.bind_some, Option.map_some, if_true, if_false, decide_true, decide_false, true_and, and_true, Bool.not_true, Bool.not_false, Bool.false_eq_true, not_false_eq_true, not_true_eq_false, Nat.reduceLT, Nat.reduceBEq, Nat.reduceEqDiff, Nat.reduceAdd, Int.reduceEq, Int.reduceLT, Int.reduceLE, Int.reduceGT, Int.reduceGE, beq_self_eq_true, List.getElem?_toArray, List.getElem?_cons_zero, List.getElem?_cons_succ, List.append_nil, List.nil_append, List.cons_append, List.append_eq, g1, bldM0, y1, y2]
      exact ⟨y3, y4⟩
    simp only [RS, xs_some, Option.bind_some, Option.map_some, if_true, if_false, decide_true, decide_false, true_and, and_true, Bool.not_true, Bool.not_false, Bool.false_eq_true, not_false_eq_true, not_true_eq_false, Nat.reduceLT, Nat.reduceBEq, Nat.reduceEqDiff, Nat.reduceAdd, Int.reduceEq, Int.reduceLT, Int.reduceLE, Int.reduceGT, Int.reduceGE, beq_self_eq_true, List.getElem?_toArray, List.getElem?_cons_zero, List.getElem?_cons_succ, List.append_nil, List.nil_append, List.cons_append, List.append_eq, g1, x0]
    refine condK_of (fun g2 => ?_) (fun g2 => ?_)
    · obtain ⟨C, y1, y2, y3, y4⟩ := fin _ 21 f1 r1 (by unfold readM; simp only []; rw [if_pos (.inr (by omega))])
      simp only [RS, xs_some, Option.bind_some, Option.map_some, if_true, if_false, decide_true, decide_false, true_and, and_true, Bool.not_true, Bool.not_false, Bool.false_eq_true, not_false_eq_true, not_true_eq_false, Nat.reduceLT, Nat.reduceBEq, Nat.reduceEqDiff, Nat.reduceAdd, Int.reduceEq, Int.reduceLT, Int.reduceLE, Int.reduceGT, Int.reduceGE, beq_self_eq_true, List.getElem?_toArray, List.getElem?_cons_zero, List.getElem?_cons_succ, List.append_nil, List.nil_append, List.cons_append, List.append_eq, bldM0, y1, y2]
      exact ⟨y3, y4⟩
    have hread : readM (kk :: s) = match restM (msg0 kk.toNat) 0 s with | .error e => .error e | .ok m => if checkM m ≠ 0 then .error (checkM m) else .ok m := by
      conv => lhs; unfold readM
      simp only []
      rw [if_neg (by omega)]
      try (cases restM (msg0 kk.toNat) 0 s <;> rfl)
    simp only [RS, xs_some, Option.bind_some, Option.map_some, if_true, if_false, decide_true, decide_false, true_and, and_true, Bool.not_true, Bool.not_false, Bool.false_eq_true, not_false_eq_true, not_true_eq_false, Nat.reduceLT, Nat.reduceBEq, Nat.reduceEqDiff, Nat.reduceAdd, Int.reduceEq, Int.reduceLT, Int.reduceLE, Int.reduceGT, Int.reduceGE, beq_self_eq_true, List.getElem?_toArray, List.getElem?_cons_zero, List.getElem?_cons_succ, List.append_nil, List.nil_append, List.cons_append, List.append_eq, x0, cnv83, bldMk, zcM]
    obtain ⟨A2, s1, s2, s3, s4⟩ := new_set (P := Try.prog) A1 (z := mcZ) (t := 41) (x := .agg (mc (msg0 kk.toNat) .snil .snil .snil)) (cs := mc (msg0 kk.toNat) .snil .snil .snil) rfl sz41 rfl rfl
    obtain ⟨b4, hb4⟩ : ∃ y, y = A1.blk.length := ⟨_, rfl⟩
    rw [← hb4] at s1 s3 ⊢
    have h24 : b2 ≠ b4 := by omega
    have hN4 : A.blk.length ≤ b4 := by omega
    simp only [RS, xs_some, Option.bind_some, Option.map_some, if_true, if_false, decide_true, decide_false, true_and, and_true, Bool.not_true, Bool.not_false, Bool.false_eq_true, not_false_eq_true, not_true_eq_false, Nat.reduceLT, Nat.reduceBEq, Nat.reduceEqDiff, Nat.reduceAdd, Int.reduceEq, Int.reduceLT, Int.reduceLE, Int.reduceGT, Int.reduceGE, beq_self_eq_true, List.getElem?_toArray, List.getElem?_cons_zero, List.getElem?_cons_succ, List.append_nil, List.nil_append, List.cons_append, List.append_eq, s1]
    have hlen := fun B => evLen_str (P := Try.prog) Try.underlying9 (kk :: s) B
    refine run_loop_j (fun n e C => Fr S0 A C ∧ C.blk[b2]? = some ⟨mcZ, .var⟩ ∧ e.get 0 = .str (kk :: s) ∧ e.get 2 = .ptr b2 0 ∧ e.get 4 = .ptr b4 0 ∧
        ∃ (p last : Nat) (M : Go.Sv.M) (dv iv lv : V), n = s.length + 1 - p ∧ 1 ≤ p ∧ p ≤ s.length + 1 ∧ e.get 5 = .int .i64 p ∧ e.get 6 = .int .i64 last ∧ C.blk[b4]? = some ⟨mc M dv iv lv, .var⟩ ∧ MsgIn (arrHp C) M dv iv lv ∧
          restM (msg0 kk.toNat) 0 s = restM M last ((kk :: s).drop p) ∧ (last < 8 → iv = .snil ∧ M.ids = []) ∧ (last < 9 → lv = .snil ∧ M.list = []))
      (fun z e C => Fr S0 A C ∧ e.get 2 = .ptr b2 0 ∧ ((Is z (.exit 0) ∧ C.blk[b2]? = some ⟨mcZ, .var⟩ ∧ e.get 4 = .ptr b4 0 ∧ ∃ (M : Go.Sv.M) (dv iv lv : V), C.blk[b4]? = some ⟨mc M dv iv lv, .var⟩ ∧ MsgIn (arrHp C) M dv iv lv ∧ restM (msg0 kk.toNat) 0 s = .ok M) ∨
          (Is z .ret ∧ ∃ c, e.get 3 = .int .i64 c ∧ evLoad Try.prog 41 (.ptr b2 0) C = some (.agg mcZ) ∧ RdOut (kk :: s) (.tup [.agg mcZ, .int .i64 c]) C)))
      ⟨_, f1.then0 s2, s2.row0 r1, rfl, rfl, rfl, 1, 0, msg0 kk.toNat, .snil, .snil, .snil, rfl, by omega, by omega, rfl, rfl, s3, msgIn0, rfl, fun _ => ⟨rfl, rfl⟩, fun _ => ⟨rfl, rfl⟩⟩ ?_ ?_
    · clear s1 s3 s2 s4
      rintro n e C ⟨fC, r2C, h0, h2, h4, p, last, M, dv, iv, lv, rfl, hp1, hple, h5, h6, jC, hM, hrest, hiv, hlv⟩
      have ldc := ldM jC hM.id
      have hcl : (((kk :: s).length : Nat) : Int) = ((s.length + 1 : Nat) : Int) := by simp
      simp only [RS, xs_some, Option.bind_some, Option.map_some, if_true, if_false, decide_true, decide_false, true_and, and_true, Bool.not_true, Bool.not_false, Bool.false_eq_true, not_false_eq_true, not_true_eq_false, Nat.reduceLT, Nat.reduceBEq, Nat.reduceEqDiff, Nat.reduceAdd, Int.reduceEq, Int.reduceLT, Int.reduceLE, Int.reduceGT, Int.reduceGE, beq_self_eq_true, List.getElem?_toArray, List.getElem?_cons_zero, List.getElem?_cons_succ, List.append_nil, List.nil_append, List.cons_append, List.append_eq, h5, h0, hlen, hcl]
      refine condK_of (fun g => ?_) (fun g => ?_)
      · have hdl : ((kk :: s).drop p).length = s.length + 1 - p := by rw [List.length_drop]; rfl
        match hd : (kk :: s).drop p with
        | [] => rw [hd] at hdl; simp at hdl; omega
        | t :: r =>
          obtain ⟨xp, dp, ip⟩ := drop_get hd
          have ht := t.toNat_lt
          have y1 := str_at (P := Try.prog) (t := 9) (k := .i64) Try.underlying9 xp
          rw [hd] at hrest
          have hr : ∀ {e : Int}, restM M last (t :: r) = .error e → readM (kk :: s) = .error e := fun q => by rw [hread, hrest, q]
          simp only [RS, xs_some, Option.bind_some, Option.map_some, if_true, if_false, decide_true, decide_false, true_and, and_true, Bool.not_true, Bool.not_false, Bool.false_eq_true, not_false_eq_true, not_true_eq_false, Nat.reduceLT, Nat.reduceBEq, Nat.reduceEqDiff, Nat.reduceAdd, Int.reduceEq, Int.reduceLT, Int.reduceLE, Int.reduceGT, Int.reduceGE, beq_self_eq_true, List.getElem?_toArray, List.getElem?_cons_zero, List.getElem?_cons_succ, List.append_nil, List.nil_append, List.cons_append, List.append_eq, h0, h5, h6, y1, cnv83]
          refine contG_of (fun g1 => ?_) (fun g1 => ?_)
          · obtain ⟨D, z1, z2, z3, z4⟩ := fin _ _ fC r2C (hr (restM_tag (.inl (by omega))))
            simp only [RS, xs_some, Option.bind_some, Option.map_some, if_true, if_false, decide_true, decide_false, true_and, and_true, Bool.not_true, Bool.not_false, Bool.false_eq_true, not_false_eq_true, not_true_eq_false, Nat.reduceLT, Nat.reduceBEq, Nat.reduceEqDiff, Nat.reduceAdd, Int.reduceEq, Int.reduceLT, Int.reduceLE, Int.reduceGT, Int.reduceGE, beq_self_eq_true, List.getElem?_toArray, List.getElem?_cons_zero, List.getElem?_cons_succ, List.append_nil, List.nil_append, List.cons_append, List.append_eq, g1, bldM0, h2, z1]
            exact ⟨z3, .inr ⟨rfl, _, rfl, z2, z4⟩⟩
          simp only [RS, xs_some, Option.bind_some, Option.map_some, if_true, if_false, decide_true, decide_false, true_and, and_true, Bool.not_true, Bool.not_false, Bool.false_eq_true, not_false_eq_true, not_true_eq_false, Nat.reduceLT, Nat.reduceBEq, Nat.reduceEqDiff, Nat.reduceAdd, Int.reduceEq, Int.reduceLT, Int.reduceLE, Int.reduceGT, Int.reduceGE, beq_self_eq_true, List.getElem?_toArray, List.getElem?_cons_zero, List.getElem?_cons_succ, List.append_nil, List.nil_append, List.cons_append, List.append_eq, g1]
          refine condK_of (fun g2 => ?_) (fun g2 => ?_)
          · obtain ⟨D, z1, z2, z3, z4⟩ := fin _ _ fC r2C (hr (restM_tag (.inr (by omega))))
            simp only [RS, xs_some, Option.bind_some, Option.map_some, if_true, if_false, decide_true, decide_false, true_and, and_true, Bool.not_true, Bool.not_false, Bool.false_eq_true, not_false_eq_true, not_true_eq_false, Nat.reduceLT, Nat.reduceBEq, Nat.reduceEqDiff, Nat.reduceAdd, Int.reduceEq, Int.reduceLT, Int.reduceLE, Int.reduceGT, Int.reduceGE, beq_self_eq_true, List.getElem?_toArray, List.getElem?_cons_zero, List.getElem?_cons_succ, List.append_nil, List.nil_append, List.cons_append, List.append_eq, bldM0, h2, z1]
            exact ⟨z3, .inr ⟨rfl, _, rfl, z2, z4⟩⟩
          have hgood : ¬ (t.toNat ≤ last ∨ t.toNat > 9) := by omega
          have e5 : IntKind.i64.wrap ((p : Int) + 1) = ((p + 1 : Nat) : Int) := wrapS (by omega)
          obtain ⟨w, C', k1, hC', k2⟩ := refTake_spec (A := C) (s := kk :: s) (i := p + 1) (by simp only [List.length_cons]; omega) (by simp only [List.length_cons]; omega)
          rw [hC'] at k1
          rw [dp] at k2
          simp only [RS, xs_some, Option.bind_some, Option.map_some, if_true, if_false, decide_true, decide_false, true_and, and_true, Bool.not_true, Bool.not_false, Bool.false_eq_true, not_false_eq_true, not_true_eq_false, Nat.reduceLT, Nat.reduceBEq, Nat.reduceEqDiff, Nat.reduceAdd, Int.reduceEq, Int.reduceLT, Int.reduceLE, Int.reduceGT, Int.reduceGE, beq_self_eq_true, List.getElem?_toArray, List.getElem?_cons_zero, List.getElem?_cons_succ, List.append_nil, List.nil_append, List.cons_append, List.append_eq, h0, h5, e5]
          refine run_call1 k1 ?_
          rcases k2 with ⟨k2, rfl⟩ | ⟨x, r', k2, rfl, k3, k4⟩
          · obtain ⟨D, z1, z2, z3, z4⟩ := fin _ _ fC r2C (hr (restM_short hgood k2))
            simp only [RS, xs_some, Option.bind_some, Option.map_some, if_true, if_false, decide_true, decide_false, true_and, and_true, Bool.not_true, Bool.not_false, Bool.false_eq_true, not_false_eq_true, not_true_eq_false, Nat.reduceLT, Nat.reduceBEq, Nat.reduceEqDiff, Nat.reduceAdd, Int.reduceEq, Int.reduceLT, Int.reduceLE, Int.reduceGT, Int.reduceGE, beq_self_eq_true, List.getElem?_toArray, List.getElem?_cons_zero, List.getElem?_cons_succ, List.append_nil, List.nil_append, List.cons_append, List.append_eq, bldM0, h2, z1]
            exact ⟨z3, .inr ⟨rfl, _, rfl, z2, z4⟩⟩
          · have hl3 := takeB_len k2
            obtain ⟨w, D, u1, u2, u3⟩ := refPut_spec (A := C) (x := x) (t := t.toNat) (fC.wf hw) hM (by omega) (by omega) hl3.2 (fun q => hiv (by omega)) (hlv (by omega))
            simp only [RS, xs_some, Option.bind_some, Option.map_some, if_true, if_false, decide_true, decide_false, true_and, and_true, Bool.not_true, Bool.not_false, Bool.false_eq_true, not_false_eq_true, not_true_eq_false, Nat.reduceLT, Nat.reduceBEq, Nat.reduceEqDiff, Nat.reduceAdd, Int.reduceEq, Int.reduceLT, Int.reduceLE, Int.reduceGT, Int.reduceGE, beq_self_eq_true, List.getElem?_toArray, List.getElem?_cons_zero, List.getElem?_cons_succ, List.append_nil, List.nil_append, List.cons_append, List.append_eq, h4, ldc]
            refine run_call1 u1 ?_
            have fD := fC.then0 u2
            have jD := u2.row0 jC
            have r2D := u2.row0 r2C
            rcases u3 with ⟨c, cs, hp, hc0, rfl, hcl2, hcone⟩ | ⟨M', dv', iv', lv', hp, rfl, hM', hiv', hlv'⟩
            · obtain ⟨E, v1, v2, v3⟩ := setM (o := 0) (t := 41) (w := .agg cs) (cs := cs) jD hM.id rfl (by rw [hcl2]; exact sz41) (by rw [hcl2]; decide) hcone
              obtain ⟨F, z1, z2, z3, z4⟩ := fin _ _ (fD.row_ v2 hN4) (v2.rowNe r2D h24) (hr (restM_bad hgood k2 hp))
              simp only [RS, xs_some, Option.bind_some, Option.map_some, if_true, if_false, decide_true, decide_false, true_and, and_true, Bool.not_true, Bool.not_false, Bool.false_eq_true, not_false_eq_true, not_true_eq_false, Nat.reduceLT, Nat.reduceBEq, Nat.reduceEqDiff, Nat.reduceAdd, Int.reduceEq, Int.reduceLT, Int.reduceLE, Int.reduceGT, Int.reduceGE, beq_self_eq_true, List.getElem?_toArray, List.getElem?_cons_zero, List.getElem?_cons_succ, List.append_nil, List.nil_append, List.cons_append, List.append_eq, h4, v1, hc0, bldM0, h2, z1]
              exact ⟨z3, .inr ⟨rfl, _, rfl, z2, z4⟩⟩
            · obtain ⟨E, v1, v2, v3⟩ := setM (o := 0) (t := 41) (w := .agg (mc M' dv' iv' lv')) (cs := mc M' dv' iv' lv') jD hM.id rfl (by rw [mc_len hM'.id]; exact sz41) (by rw [mc_len hM'.id]; decide) (mc_one hM')
              rw [putAt_all (by rw [mc_len hM.id, mc_len hM'.id])] at v3
              have leE := arrHp_le v2 (fun b q => by cases q; exact arrHp_var jD)
              have hrest' : restM (msg0 kk.toNat) 0 s = restM M' t.toNat ((kk :: s).drop (p + 1 + 3 + x.length)) := by rw [hrest, restM_more hgood k2 hp, k3]
              simp only [RS, xs_some, Option.bind_some, Option.map_some, if_true, if_false, decide_true, decide_false, true_and, and_true, Bool.not_true, Bool.not_false, Bool.false_eq_true, not_false_eq_true, not_true_eq_false, Nat.reduceLT, Nat.reduceBEq, Nat.reduceEqDiff, Nat.reduceAdd, Int.reduceEq, Int.reduceLT, Int.reduceLE, Int.reduceGT, Int.reduceGE, beq_self_eq_true, List.getElem?_toArray, List.getElem?_cons_zero, List.getElem?_cons_succ, List.append_nil, List.nil_append, List.cons_append, List.append_eq, h4, v1]
              exact ⟨s.length + 1 - (p + 1 + 3 + x.length), by simp only [List.length_cons] at k4; omega, fD.row_ v2 hN4, v2.rowNe r2D h24, h0, h2, p + 1 + 3 + x.length, t.toNat, M', dv', iv', lv', rfl, by omega, by simp only [List.length_cons] at k4; omega, rfl, rfl, v3, hM'.mono leE, hrest', fun q => hiv' q (hiv (by omega)).2, fun q => hlv' q (hlv (by omega)).2⟩
      · have : p = s.length + 1 := by omega
        subst this
        rw [show (kk :: s).drop (s.length + 1) = [] from List.drop_eq_nil_of_le (by simp), restM_nil] at hrest
        simp only [RS, xs_some, Option.bind_some, Option.map_some, if_true, if_false, decide_true, decide_false, true_and, and_true, Bool.not_true, Bool.not_false, Bool.false_eq_true, not_false_eq_true, not_true_eq_false, Nat.reduceLT, Nat.reduceBEq, Nat.reduceEqDiff, Nat.reduceAdd, Int.reduceEq, Int.reduceLT, Int.reduceLE, Int.reduceGT, Int.reduceGE, beq_self_eq_true, List.getElem?_toArray, List.getElem?_cons_zero, List.getElem?_cons_succ, List.append_nil, List.nil_append, List.cons_append, List.append_eq]
        exact ⟨fC, h2, .inl ⟨rfl, r2C, h4, M, dv, iv, lv, jC, hM, hrest⟩⟩
    · rintro z e C hz ⟨fC, h2, ⟨rfl, r2C, h4, M, dv, iv, lv, jC, hM, hrest⟩ | ⟨rfl, c, h3, hld, hout⟩⟩
      rotate_left
      · simp only [RS, xs_some, Option.bind_some, Option.map_some, if_true, if_false, decide_true, decide_false, true_and, and_true, Bool.not_true, Bool.not_false, Bool.false_eq_true, not_false_eq_true, not_true_eq_false, Nat.reduceLT, Nat.reduceBEq, Nat.reduceEqDiff, Nat.reduceAdd, Int.reduceEq, Int.reduceLT, Int.reduceLE, Int.reduceGT, Int.reduceGE, beq_self_eq_true, List.getElem?_toArray, List.getElem?_cons_zero, List.getElem?_cons_succ, List.append_nil, List.nil_append, List.cons_append, List.append_eq, h2, h3, hld]
        exact ⟨fC, hout⟩
      have hsz := restM_sz hrest
      have hz0 : szM (msg0 kk.toNat) = 0 := rfl
      have hsized : Sized M := ⟨by simp only [szM] at hsz hz0; omega, by simp only [szM] at hsz hz0; omega, by simp only [szM] at hsz hz0; omega, fun b hb => by have := len_le_lens hb; simp only [szM] at hsz hz0; omega⟩
      have ldc := ldM jC hM.id
      obtain ⟨_, D, k1, rfl, k2⟩ := refCheck_spec (arrHp_on C) hM hsized.ids hsized.data hsized.list hsized.each
      simp only [RS, xs_some, Option.bind_some, Option.map_some, if_true, if_false, decide_true, decide_false, true_and, and_true, Bool.not_true, Bool.not_false, Bool.false_eq_true, not_false_eq_true, not_true_eq_false, Nat.reduceLT, Nat.reduceBEq, Nat.reduceEqDiff, Nat.reduceAdd, Int.reduceEq, Int.reduceLT, Int.reduceLE, Int.reduceGT, Int.reduceGE, beq_self_eq_true, List.getElem?_toArray, List.getElem?_cons_zero, List.getElem?_cons_succ, List.append_nil, List.nil_append, List.cons_append, List.append_eq, h4, ldc]
      refine run_call1 k1 ?_
      have fD := fC.then0 k2
      have jD := k2.row0 jC
      have r2D := k2.row0 r2C
      simp only [RS, xs_some, Option.bind_some, Option.map_some, if_true, if_false, decide_true, decide_false, true_and, and_true, Bool.not_true, Bool.not_false, Bool.false_eq_true, not_false_eq_true, not_true_eq_false, Nat.reduceLT, Nat.reduceBEq, Nat.reduceEqDiff, Nat.reduceAdd, Int.reduceEq, Int.reduceLT, Int.reduceLE, Int.reduceGT, Int.reduceGE, beq_self_eq_true, List.getElem?_toArray, List.getElem?_cons_zero, List.getElem?_cons_succ, List.append_nil, List.nil_append, List.cons_append, List.append_eq]
      refine condK_of (fun g => ?_) (fun g => ?_)
      · have hrd : readM (kk :: s) = .error (checkM M) := by rw [hread, hrest]; simp only []; rw [if_pos g]
        obtain ⟨E, z1, z2, z3, z4⟩ := fin _ _ fD r2D hrd
        simp only [RS, xs_some, Option.bind_some, Option.map_some, if_true, if_false, decide_true, decide_false, true_and, and_true, Bool.not_true, Bool.not_false, Bool.false_eq_true, not_false_eq_true, not_true_eq_false, Nat.reduceLT, Nat.reduceBEq, Nat.reduceEqDiff, Nat.reduceAdd, Int.reduceEq, Int.reduceLT, Int.reduceLE, Int.reduceGT, Int.reduceGE, beq_self_eq_true, List.getElem?_toArray, List.getElem?_cons_zero, List.getElem?_cons_succ, List.append_nil, List.nil_append, List.cons_append, List.append_eq, bldM0, h2, z1, z2]
        exact ⟨z3, z4⟩
      · have hrd : readM (kk :: s) = .ok M := by rw [hread, hrest]; simp only []; rw [if_neg g]
        obtain ⟨E, z1, z2, z3⟩ := setM (o := 0) (t := 41) (w := .agg (mc M dv iv lv)) (cs := mc M dv iv lv) r2D zid rfl (by rw [mc_len hM.id]; exact sz41) (by rw [mc_len hM.id]; decide) (mc_one hM)
        rw [putAt_all (by rw [mc_len zid, mc_len hM.id])] at z3
        have ldd := ldM jD hM.id
        have lde := (ldM z3 hM.id).2.2.2.2.2.2.2.2.2.2
        simp only [RS, xs_some, Option.bind_some, Option.map_some, if_true, if_false, decide_true, decide_false, true_and, and_true, Bool.not_true, Bool.not_false, Bool.false_eq_true, not_false_eq_true, not_true_eq_false, Nat.reduceLT, Nat.reduceBEq, Nat.reduceEqDiff, Nat.reduceAdd, Int.reduceEq, Int.reduceLT, Int.reduceLE, Int.reduceGT, Int.reduceGE, beq_self_eq_true, List.getElem?_toArray, List.getElem?_cons_zero, List.getElem?_cons_succ, List.append_nil, List.nil_append, List.cons_append, List.append_eq, h4, ldd, h2, z1, lde]
        have le1 := arrHp_le k2 (fun b q => q.elim)
        have le3 := arrHp_le z2 (fun b q => by cases q; exact arrHp_var r2D)
        exact ⟨fD.row_ z2 hN, rdOut_ok hrd (hM.mono (Hp.le_trans le1 le3))⟩
end Go.Sv.Try


namespace Go.Sv.Try
open Go Go.Proofs
set_option linter.unusedVariables false
set_option linter.unusedSimpArgs false

theorem M.ext' {x y : Go.Sv.M} (h0 : x.kind = y.kind) (h1 : x.who = y.who) (h2 : x.height = y.height) (h3 : x.round = y.round) (h4 : x.valid = y.valid) (h5 : x.num = y.num) (h6 : x.id = y.id) (h7 : x.data = y.data) (h8 : x.ids = y.ids) (h9 : x.list = y.list) : x = y := by
  cases x; cases y; simp at h0 h1 h2 h3 h4 h5 h6 h7 h8 h9; simp [*]

theorem lists_eq {α : Type} {a b : List α} (hl : a.length = b.length) (h : ∀ (j : Nat) u v, a[j]? = some u → b[j]? = some v → u = v) : a = b := by
  apply ext_take hl
  intro i x hx
  have hi := (List.getElem?_eq_some_iff.1 hx).1
  obtain ⟨y, hy⟩ := get_lt (l := a) (i := i) (by omega)
  rw [hy, h i y x hy hx]

set_option maxRecDepth 10000 in
set_option maxHeartbeats 32000000 in
theorem same_spec {m : Hp} {A : AS} {x y : Go.Sv.M} {dv iv lv dv' iv' lv' : V} (hm : m.on A) (h : MsgIn m x dv iv lv) (h' : MsgIn m y dv' iv' lv') (hs : x.ids.length ≤ 9223372036854775806) (hs2 : x.list.length ≤ 9223372036854775806) :
    ∃ w A', EvF Try.prog HH 32 [.agg (mc x dv iv lv), .agg (mc y dv' iv' lv')] A w A' ∧ Fr S0 A A' ∧ ∃ r, w = .bool r ∧ (r = true ↔ x = y) := by
  refine run_fn2 rfl Try.func32 (by unfold Try.f32; rfl) Try.ntmps32 (by unfold Try.f32; rfl) (by simp) ?_
  simp only [RS, xs_some, Option.bind_some, Option.map_some, if_true, if_false, decide_true, decide_false, true_and, and_true, Bool.not_true, Bool.not_false, Bool.false_eq_true, not_false_eq_true, not_true_eq_false, Nat.reduceLT, Nat.reduceBEq, Nat.reduceEqDiff, Nat.reduceAdd, Int.reduceEq, Int.reduceLT, Int.reduceLE, Int.reduceGT, Int.reduceGE, beq_self_eq_true, List.getElem?_toArray, List.getElem?_cons_zero, List.getElem?_cons_succ, List.append_nil, List.nil_append, List.cons_append, List.append_eq]
  obtain ⟨A1, e1, f1, r1, n1⟩ := new_var A (mc x dv iv lv)
  rw [← e1]
  obtain ⟨A2, e2, f2, r2, n2⟩ := new_var A1 (mc y dv' iv' lv')
  rw [← e2]
  have fA := f1.then0 f2
  have hm2 := hm.fr0 fA
  have ld := ldM (f2.row0 r1) h.id
  have ld' := ldM r2 h'.id
  have fa := faM A.blk.length
  have fa' := faM A1.blk.length
  have tx := cnv_text (P := Try.prog) (s := 38) (d := 9) (by decide) h.data hm2 Try.underlying38 Try.underlying5 Try.underlying9
  have tx' := cnv_text (P := Try.prog) (s := 38) (d := 9) (by decide) h'.data hm2 Try.underlying38 Try.underlying5 Try.underlying9
  have il := fun B => h.ids.len (P := Try.prog) Try.underlying39 B
  have il' := fun B => h'.ids.len (P := Try.prog) Try.underlying39 B
  have ll := fun B => h.list.len (P := Try.prog) Try.underlying33 B
  have ll' := fun B => h'.list.len (P := Try.prog) Try.underlying33 B
  have ei := eqI h.id h'.id
  have no : ∀ {p : Prop}, (x = y → p) → ¬ p → (false = true ↔ x = y) := fun q z => ⟨fun w => by simp at w, fun w => absurd (q w) z⟩
  simp only [RS, xs_some, Option.bind_some, Option.map_some, if_true, if_false, decide_true, decide_false, true_and, and_true, Bool.not_true, Bool.not_false, Bool.false_eq_true, not_false_eq_true, not_true_eq_false, Nat.reduceLT, Nat.reduceBEq, Nat.reduceEqDiff, Nat.reduceAdd, Int.reduceEq, Int.reduceLT, Int.reduceLE, Int.reduceGT, Int.reduceGE, beq_self_eq_true, List.getElem?_toArray, List.getElem?_cons_zero, List.getElem?_cons_succ, List.append_nil, List.nil_append, List.cons_append, List.append_eq, fa, fa', ld, ld']
  by_cases g0 : x.kind = y.kind
  rotate_left
  · simp only [RS, xs_some, Option.bind_some, Option.map_some, if_true, if_false, decide_true, decide_false, true_and, and_true, Bool.not_true, Bool.not_false, Bool.false_eq_true, not_false_eq_true, not_true_eq_false, Nat.reduceLT, Nat.reduceBEq, Nat.reduceEqDiff, Nat.reduceAdd, Int.reduceEq, Int.reduceLT, Int.reduceLE, Int.reduceGT, Int.reduceGE, beq_self_eq_true, List.getElem?_toArray, List.getElem?_cons_zero, List.getElem?_cons_succ, List.append_nil, List.nil_append, List.cons_append, List.append_eq, g0]
    exact ⟨fA, false, rfl, no (fun q => by rw [q]) g0⟩
  simp only [RS, xs_some, Option.bind_some, Option.map_some, if_true, if_false, decide_true, decide_false, true_and, and_true, Bool.not_true, Bool.not_false, Bool.false_eq_true, not_false_eq_true, not_true_eq_false, Nat.reduceLT, Nat.reduceBEq, Nat.reduceEqDiff, Nat.reduceAdd, Int.reduceEq, Int.reduceLT, Int.reduceLE, Int.reduceGT, Int.reduceGE, beq_self_eq_true, List.getElem?_toArray, List.getElem?_cons_zero, List.getElem?_cons_succ, List.append_nil, List.nil_append, List.cons_append, List.append_eq, g0, fa, fa', ld, ld']
  by_cases g1 : x.who = y.who
  rotate_left
  · simp only [RS, xs_some, Option.bind_some, Option.map_some, if_true, if_false, decide_true, decide_false, true_and, and_true, Bool.not_true, Bool.not_false, Bool.false_eq_true, not_false_eq_true, not_true_eq_false, Nat.reduceLT, Nat.reduceBEq, Nat.reduceEqDiff, Nat.reduceAdd, Int.reduceEq, Int.reduceLT, Int.reduceLE, Int.reduceGT, Int.reduceGE, beq_self_eq_true, List.getElem?_toArray, List.getElem?_cons_zero, List.getElem?_cons_succ, List.append_nil, List.nil_append, List.cons_append, List.append_eq, g1]
    exact ⟨fA, false, rfl, no (fun q => by rw [q]) g1⟩
  simp only [RS, xs_some, Option.bind_some, Option.map_some, if_true, if_false, decide_true, decide_false, true_and, and_true, Bool.not_true, Bool.not_false, Bool.false_eq_true, not_false_eq_true, not_true_eq_false, Nat.reduceLT, Nat.reduceBEq, Nat.reduceEqDiff, Nat.reduceAdd, Int.reduceEq, Int.reduceLT, Int.reduceLE, Int.reduceGT, Int.reduceGE, beq_self_eq_true, List.getElem?_toArray, List.getElem?_cons_zero, List.getElem?_cons_succ, List.append_nil, List.nil_append, List.cons_append, List.append_eq, g1, fa, fa', ld, ld']
  by_cases g2 : x.height = y.height
  rotate_left
  · simp only [RS, xs_some, Option.bind_some, Option.map_some, if_true, if_false, decide_true, decide_false, true_and, and_true, Bool.not_true, Bool.not_false, Bool.false_eq_true, not_false_eq_true, not_true_eq_false, Nat.reduceLT, Nat.reduceBEq, Nat.reduceEqDiff, Nat.reduceAdd, Int.reduceEq, Int.reduceLT, Int.reduceLE, Int.reduceGT, Int.reduceGE, beq_self_eq_true, List.getElem?_toArray, List.getElem?_cons_zero, List.getElem?_cons_succ, List.append_nil, List.nil_append, List.cons_append, List.append_eq, g2]
    exact ⟨fA, false, rfl, no (fun q => by rw [q]) g2⟩
  simp only [RS, xs_some, Option.bind_some, Option.map_some, if_true, if_false, decide_true, decide_false, true_and, and_true, Bool.not_true, Bool.not_false, Bool.false_eq_true, not_false_eq_true, not_true_eq_false, Nat.reduceLT, Nat.reduceBEq, Nat.reduceEqDiff, Nat.reduceAdd, Int.reduceEq, Int.reduceLT, Int.reduceLE, Int.reduceGT, Int.reduceGE, beq_self_eq_true, List.getElem?_toArray, List.getElem?_cons_zero, List.getElem?_cons_succ, List.append_nil, List.nil_append, List.cons_append, List.append_eq, g2, fa, fa', ld, ld']
  by_cases g3 : x.round = y.round
  rotate_left
  · simp only [RS, xs_some, Option.bind_some, Option.map_some, if_true, if_false, decide_true, decide_false, true_and, and_true, Bool.not_true, Bool.not_false, Bool.false_eq_true, not_false_eq_true, not_true_eq_false, Nat.reduceLT, Nat.reduceBEq, Nat.reduceEqDiff, Nat.reduceAdd, Int.reduceEq, Int.reduceLT, Int.reduceLE, Int.reduceGT, Int.reduceGE, beq_self_eq_true, List.getElem?_toArray, List.getElem?_cons_zero, List.getElem?_cons_succ, List.append_nil, List.nil_append, List.cons_append, List.append_eq, g3]
    exact ⟨fA, false, rfl, no (fun q => by rw [q]) g3⟩
  simp only [RS, xs_some, Option.bind_some, Option.map_some, if_true, if_false, decide_true, decide_false, true_and, and_true, Bool.not_true, Bool.not_false, Bool.false_eq_true, not_false_eq_true, not_true_eq_false, Nat.reduceLT, Nat.reduceBEq, Nat.reduceEqDiff, Nat.reduceAdd, Int.reduceEq, Int.reduceLT, Int.reduceLE, Int.reduceGT, Int.reduceGE, beq_self_eq_true, List.getElem?_toArray, List.getElem?_cons_zero, List.getElem?_cons_succ, List.append_nil, List.nil_append, List.cons_append, List.append_eq, g3, fa, fa', ld, ld']
  by_cases g4 : x.valid = y.valid
  rotate_left
  · simp only [RS, xs_some, Option.bind_some, Option.map_some, if_true, if_false, decide_true, decide_false, true_and, and_true, Bool.not_true, Bool.not_false, Bool.false_eq_true, not_false_eq_true, not_true_eq_false, Nat.reduceLT, Nat.reduceBEq, Nat.reduceEqDiff, Nat.reduceAdd, Int.reduceEq, Int.reduceLT, Int.reduceLE, Int.reduceGT, Int.reduceGE, beq_self_eq_true, List.getElem?_toArray, List.getElem?_cons_zero, List.getElem?_cons_succ, List.append_nil, List.nil_append, List.cons_append, List.append_eq, g4]
    exact ⟨fA, false, rfl, no (fun q => by rw [q]) g4⟩
  simp only [RS, xs_some, Option.bind_some, Option.map_some, if_true, if_false, decide_true, decide_false, true_and, and_true, Bool.not_true, Bool.not_false, Bool.false_eq_true, not_false_eq_true, not_true_eq_false, Nat.reduceLT, Nat.reduceBEq, Nat.reduceEqDiff, Nat.reduceAdd, Int.reduceEq, Int.reduceLT, Int.reduceLE, Int.reduceGT, Int.reduceGE, beq_self_eq_true, List.getElem?_toArray, List.getElem?_cons_zero, List.getElem?_cons_succ, List.append_nil, List.nil_append, List.cons_append, List.append_eq, g4, fa, fa', ld, ld']
  by_cases g5 : x.num = y.num
  rotate_left
  · simp only [RS, xs_some, Option.bind_some, Option.map_some, if_true, if_false, decide_true, decide_false, true_and, and_true, Bool.not_true, Bool.not_false, Bool.false_eq_true, not_false_eq_true, not_true_eq_false, Nat.reduceLT, Nat.reduceBEq, Nat.reduceEqDiff, Nat.reduceAdd, Int.reduceEq, Int.reduceLT, Int.reduceLE, Int.reduceGT, Int.reduceGE, beq_self_eq_true, List.getElem?_toArray, List.getElem?_cons_zero, List.getElem?_cons_succ, List.append_nil, List.nil_append, List.cons_append, List.append_eq, g5]
    exact ⟨fA, false, rfl, no (fun q => by rw [q]) g5⟩
  simp only [RS, xs_some, Option.bind_some, Option.map_some, if_true, if_false, decide_true, decide_false, true_and, and_true, Bool.not_true, Bool.not_false, Bool.false_eq_true, not_false_eq_true, not_true_eq_false, Nat.reduceLT, Nat.reduceBEq, Nat.reduceEqDiff, Nat.reduceAdd, Int.reduceEq, Int.reduceLT, Int.reduceLE, Int.reduceGT, Int.reduceGE, beq_self_eq_true, List.getElem?_toArray, List.getElem?_cons_zero, List.getElem?_cons_succ, List.append_nil, List.nil_append, List.cons_append, List.append_eq, g5, fa, fa', ld, ld', ei]
  by_cases g6 : x.id = y.id
  rotate_left
  · simp only [RS, xs_some, Option.bind_some, Option.map_some, if_true, if_false, decide_true, decide_false, true_and, and_true, Bool.not_true, Bool.not_false, Bool.false_eq_true, not_false_eq_true, not_true_eq_false, Nat.reduceLT, Nat.reduceBEq, Nat.reduceEqDiff, Nat.reduceAdd, Int.reduceEq, Int.reduceLT, Int.reduceLE, Int.reduceGT, Int.reduceGE, beq_self_eq_true, List.getElem?_toArray, List.getElem?_cons_zero, List.getElem?_cons_succ, List.append_nil, List.nil_append, List.cons_append, List.append_eq, g6]
    exact ⟨fA, false, rfl, no (fun q => by rw [q]) g6⟩
  simp only [RS, xs_some, Option.bind_some, Option.map_some, if_true, if_false, decide_true, decide_false, true_and, and_true, Bool.not_true, Bool.not_false, Bool.false_eq_true, not_false_eq_true, not_true_eq_false, Nat.reduceLT, Nat.reduceBEq, Nat.reduceEqDiff, Nat.reduceAdd, Int.reduceEq, Int.reduceLT, Int.reduceLE, Int.reduceGT, Int.reduceGE, beq_self_eq_true, List.getElem?_toArray, List.getElem?_cons_zero, List.getElem?_cons_succ, List.append_nil, List.nil_append, List.cons_append, List.append_eq, g6, fa, fa', ld, ld', tx, tx']
  by_cases g7 : x.data = y.data
  rotate_left
  · simp only [RS, xs_some, Option.bind_some, Option.map_some, if_true, if_false, decide_true, decide_false, true_and, and_true, Bool.not_true, Bool.not_false, Bool.false_eq_true, not_false_eq_true, not_true_eq_false, Nat.reduceLT, Nat.reduceBEq, Nat.reduceEqDiff, Nat.reduceAdd, Int.reduceEq, Int.reduceLT, Int.reduceLE, Int.reduceGT, Int.reduceGE, beq_self_eq_true, List.getElem?_toArray, List.getElem?_cons_zero, List.getElem?_cons_succ, List.append_nil, List.nil_append, List.cons_append, List.append_eq, g7]
    exact ⟨fA, false, rfl, no (fun q => by rw [q]) g7⟩
  simp only [RS, xs_some, Option.bind_some, Option.map_some, if_true, if_false, decide_true, decide_false, true_and, and_true, Bool.not_true, Bool.not_false, Bool.false_eq_true, not_false_eq_true, not_true_eq_false, Nat.reduceLT, Nat.reduceBEq, Nat.reduceEqDiff, Nat.reduceAdd, Int.reduceEq, Int.reduceLT, Int.reduceLE, Int.reduceGT, Int.reduceGE, beq_self_eq_true, List.getElem?_toArray, List.getElem?_cons_zero, List.getElem?_cons_succ, List.append_nil, List.nil_append, List.cons_append, List.append_eq, g7, fa, fa', ld, ld', il, il']
  by_cases g8 : x.ids.length = y.ids.length
  rotate_left
  · have g8' : ¬ ((x.ids.length : Int) = y.ids.length) := by omega
    simp only [RS, xs_some, Option.bind_some, Option.map_some, if_true, if_false, decide_true, decide_false, true_and, and_true, Bool.not_true, Bool.not_false, Bool.false_eq_true, not_false_eq_true, not_true_eq_false, Nat.reduceLT, Nat.reduceBEq, Nat.reduceEqDiff, Nat.reduceAdd, Int.reduceEq, Int.reduceLT, Int.reduceLE, Int.reduceGT, Int.reduceGE, beq_self_eq_true, List.getElem?_toArray, List.getElem?_cons_zero, List.getElem?_cons_succ, List.append_nil, List.nil_append, List.cons_append, List.append_eq, g8']
    exact ⟨fA, false, rfl, no (fun q => by rw [q]) g8⟩
  have g8' : ((x.ids.length : Int) = y.ids.length) := by omega
  simp only [RS, xs_some, Option.bind_some, Option.map_some, if_true, if_false, decide_true, decide_false, true_and, and_true, Bool.not_true, Bool.not_false, Bool.false_eq_true, not_false_eq_true, not_true_eq_false, Nat.reduceLT, Nat.reduceBEq, Nat.reduceEqDiff, Nat.reduceAdd, Int.reduceEq, Int.reduceLT, Int.reduceLE, Int.reduceGT, Int.reduceGE, beq_self_eq_true, List.getElem?_toArray, List.getElem?_cons_zero, List.getElem?_cons_succ, List.append_nil, List.nil_append, List.cons_append, List.append_eq, g8', fa, fa', ld, ld', ll, ll']
  by_cases g9 : x.list.length = y.list.length
  rotate_left
  · have g9' : ¬ ((x.list.length : Int) = y.list.length) := by omega
    simp only [RS, xs_some, Option.bind_some, Option.map_some, if_true, if_false, decide_true, decide_false, true_and, and_true, Bool.not_true, Bool.not_false, Bool.false_eq_true, not_false_eq_true, not_true_eq_false, Nat.reduceLT, Nat.reduceBEq, Nat.reduceEqDiff, Nat.reduceAdd, Int.reduceEq, Int.reduceLT, Int.reduceLE, Int.reduceGT, Int.reduceGE, beq_self_eq_true, List.getElem?_toArray, List.getElem?_cons_zero, List.getElem?_cons_succ, List.append_nil, List.nil_append, List.cons_append, List.append_eq, g9']
    exact ⟨fA, false, rfl, no (fun q => by rw [q]) g9⟩
  have g9' : ((x.list.length : Int) = y.list.length) := by omega
  simp only [RS, xs_some, Option.bind_some, Option.map_some, if_true, if_false, decide_true, decide_false, true_and, and_true, Bool.not_true, Bool.not_false, Bool.false_eq_true, not_false_eq_true, not_true_eq_false, Nat.reduceLT, Nat.reduceBEq, Nat.reduceEqDiff, Nat.reduceAdd, Int.reduceEq, Int.reduceLT, Int.reduceLE, Int.reduceGT, Int.reduceGE, beq_self_eq_true, List.getElem?_toArray, List.getElem?_cons_zero, List.getElem?_cons_succ, List.append_nil, List.nil_append, List.cons_append, List.append_eq, g9']
  clear g8' g9'
  refine run_loop_j (fun n e B => B = A2 ∧ e.get 2 = .ptr A.blk.length 0 ∧ e.get 3 = .ptr A1.blk.length 0 ∧ ∃ i : Nat, n = x.ids.length - i ∧ i ≤ x.ids.length ∧ e.get 5 = .int .i64 i ∧ ∀ (j : Nat) u v, j < i → x.ids[j]? = some u → y.ids[j]? = some v → u = v)
    (fun z e B => B = A2 ∧ ((Is z (.exit 0) ∧ e.get 2 = .ptr A.blk.length 0 ∧ e.get 3 = .ptr A1.blk.length 0 ∧ x.ids = y.ids) ∨ (Is z .ret ∧ e.get 4 = .bool false ∧ x.ids ≠ y.ids)))
    ⟨_, rfl, rfl, rfl, 0, rfl, by omega, rfl, fun j u v q => absurd q (by omega)⟩ ?_ ?_
  · rintro n e B ⟨rfl, h2, h3, i, rfl, hi, h5, hall⟩
    simp only [RS, xs_some, Option.bind_some, Option.map_some, if_true, if_false, decide_true, decide_false, true_and, and_true, Bool.not_true, Bool.not_false, Bool.false_eq_true, not_false_eq_true, not_true_eq_false, Nat.reduceLT, Nat.reduceBEq, Nat.reduceEqDiff, Nat.reduceAdd, Int.reduceEq, Int.reduceLT, Int.reduceLE, Int.reduceGT, Int.reduceGE, beq_self_eq_true, List.getElem?_toArray, List.getElem?_cons_zero, List.getElem?_cons_succ, List.append_nil, List.nil_append, List.cons_append, List.append_eq, h5, h2, fa, ld, il]
    refine condK_of (fun g => ?_) (fun g => ?_)
    · obtain ⟨u, hu⟩ := get_lt (l := x.ids) (i := i) (by omega)
      obtain ⟨v, hv⟩ := get_lt (l := y.ids) (i := i) (by omega)
      obtain ⟨b1, o1, c1, p1, p2, p3⟩ := h.ids.at (P := Try.prog) (k := .i64) hm2 Try.underlying39 sz37 ag37 hu
      obtain ⟨rfl, hul⟩ := eB_W.1 p3
      obtain ⟨b3, o3, c3, q1, q2, q3⟩ := h'.ids.at (P := Try.prog) (k := .i64) hm2 Try.underlying39 sz37 ag37 hv
      obtain ⟨rfl, hvl⟩ := eB_W.1 q3
      simp only [RS, xs_some, Option.bind_some, Option.map_some, if_true, if_false, decide_true, decide_false, true_and, and_true, Bool.not_true, Bool.not_false, Bool.false_eq_true, not_false_eq_true, not_true_eq_false, Nat.reduceLT, Nat.reduceBEq, Nat.reduceEqDiff, Nat.reduceAdd, Int.reduceEq, Int.reduceLT, Int.reduceLE, Int.reduceGT, Int.reduceGE, beq_self_eq_true, List.getElem?_toArray, List.getElem?_cons_zero, List.getElem?_cons_succ, List.append_nil, List.nil_append, List.cons_append, List.append_eq]
      rw [pl_32_6, run_plan_id (by rfl)]
      simp only [RS, xs_some, Option.bind_some, Option.map_some, if_true, if_false, decide_true, decide_false, true_and, and_true, Bool.not_true, Bool.not_false, Bool.false_eq_true, not_false_eq_true, not_true_eq_false, Nat.reduceLT, Nat.reduceBEq, Nat.reduceEqDiff, Nat.reduceAdd, Int.reduceEq, Int.reduceLT, Int.reduceLE, Int.reduceGT, Int.reduceGE, beq_self_eq_true, List.getElem?_toArray, List.getElem?_cons_zero, List.getElem?_cons_succ, List.append_nil, List.nil_append, List.cons_append, List.append_eq, h5, h2, h3, fa, fa', ld, ld', p1, p2, q1, q2, eqI hul hvl]
      by_cases g1 : u = v
      · simp only [RS, xs_some, Option.bind_some, Option.map_some, if_true, if_false, decide_true, decide_false, true_and, and_true, Bool.not_true, Bool.not_false, Bool.false_eq_true, not_false_eq_true, not_true_eq_false, Nat.reduceLT, Nat.reduceBEq, Nat.reduceEqDiff, Nat.reduceAdd, Int.reduceEq, Int.reduceLT, Int.reduceLE, Int.reduceGT, Int.reduceGE, beq_self_eq_true, List.getElem?_toArray, List.getElem?_cons_zero, List.getElem?_cons_succ, List.append_nil, List.nil_append, List.cons_append, List.append_eq, g1, h5]
        refine ⟨x.ids.length - (i + 1), by omega, h2, h3, i + 1, rfl, by omega, by rw [wrapS (by omega)], fun j u' v' hj hu' hv' => ?_⟩
        rcases Nat.lt_or_ge j i with r | r
        · exact hall j u' v' r hu' hv'
        · have : j = i := by omega
          subst this
          rw [hu] at hu'; rw [hv] at hv'; cases hu'; cases hv'; exact g1
      · simp only [RS, xs_some, Option.bind_some, Option.map_some, if_true, if_false, decide_true, decide_false, true_and, and_true, Bool.not_true, Bool.not_false, Bool.false_eq_true, not_false_eq_true, not_true_eq_false, Nat.reduceLT, Nat.reduceBEq, Nat.reduceEqDiff, Nat.reduceAdd, Int.reduceEq, Int.reduceLT, Int.reduceLE, Int.reduceGT, Int.reduceGE, beq_self_eq_true, List.getElem?_toArray, List.getElem?_cons_zero, List.getElem?_cons_succ, List.append_nil, List.nil_append, List.cons_append, List.append_eq, g1]
        exact .inr ⟨rfl, fun q => g1 (by rw [q] at hu; rw [hu] at hv; cases hv; rfl)⟩
    · simp only [RS, xs_some, Option.bind_some, Option.map_some, if_true, if_false, decide_true, decide_false, true_and, and_true, Bool.not_true, Bool.not_false, Bool.false_eq_true, not_false_eq_true, not_true_eq_false, Nat.reduceLT, Nat.reduceBEq, Nat.reduceEqDiff, Nat.reduceAdd, Int.reduceEq, Int.reduceLT, Int.reduceLE, Int.reduceGT, Int.reduceGE, beq_self_eq_true, List.getElem?_toArray, List.getElem?_cons_zero, List.getElem?_cons_succ, List.append_nil, List.nil_append, List.cons_append, List.append_eq]
      refine .inl ⟨rfl, h2, h3, lists_eq g8 fun j u v hu hv => hall j u v ?_ hu hv⟩
      have := (List.getElem?_eq_some_iff.1 hu).1
      omega
  rintro z e B hz ⟨rfl, ⟨rfl, h2, h3, gi⟩ | ⟨rfl, h4, gi⟩⟩
  rotate_left
  · simp only [RS, xs_some, Option.bind_some, Option.map_some, if_true, if_false, decide_true, decide_false, true_and, and_true, Bool.not_true, Bool.not_false, Bool.false_eq_true, not_false_eq_true, not_true_eq_false, Nat.reduceLT, Nat.reduceBEq, Nat.reduceEqDiff, Nat.reduceAdd, Int.reduceEq, Int.reduceLT, Int.reduceLE, Int.reduceGT, Int.reduceGE, beq_self_eq_true, List.getElem?_toArray, List.getElem?_cons_zero, List.getElem?_cons_succ, List.append_nil, List.nil_append, List.cons_append, List.append_eq, h4]
    exact ⟨fA, false, rfl, no (fun q => by rw [q]) gi⟩
  simp only [RS, xs_some, Option.bind_some, Option.map_some, if_true, if_false, decide_true, decide_false, true_and, and_true, Bool.not_true, Bool.not_false, Bool.false_eq_true, not_false_eq_true, not_true_eq_false, Nat.reduceLT, Nat.reduceBEq, Nat.reduceEqDiff, Nat.reduceAdd, Int.reduceEq, Int.reduceLT, Int.reduceLE, Int.reduceGT, Int.reduceGE, beq_self_eq_true, List.getElem?_toArray, List.getElem?_cons_zero, List.getElem?_cons_succ, List.append_nil, List.nil_append, List.cons_append, List.append_eq]
  refine run_loop_j (fun n e C => C = B ∧ e.get 2 = .ptr A.blk.length 0 ∧ e.get 3 = .ptr A1.blk.length 0 ∧ ∃ i : Nat, n = x.list.length - i ∧ i ≤ x.list.length ∧ e.get 6 = .int .i64 i ∧ ∀ (j : Nat) u v, j < i → x.list[j]? = some u → y.list[j]? = some v → u = v)
    (fun z e C => C = B ∧ ((Is z (.exit 2) ∧ x.list = y.list) ∨ (Is z .ret ∧ e.get 4 = .bool false ∧ x.list ≠ y.list)))
    ⟨_, rfl, h2, h3, 0, rfl, by omega, rfl, fun j u v q => absurd q (by omega)⟩ ?_ ?_
  · rintro n e C ⟨rfl, h2, h3, i, rfl, hi, h6, hall⟩
    simp only [RS, xs_some, Option.bind_some, Option.map_some, if_true, if_false, decide_true, decide_false, true_and, and_true, Bool.not_true, Bool.not_false, Bool.false_eq_true, not_false_eq_true, not_true_eq_false, Nat.reduceLT, Nat.reduceBEq, Nat.reduceEqDiff, Nat.reduceAdd, Int.reduceEq, Int.reduceLT, Int.reduceLE, Int.reduceGT, Int.reduceGE, beq_self_eq_true, List.getElem?_toArray, List.getElem?_cons_zero, List.getElem?_cons_succ, List.append_nil, List.nil_append, List.cons_append, List.append_eq, h6, h2, fa, ld, ll]
    refine condK_of (fun g => ?_) (fun g => ?_)
    · obtain ⟨u, hu⟩ := get_lt (l := x.list) (i := i) (by omega)
      obtain ⟨v, hv⟩ := get_lt (l := y.list) (i := i) (by omega)
      obtain ⟨b1, o1, c1, p1, p2, p3⟩ := h.list.at (P := Try.prog) (k := .i64) hm2 Try.underlying33 sz38 ag38 hu
      obtain ⟨b3, o3, c3, q1, q2, q3⟩ := h'.list.at (P := Try.prog) (k := .i64) hm2 Try.underlying33 sz38 ag38 hv
      rw [eSl_W] at p3 q3
      have p4 := cnv_text (P := Try.prog) (s := 38) (d := 9) (by decide) p3 hm2 Try.underlying38 Try.underlying5 Try.underlying9
      have q4 := cnv_text (P := Try.prog) (s := 38) (d := 9) (by decide) q3 hm2 Try.underlying38 Try.underlying5 Try.underlying9
      simp only [RS, xs_some, Option.bind_some, Option.map_some, if_true, if_false, decide_true, decide_false, true_and, and_true, Bool.not_true, Bool.not_false, Bool.false_eq_true, not_false_eq_true, not_true_eq_false, Nat.reduceLT, Nat.reduceBEq, Nat.reduceEqDiff, Nat.reduceAdd, Int.reduceEq, Int.reduceLT, Int.reduceLE, Int.reduceGT, Int.reduceGE, beq_self_eq_true, List.getElem?_toArray, List.getElem?_cons_zero, List.getElem?_cons_succ, List.append_nil, List.nil_append, List.cons_append, List.append_eq]
      rw [pl_32_11, run_plan_id (by rfl)]
      simp only [RS, xs_some, Option.bind_some, Option.map_some, if_true, if_false, decide_true, decide_false, true_and, and_true, Bool.not_true, Bool.not_false, Bool.false_eq_true, not_false_eq_true, not_true_eq_false, Nat.reduceLT, Nat.reduceBEq, Nat.reduceEqDiff, Nat.reduceAdd, Int.reduceEq, Int.reduceLT, Int.reduceLE, Int.reduceGT, Int.reduceGE, beq_self_eq_true, List.getElem?_toArray, List.getElem?_cons_zero, List.getElem?_cons_succ, List.append_nil, List.nil_append, List.cons_append, List.append_eq, h6, h2, h3, fa, fa', ld, ld', p1, p2, p4, q1, q2, q4]
      by_cases g1 : u = v
      · simp only [RS, xs_some, Option.bind_some, Option.map_some, if_true, if_false, decide_true, decide_false, true_and, and_true, Bool.not_true, Bool.not_false, Bool.false_eq_true, not_false_eq_true, not_true_eq_false, Nat.reduceLT, Nat.reduceBEq, Nat.reduceEqDiff, Nat.reduceAdd, Int.reduceEq, Int.reduceLT, Int.reduceLE, Int.reduceGT, Int.reduceGE, beq_self_eq_true, List.getElem?_toArray, List.getElem?_cons_zero, List.getElem?_cons_succ, List.append_nil, List.nil_append, List.cons_append, List.append_eq, g1, h6]
        refine ⟨x.list.length - (i + 1), by omega, h2, h3, i + 1, rfl, by omega, by rw [wrapS (by omega)], fun j u' v' hj hu' hv' => ?_⟩
        rcases Nat.lt_or_ge j i with r | r
        · exact hall j u' v' r hu' hv'
        · have : j = i := by omega
          subst this
          rw [hu] at hu'; rw [hv] at hv'; cases hu'; cases hv'; exact g1
      · simp only [RS, xs_some, Option.bind_some, Option.map_some, if_true, if_false, decide_true, decide_false, true_and, and_true, Bool.not_true, Bool.not_false, Bool.false_eq_true, not_false_eq_true, not_true_eq_false, Nat.reduceLT, Nat.reduceBEq, Nat.reduceEqDiff, Nat.reduceAdd, Int.reduceEq, Int.reduceLT, Int.reduceLE, Int.reduceGT, Int.reduceGE, beq_self_eq_true, List.getElem?_toArray, List.getElem?_cons_zero, List.getElem?_cons_succ, List.append_nil, List.nil_append, List.cons_append, List.append_eq, g1]
        exact .inr ⟨rfl, fun q => g1 (by rw [q] at hu; rw [hu] at hv; cases hv; rfl)⟩
    · simp only [RS, xs_some, Option.bind_some, Option.map_some, if_true, if_false, decide_true, decide_false, true_and, and_true, Bool.not_true, Bool.not_false, Bool.false_eq_true, not_false_eq_true, not_true_eq_false, Nat.reduceLT, Nat.reduceBEq, Nat.reduceEqDiff, Nat.reduceAdd, Int.reduceEq, Int.reduceLT, Int.reduceLE, Int.reduceGT, Int.reduceGE, beq_self_eq_true, List.getElem?_toArray, List.getElem?_cons_zero, List.getElem?_cons_succ, List.append_nil, List.nil_append, List.cons_append, List.append_eq]
      refine .inl ⟨rfl, lists_eq g9 fun j u v hu hv => hall j u v ?_ hu hv⟩
      have := (List.getElem?_eq_some_iff.1 hu).1
      omega
  rintro z e C hz ⟨rfl, ⟨rfl, gl⟩ | ⟨rfl, h4, gl⟩⟩
  · simp only [RS, xs_some, Option.bind_some, Option.map_some, if_true, if_false, decide_true, decide_false, true_and, and_true, Bool.not_true, Bool.not_false, Bool.false_eq_true, not_false_eq_true, not_true_eq_false, Nat.reduceLT, Nat.reduceBEq, Nat.reduceEqDiff, Nat.reduceAdd, Int.reduceEq, Int.reduceLT, Int.reduceLE, Int.reduceGT, Int.reduceGE, beq_self_eq_true, List.getElem?_toArray, List.getElem?_cons_zero, List.getElem?_cons_succ, List.append_nil, List.nil_append, List.cons_append, List.append_eq]
    exact ⟨fA, true, rfl, by simp [M.ext' g0 g1 g2 g3 g4 g5 g6 g7 gi gl]⟩
  · simp only [RS, xs_some, Option.bind_some, Option.map_some, if_true, if_false, decide_true, decide_false, true_and, and_true, Bool.not_true, Bool.not_false, Bool.false_eq_true, not_false_eq_true, not_true_eq_false, Nat.reduceLT, Nat.reduceBEq, Nat.reduceEqDiff, Nat.reduceAdd, Int.reduceEq, Int.reduceLT, Int.reduceLE, Int.reduceGT, Int.reduceGE, beq_self_eq_true, List.getElem?_toArray, List.getElem?_cons_zero, List.getElem?_cons_succ, List.append_nil, List.nil_append, List.cons_append, List.append_eq, h4]
    exact ⟨fA, false, rfl, no (fun q => by rw [q]) gl⟩

/-- Sizes of what was read. -/
theorem readMsg_sz (b : Bts) : szM (readMsg b) ≤ b.length := by
  unfold readMsg
  cases h : readM b with
  | error e => show szM (msg0 0) ≤ _; exact Nat.zero_le _
  | ok m =>
    show szM m ≤ _
    match b, h with
    | k :: r, h =>
      unfold readM at h
      simp only [] at h
      split at h
      · simp at h
      · split at h
        · simp at h
        · rename_i m' hm
          split at h
          · simp at h
          · simp at h; subst h
            have := restM_sz hm
            have hz : szM (msg0 k.toNat) = 0 := rfl
            simp only [List.length_cons]; omega

set_option maxRecDepth 10000 in
set_option maxHeartbeats 16000000 in
theorem packReads_spec {m : Hp} {A : AS} {v : V} {b : Bts} (hw : WF A) (hm : m.on A) (h : Slc eU8 m v b) (hb : b.length ≤ 1000000000000) :
    ∃ w A', EvF Try.prog HH 6 [v] A w A' ∧ w = .bool true := by
  refine run_fn2 rfl Try.func6 (by unfold Try.f6; rfl) Try.ntmps6 (by unfold Try.f6; rfl) (by simp) ?_
  simp only [RS, xs_some, Option.bind_some, Option.map_some, if_true, if_false, decide_true, decide_false, true_and, and_true, Bool.not_true, Bool.not_false, Bool.false_eq_true, not_false_eq_true, not_true_eq_false, Nat.reduceLT, Nat.reduceBEq, Nat.reduceEqDiff, Nat.reduceAdd, Int.reduceEq, Int.reduceLT, Int.reduceLE, Int.reduceGT, Int.reduceGE, beq_self_eq_true, List.getElem?_toArray, List.getElem?_cons_zero, List.getElem?_cons_succ, List.append_nil, List.nil_append, List.cons_append, List.append_eq]
  refine run_call1 (evF_ground rfl) ?_
  simp only [RS, xs_some, Option.bind_some, Option.map_some, if_true, if_false, decide_true, decide_false, true_and, and_true, Bool.not_true, Bool.not_false, Bool.false_eq_true, not_false_eq_true, not_true_eq_false, Nat.reduceLT, Nat.reduceBEq, Nat.reduceEqDiff, Nat.reduceAdd, Int.reduceEq, Int.reduceLT, Int.reduceLE, Int.reduceGT, Int.reduceGE, beq_self_eq_true, List.getElem?_toArray, List.getElem?_cons_zero, List.getElem?_cons_succ, List.append_nil, List.nil_append, List.cons_append, List.append_eq]
  obtain ⟨w, A1, k1, k2, dv, iv, lv, rfl, k3⟩ := read_spec hw hm h hb
  refine run_call1 k1 ?_
  simp only [RS, xs_some, Option.bind_some, Option.map_some, if_true, if_false, decide_true, decide_false, true_and, and_true, Bool.not_true, Bool.not_false, Bool.false_eq_true, not_false_eq_true, not_true_eq_false, Nat.reduceLT, Nat.reduceBEq, Nat.reduceEqDiff, Nat.reduceAdd, Int.reduceEq, Int.reduceLT, Int.reduceLE, Int.reduceGT, Int.reduceGE, beq_self_eq_true, List.getElem?_toArray, List.getElem?_cons_zero, List.getElem?_cons_succ, List.append_nil, List.nil_append, List.cons_append, List.append_eq, zcM]
  obtain ⟨A2, s1, s2, s3, s4⟩ := new_set (P := Try.prog) A1 (z := mcZ) (t := 41) (x := .agg (mc (readMsg b) dv iv lv)) (cs := mc (readMsg b) dv iv lv) rfl (by rw [mc_len k3.id]; exact sz41) (by rw [mc_len k3.id]; rfl) (mc_one k3)
  have hm2 := (hm.fr0 k2).fr0 s2
  have tx := cnv_text (P := Try.prog) (s := 38) (d := 9) (by decide) h hm2 Try.underlying38 Try.underlying5 Try.underlying9
  simp only [RS, xs_some, Option.bind_some, Option.map_some, if_true, if_false, decide_true, decide_false, true_and, and_true, Bool.not_true, Bool.not_false, Bool.false_eq_true, not_false_eq_true, not_true_eq_false, Nat.reduceLT, Nat.reduceBEq, Nat.reduceEqDiff, Nat.reduceAdd, Int.reduceEq, Int.reduceLT, Int.reduceLE, Int.reduceGT, Int.reduceGE, beq_self_eq_true, List.getElem?_toArray, List.getElem?_cons_zero, List.getElem?_cons_succ, List.append_nil, List.nil_append, List.cons_append, List.append_eq, s1, tx]
  obtain ⟨w, A3, p1, p2, dv', iv', lv', rfl, p3⟩ := refRead_spec (A := A2) (b := b) (s2.wf (k2.wf hw)) hb
  refine run_call1 p1 ?_
  simp only [RS, xs_some, Option.bind_some, Option.map_some, if_true, if_false, decide_true, decide_false, true_and, and_true, Bool.not_true, Bool.not_false, Bool.false_eq_true, not_false_eq_true, not_true_eq_false, Nat.reduceLT, Nat.reduceBEq, Nat.reduceEqDiff, Nat.reduceAdd, Int.reduceEq, Int.reduceLT, Int.reduceLE, Int.reduceGT, Int.reduceGE, beq_self_eq_true, List.getElem?_toArray, List.getElem?_cons_zero, List.getElem?_cons_succ, List.append_nil, List.nil_append, List.cons_append, List.append_eq, zcM]
  obtain ⟨A4, t1, t2, t3, t4⟩ := new_set (P := Try.prog) A3 (z := mcZ) (t := 41) (x := .agg (mc (readMsg b) dv' iv' lv')) (cs := mc (readMsg b) dv' iv' lv') rfl (by rw [mc_len p3.id]; exact sz41) (by rw [mc_len p3.id]; rfl) (mc_one p3)
  have ld := ldM (t2.row0 (p2.row0 s3)) k3.id
  have ld' := ldM t3 p3.id
  have hsz := readMsg_sz b
  have le1 := arrHp_le s2 (fun b q => q.elim)
  have le2 := arrHp_le p2 (fun b q => q.elim)
  have le3 := arrHp_le t2 (fun b q => q.elim)
  obtain ⟨w, A5, q1, q2, r, rfl, q3⟩ := same_spec (arrHp_on A4) (k3.mono (Hp.le_trans le1 (Hp.le_trans le2 le3))) (p3.mono le3) (by simp only [szM] at hsz; omega) (by simp only [szM] at hsz; omega)
  have hr : r = true := q3.2 rfl
  subst hr
  simp only [RS, xs_some, Option.bind_some, Option.map_some, if_true, if_false, decide_true, decide_false, true_and, and_true, Bool.not_true, Bool.not_false, Bool.false_eq_true, not_false_eq_true, not_true_eq_false, Nat.reduceLT, Nat.reduceBEq, Nat.reduceEqDiff, Nat.reduceAdd, Int.reduceEq, Int.reduceLT, Int.reduceLE, Int.reduceGT, Int.reduceGE, beq_self_eq_true, List.getElem?_toArray, List.getElem?_cons_zero, List.getElem?_cons_succ, List.append_nil, List.nil_append, List.cons_append, List.append_eq, t1, ld, ld']
  refine run_call1 q1 ?_
  simp only [RS, xs_some, Option.bind_some, Option.map_some, if_true, if_false, decide_true, decide_false, true_and, and_true, Bool.not_true, Bool.not_false, Bool.false_eq_true, not_false_eq_true, not_true_eq_false, Nat.reduceLT, Nat.reduceBEq, Nat.reduceEqDiff, Nat.reduceAdd, Int.reduceEq, Int.reduceLT, Int.reduceLE, Int.reduceGT, Int.reduceGE, beq_self_eq_true, List.getElem?_toArray, List.getElem?_cons_zero, List.getElem?_cons_succ, List.append_nil, List.nil_append, List.cons_append, List.append_eq]

end Go.Sv.Try
