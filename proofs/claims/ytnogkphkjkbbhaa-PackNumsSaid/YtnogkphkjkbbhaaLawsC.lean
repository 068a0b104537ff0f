/- The law of numbers. -/
import Derived.Test.YtnogkphkjkbbhaaLawsB
namespace Go.Sv.Try
open Go Go.Proofs
set_option linter.unusedVariables false
set_option linter.unusedSimpArgs false

theorem bslPt (b : Nat) : bsl Try.prog 69 5 (some [(0, .ptr b 1), (1, .ptr b 2), (2, .ptr b 3), (3, .ptr b 4), (4, .ptr b 5)]) = some (.newSl (ptrs b) 5 1) := by kernel_rfl
theorem num_check (f : Nat) (hf : f < 5) (n : Int) : checkM (setNum (msg0 9) (f + 1) n) = if n < 0 ∨ n > 1099511627776 then 1 else 0 := by
  have h1 : (setNum (msg0 9) (f + 1) n).nums.any numBad = numBad n := by
    match f, hf with
    | 0, _ => simp [setNum, M.nums, msg0, numBad]
    | 1, _ => simp [setNum, M.nums, msg0, numBad]
    | 2, _ => simp [setNum, M.nums, msg0, numBad]
    | 3, _ => simp [setNum, M.nums, msg0, numBad]
    | 4, _ => simp [setNum, M.nums, msg0, numBad]
  have hk : (setNum (msg0 9) (f + 1) n).kind = 9 := by unfold setNum; split <;> rfl
  obtain ⟨_, h2, h3, h4⟩ := setNum_id (msg0 9) (f + 1) n
  unfold checkM
  rw [hk, h1, h2, h3, h4, if_neg (by decide)]
  by_cases q : n < 0 ∨ n > 1099511627776
  · rw [if_pos q, if_pos (by simp [numBad]; exact q)]
  · rw [if_neg q, if_neg (by simp [numBad]; omega)]; rfl
theorem num_len (f : Nat) (hf : f < 5) (n : Nat) : (writeB (setNum (msg0 9) (f + 1) (n : Int))).length = if n = 0 then 1 else 5 + (digits n).length := by
  have e : fieldList (setNum (msg0 9) (f + 1) (n : Int)) = opt1 (f + 1) (digits n) := by
    match f, hf with
    | 0, _ => simp [fieldList, P9, setNum, msg0, digits_zero, optAll, opt1]
    | 1, _ => simp [fieldList, P9, setNum, msg0, digits_zero, optAll, opt1]
    | 2, _ => simp [fieldList, P9, setNum, msg0, digits_zero, optAll, opt1]
    | 3, _ => simp [fieldList, P9, setNum, msg0, digits_zero, optAll, opt1]
    | 4, _ => simp [fieldList, P9, setNum, msg0, digits_zero, optAll, opt1]
  unfold writeB
  rw [e]
  unfold opt1
  by_cases q : n = 0
  · rw [if_pos q, if_pos (digits_nil.2 q)]; rfl
  · rw [if_neg q, if_neg (fun z => q (digits_nil.1 z))]
    simp [fieldB, runB_len]; omega

set_option maxRecDepth 10000 in
set_option maxHeartbeats 16000000 in
theorem packNums_spec {A : AS} {fld n : Int} (hw : WF A) (hn1 : -9223372036854775808 ≤ n) (hn2 : n ≤ 9223372036854775807) :
    ∃ w A', EvF Try.prog HH 10 [.int .i64 fld, .int .i64 n] A w A' ∧ w = .bool true := by
  refine run_fn2 rfl Try.func10 (by unfold Try.f10; rfl) Try.ntmps10 (by unfold Try.f10; rfl) (by simp) ?_
  simp only [RS, xs_some, Option.bind_some, Option.map_some, if_true, if_false, decide_true, decide_false, true_and, and_true, Bool.not_true, Bool.not_false, Bool.false_eq_true, not_false_eq_true, not_true_eq_false, Nat.reduceLT, Nat.reduceBEq, Nat.reduceEqDiff, Nat.reduceAdd, Int.reduceEq, Int.reduceLT, Int.reduceLE, Int.reduceGT, Int.reduceGE, beq_self_eq_true, List.getElem?_toArray, List.getElem?_cons_zero, List.getElem?_cons_succ, List.append_nil, List.nil_append, List.cons_append, List.append_eq]
  refine run_call1 (evF_ground rfl) ?_
  simp only [RS, xs_some, Option.bind_some, Option.map_some, if_true, if_false, decide_true, decide_false, true_and, and_true, Bool.not_true, Bool.not_false, Bool.false_eq_true, not_false_eq_true, not_true_eq_false, Nat.reduceLT, Nat.reduceBEq, Nat.reduceEqDiff, Nat.reduceAdd, Int.reduceEq, Int.reduceLT, Int.reduceLE, Int.reduceGT, Int.reduceGE, beq_self_eq_true, List.getElem?_toArray, List.getElem?_cons_zero, List.getElem?_cons_succ, List.append_nil, List.nil_append, List.cons_append, List.append_eq, bldMk, zcM]
  obtain ⟨A1, s1, s2, s3⟩ := new_msg (A := A) (msgIn0 (m := Hp.emp) (k := 9))
  have fa := faM A.blk.length
  simp only [RS, xs_some, Option.bind_some, Option.map_some, if_true, if_false, decide_true, decide_false, true_and, and_true, Bool.not_true, Bool.not_false, Bool.false_eq_true, not_false_eq_true, not_true_eq_false, Nat.reduceLT, Nat.reduceBEq, Nat.reduceEqDiff, Nat.reduceAdd, Int.reduceEq, Int.reduceLT, Int.reduceLE, Int.reduceGT, Int.reduceGE, beq_self_eq_true, List.getElem?_toArray, List.getElem?_cons_zero, List.getElem?_cons_succ, List.append_nil, List.nil_append, List.cons_append, List.append_eq, s1, fa, bslPt]
  obtain ⟨bm, hbm⟩ : ∃ y, y = A.blk.length := ⟨_, rfl⟩
  rw [← hbm]
  rw [← hbm] at s3
  have q1 := Fr.pushArr A1 (ptrs bm)
  have rP := push_row A1 ⟨ptrs bm, .arr A1.blk.length 0⟩
  have rM := q1.row0 s3
  have fA2 := s2.then0 q1
  generalize A1.push ⟨ptrs bm, .arr A1.blk.length 0⟩ = A2 at *
  refine contG_of (fun g1 => ?_) (fun g1 => ?_)
  · simp only [RS, xs_some, Option.bind_some, Option.map_some, if_true, if_false, decide_true, decide_false, true_and, and_true, Bool.not_true, Bool.not_false, Bool.false_eq_true, not_false_eq_true, not_true_eq_false, Nat.reduceLT, Nat.reduceBEq, Nat.reduceEqDiff, Nat.reduceAdd, Int.reduceEq, Int.reduceLT, Int.reduceLE, Int.reduceGT, Int.reduceGE, beq_self_eq_true, List.getElem?_toArray, List.getElem?_cons_zero, List.getElem?_cons_succ, List.append_nil, List.nil_append, List.cons_append, List.append_eq, g1]
  simp only [RS, xs_some, Option.bind_some, Option.map_some, if_true, if_false, decide_true, decide_false, true_and, and_true, Bool.not_true, Bool.not_false, Bool.false_eq_true, not_false_eq_true, not_true_eq_false, Nat.reduceLT, Nat.reduceBEq, Nat.reduceEqDiff, Nat.reduceAdd, Int.reduceEq, Int.reduceLT, Int.reduceLE, Int.reduceGT, Int.reduceGE, beq_self_eq_true, List.getElem?_toArray, List.getElem?_cons_zero, List.getElem?_cons_succ, List.append_nil, List.nil_append, List.cons_append, List.append_eq, g1]
  refine condK_of (fun g2 => ?_) (fun g2 => ?_)
  · simp only [RS, xs_some, Option.bind_some, Option.map_some, if_true, if_false, decide_true, decide_false, true_and, and_true, Bool.not_true, Bool.not_false, Bool.false_eq_true, not_false_eq_true, not_true_eq_false, Nat.reduceLT, Nat.reduceBEq, Nat.reduceEqDiff, Nat.reduceAdd, Int.reduceEq, Int.reduceLT, Int.reduceLE, Int.reduceGT, Int.reduceGE, beq_self_eq_true, List.getElem?_toArray, List.getElem?_cons_zero, List.getElem?_cons_succ, List.append_nil, List.nil_append, List.cons_append, List.append_eq]
  obtain ⟨f, rfl⟩ := Int.eq_ofNat_of_zero_le (show 0 ≤ fld by omega)
  have hf : f < 5 := by omega
  have had : evIndexAddr Try.prog 69 (.sl A1.blk.length 0 5 1) (.int .i64 (f : Int)) = some (.ptr A1.blk.length f) := by
    have := sl_addr (P := Try.prog) (t := 69) (b := A1.blk.length) (o := 0) (n := 5) (k := .i64) (i := f) Try.underlying69 sz68 hf
    simpa using this
  have hptr : (ptrs bm)[f]? = some (.ptr bm (f + 1)) := by
    match f, hf with
    | 0, _ => rfl
    | 1, _ => rfl
    | 2, _ => rfl
    | 3, _ => rfl
    | 4, _ => rfl
  have hld : evLoad Try.prog 68 (.ptr A1.blk.length f) A2 = some (.ptr bm (f + 1)) := by rw [load_at ag68 rP, hptr]
  obtain ⟨A3, t1, t2, t3⟩ := setM (o := f + 1) (t := 3) (w := .int .i64 n) (cs := [.int .i64 n]) rM rfl rfl sz3 (by simp only [List.length_singleton]; omega) rfl
  rw [mc_num (by omega) (by omega)] at t3
  have hid := setNum_id (msg0 9) (f + 1) n
  obtain ⟨X, hX⟩ : ∃ X, X = setNum (msg0 9) (f + 1) n := ⟨_, rfl⟩
  rw [← hX] at t3 hid
  have hMX : ∀ m : Hp, MsgIn m X .snil .snil .snil := fun m => ⟨by rw [hid.1]; rfl, .inl ⟨rfl, hid.2.1⟩, .inl ⟨rfl, hid.2.2.1⟩, .inl ⟨rfl, hid.2.2.2⟩⟩
  have hszX : Sized X := ⟨by rw [hid.2.2.1]; simp [msg0], by rw [hid.2.1]; simp [msg0], by rw [hid.2.2.2]; simp [msg0], by rw [hid.2.2.2]; simp [msg0]⟩
  have fA3 := fA2.row_ t2 (by omega)
  have ld3 := ldM t3 (hMX Hp.emp).id
  obtain ⟨w, A4, k1, k2, v, rfl, k3, k4⟩ := write_spec (m := Hp.emp) (A := A3) (fA3.wf hw) (Hp.on_emp A3) (hMX _) hszX
  have hchk : checkM X = if n < 0 ∨ n > 1099511627776 then 1 else 0 := by rw [hX]; exact num_check f hf n
  simp only [RS, xs_some, Option.bind_some, Option.map_some, if_true, if_false, decide_true, decide_false, true_and, and_true, Bool.not_true, Bool.not_false, Bool.false_eq_true, not_false_eq_true, not_true_eq_false, Nat.reduceLT, Nat.reduceBEq, Nat.reduceEqDiff, Nat.reduceAdd, Int.reduceEq, Int.reduceLT, Int.reduceLE, Int.reduceGT, Int.reduceGE, beq_self_eq_true, List.getElem?_toArray, List.getElem?_cons_zero, List.getElem?_cons_succ, List.append_nil, List.nil_append, List.cons_append, List.append_eq, had, hld, t1, ld3]
  refine run_call1 k1 ?_
  have hlen0 : ∀ B, evLen Try.prog 38 .snil B = some (.int .i64 0) := fun B => by unfold evLen; rw [Try.underlying38]
  simp only [RS, xs_some, Option.bind_some, Option.map_some, if_true, if_false, decide_true, decide_false, true_and, and_true, Bool.not_true, Bool.not_false, Bool.false_eq_true, not_false_eq_true, not_true_eq_false, Nat.reduceLT, Nat.reduceBEq, Nat.reduceEqDiff, Nat.reduceAdd, Int.reduceEq, Int.reduceLT, Int.reduceLE, Int.reduceGT, Int.reduceGE, beq_self_eq_true, List.getElem?_toArray, List.getElem?_cons_zero, List.getElem?_cons_succ, List.append_nil, List.nil_append, List.cons_append, List.append_eq]
  refine contG_of (fun g3 => ?_) (fun g3 => ?_)
  · have hc : checkM X = 1 := by rw [hchk, if_pos (.inl g3)]
    have hv := k3 (by rw [hc]; decide)
    subst hv
    simp only [RS, xs_some, Option.bind_some, Option.map_some, if_true, if_false, decide_true, decide_false, true_and, and_true, Bool.not_true, Bool.not_false, Bool.false_eq_true, not_false_eq_true, not_true_eq_false, Nat.reduceLT, Nat.reduceBEq, Nat.reduceEqDiff, Nat.reduceAdd, Int.reduceEq, Int.reduceLT, Int.reduceLE, Int.reduceGT, Int.reduceGE, beq_self_eq_true, List.getElem?_toArray, List.getElem?_cons_zero, List.getElem?_cons_succ, List.append_nil, List.nil_append, List.cons_append, List.append_eq, g3, hc, hlen0]
  simp only [RS, xs_some, Option.bind_some, Option.map_some, if_true, if_false, decide_true, decide_false, true_and, and_true, Bool.not_true, Bool.not_false, Bool.false_eq_true, not_false_eq_true, not_true_eq_false, Nat.reduceLT, Nat.reduceBEq, Nat.reduceEqDiff, Nat.reduceAdd, Int.reduceEq, Int.reduceLT, Int.reduceLE, Int.reduceGT, Int.reduceGE, beq_self_eq_true, List.getElem?_toArray, List.getElem?_cons_zero, List.getElem?_cons_succ, List.append_nil, List.nil_append, List.cons_append, List.append_eq, g3]
  refine condK_of (fun g4 => ?_) (fun g4 => ?_)
  · have hc : checkM X = 1 := by rw [hchk, if_pos (.inr g4)]
    have hv := k3 (by rw [hc]; decide)
    subst hv
    simp only [RS, xs_some, Option.bind_some, Option.map_some, if_true, if_false, decide_true, decide_false, true_and, and_true, Bool.not_true, Bool.not_false, Bool.false_eq_true, not_false_eq_true, not_true_eq_false, Nat.reduceLT, Nat.reduceBEq, Nat.reduceEqDiff, Nat.reduceAdd, Int.reduceEq, Int.reduceLT, Int.reduceLE, Int.reduceGT, Int.reduceGE, beq_self_eq_true, List.getElem?_toArray, List.getElem?_cons_zero, List.getElem?_cons_succ, List.append_nil, List.nil_append, List.cons_append, List.append_eq, hc, hlen0]
  obtain ⟨N, rfl⟩ := Int.eq_ofNat_of_zero_le (show 0 ≤ n by omega)
  have hc : checkM X = 0 := by rw [hchk, if_neg (by omega)]
  have own := k4 hc
  have hok := okM_of hc
  have hrd := read_write hok (wf_of (hMX Hp.emp))
  obtain ⟨hm1, hm2⟩ := rd_ok hrd
  have hwl := num_len f hf N
  rw [← hX] at hwl
  have hdl := digits_len N 6 (by omega)
  have hdz : (digits N).length = 0 ↔ N = 0 := by
    constructor
    · intro q; exact digits_nil.1 (List.eq_nil_of_length_eq_zero q)
    · rintro rfl; rw [digits_zero]; rfl
  have hwl2 : (writeB X).length ≤ 11 := by rw [hwl]; split <;> omega
  obtain ⟨w, A5, u1, u2, dv, iv, lv, rfl, u3⟩ := read_spec (k2.wf (fA3.wf hw)) (arrHp_on A4) own.arrBts (by omega)
  rw [hm1, hm2] at u1
  rw [hm1] at u3
  obtain ⟨A6, y1, y2, y3⟩ := new_msg (A := A5) u3
  have ld6 := ldM y3 u3.id
  have ldx := ldM (y2.row0 (u2.row0 (k2.row0 t3))) (hMX Hp.emp).id
  obtain ⟨w, A7, z1, z2, r, rfl, z3⟩ := same_spec (arrHp_on A6) (u3.mono (arrHp_le y2 fun b q => q.elim)) (hMX _) (by rw [hid.2.2.1]; simp [msg0]) (by rw [hid.2.2.2]; simp [msg0])
  have hr : r = true := z3.2 rfl
  subst hr
  have hlen := fun B => own.len (P := Try.prog) Try.underlying38 B
  have hlc : (((writeB X).length : Nat) : Int) = if N = 0 then 1 else 5 + ((digits N).length : Int) := by rw [hwl]; split <;> simp
  simp only [RS, xs_some, Option.bind_some, Option.map_some, if_true, if_false, decide_true, decide_false, true_and, and_true, Bool.not_true, Bool.not_false, Bool.false_eq_true, not_false_eq_true, not_true_eq_false, Nat.reduceLT, Nat.reduceBEq, Nat.reduceEqDiff, Nat.reduceAdd, Int.reduceEq, Int.reduceLT, Int.reduceLE, Int.reduceGT, Int.reduceGE, beq_self_eq_true, List.getElem?_toArray, List.getElem?_cons_zero, List.getElem?_cons_succ, List.append_nil, List.nil_append, List.cons_append, List.append_eq]
  refine run_loop_j (fun q e C => C = A4 ∧ e.get 7 = v ∧ e.get 8 = .int .i64 0 ∧ e.get 5 = .ptr bm 0 ∧ ∃ j c : Nat, q = j ∧ j ≤ N ∧ e.get 10 = .int .i64 j ∧ e.get 9 = .int .i64 c ∧ c + (digits j).length = (digits N).length)
    (fun z e C => C = A4 ∧ Is z (.exit 0) ∧ e.get 7 = v ∧ e.get 8 = .int .i64 0 ∧ e.get 5 = .ptr bm 0 ∧ e.get 9 = .int .i64 ((digits N).length : Nat))
    ⟨_, rfl, rfl, by simp [Env.get, hc], rfl, N, 0, rfl, by omega, rfl, rfl, by simp⟩ ?_ ?_
  · rintro q e C ⟨rfl, h7, h8, h5, j, c, rfl, hj, h10, h9, hsum⟩
    simp only [RS, xs_some, Option.bind_some, Option.map_some, if_true, if_false, decide_true, decide_false, true_and, and_true, Bool.not_true, Bool.not_false, Bool.false_eq_true, not_false_eq_true, not_true_eq_false, Nat.reduceLT, Nat.reduceBEq, Nat.reduceEqDiff, Nat.reduceAdd, Int.reduceEq, Int.reduceLT, Int.reduceLE, Int.reduceGT, Int.reduceGE, beq_self_eq_true, List.getElem?_toArray, List.getElem?_cons_zero, List.getElem?_cons_succ, List.append_nil, List.nil_append, List.cons_append, List.append_eq, h10]
    refine condK_of (fun g5 => ?_) (fun g5 => ?_)
    · have hq0 : q ≠ 0 := by omega
      have hquo : evBin Try.prog .quo 3 (.int .i64 (q : Int)) (.int .i64 256) = some (.int .i64 ((q / 256 : Nat) : Int)) := quo_lit q 256 (by decide) (by omega)
      rw [digits_pos hq0, List.length_append, List.length_singleton] at hsum
      simp only [RS, xs_some, Option.bind_some, Option.map_some, if_true, if_false, decide_true, decide_false, true_and, and_true, Bool.not_true, Bool.not_false, Bool.false_eq_true, not_false_eq_true, not_true_eq_false, Nat.reduceLT, Nat.reduceBEq, Nat.reduceEqDiff, Nat.reduceAdd, Int.reduceEq, Int.reduceLT, Int.reduceLE, Int.reduceGT, Int.reduceGE, beq_self_eq_true, List.getElem?_toArray, List.getElem?_cons_zero, List.getElem?_cons_succ, List.append_nil, List.nil_append, List.cons_append, List.append_eq, h9, h10, hquo]
      exact ⟨q / 256, by omega, h7, h8, h5, q / 256, c + 1, rfl, by omega, rfl, by rw [wrapS (by omega)], by omega⟩
    · have hq0 : q = 0 := by omega
      subst hq0
      rw [digits_zero] at hsum
      simp only [RS, xs_some, Option.bind_some, Option.map_some, if_true, if_false, decide_true, decide_false, true_and, and_true, Bool.not_true, Bool.not_false, Bool.false_eq_true, not_false_eq_true, not_true_eq_false, Nat.reduceLT, Nat.reduceBEq, Nat.reduceEqDiff, Nat.reduceAdd, Int.reduceEq, Int.reduceLT, Int.reduceLE, Int.reduceGT, Int.reduceGE, beq_self_eq_true, List.getElem?_toArray, List.getElem?_cons_zero, List.getElem?_cons_succ, List.append_nil, List.nil_append, List.cons_append, List.append_eq]
      refine ⟨rfl, h7, h8, h5, ?_⟩
      rw [h9]; simp at hsum; rw [hsum]
  rintro z e C hz ⟨rfl, rfl, h7, h8, h5, h9⟩
  by_cases hN : N = 0
  · have hd0 : (digits N).length = 0 := hdz.2 hN
    rw [hd0] at h9
    rw [if_pos hN] at hlc
    have h9 : e.get 9 = .int .i64 0 := h9
    simp only [RS, xs_some, Option.bind_some, Option.map_some, if_true, if_false, decide_true, decide_false, true_and, and_true, Bool.not_true, Bool.not_false, Bool.false_eq_true, not_false_eq_true, not_true_eq_false, Nat.reduceLT, Nat.reduceBEq, Nat.reduceEqDiff, Nat.reduceAdd, Int.reduceEq, Int.reduceLT, Int.reduceLE, Int.reduceGT, Int.reduceGE, beq_self_eq_true, List.getElem?_toArray, List.getElem?_cons_zero, List.getElem?_cons_succ, List.append_nil, List.nil_append, List.cons_append, List.append_eq, h9, h7]
    refine run_call1 u1 ?_
    simp only [RS, xs_some, Option.bind_some, Option.map_some, if_true, if_false, decide_true, decide_false, true_and, and_true, Bool.not_true, Bool.not_false, Bool.false_eq_true, not_false_eq_true, not_true_eq_false, Nat.reduceLT, Nat.reduceBEq, Nat.reduceEqDiff, Nat.reduceAdd, Int.reduceEq, Int.reduceLT, Int.reduceLE, Int.reduceGT, Int.reduceGE, beq_self_eq_true, List.getElem?_toArray, List.getElem?_cons_zero, List.getElem?_cons_succ, List.append_nil, List.nil_append, List.cons_append, List.append_eq, zcM, y1, h8, h7, h5, hlen, hlc, ld6, ldx]
    refine run_call1 z1 ?_
    simp only [RS, xs_some, Option.bind_some, Option.map_some, if_true, if_false, decide_true, decide_false, true_and, and_true, Bool.not_true, Bool.not_false, Bool.false_eq_true, not_false_eq_true, not_true_eq_false, Nat.reduceLT, Nat.reduceBEq, Nat.reduceEqDiff, Nat.reduceAdd, Int.reduceEq, Int.reduceLT, Int.reduceLE, Int.reduceGT, Int.reduceGE, beq_self_eq_true, List.getElem?_toArray, List.getElem?_cons_zero, List.getElem?_cons_succ, List.append_nil, List.nil_append, List.cons_append, List.append_eq]
  · have hd0 : (digits N).length ≠ 0 := fun q => hN (hdz.1 q)
    have hd1 : ((digits N).length : Int) > 0 := by omega
    rw [if_neg hN] at hlc
    have hw5 : IntKind.i64.wrap (5 + ((digits N).length : Int)) = 5 + ((digits N).length : Int) := wrapI (by omega) (by omega)
    simp only [RS, xs_some, Option.bind_some, Option.map_some, if_true, if_false, decide_true, decide_false, true_and, and_true, Bool.not_true, Bool.not_false, Bool.false_eq_true, not_false_eq_true, not_true_eq_false, Nat.reduceLT, Nat.reduceBEq, Nat.reduceEqDiff, Nat.reduceAdd, Int.reduceEq, Int.reduceLT, Int.reduceLE, Int.reduceGT, Int.reduceGE, beq_self_eq_true, List.getElem?_toArray, List.getElem?_cons_zero, List.getElem?_cons_succ, List.append_nil, List.nil_append, List.cons_append, List.append_eq, h9, h7, hd1, hw5]
    refine run_call1 u1 ?_
    simp only [RS, xs_some, Option.bind_some, Option.map_some, if_true, if_false, decide_true, decide_false, true_and, and_true, Bool.not_true, Bool.not_false, Bool.false_eq_true, not_false_eq_true, not_true_eq_false, Nat.reduceLT, Nat.reduceBEq, Nat.reduceEqDiff, Nat.reduceAdd, Int.reduceEq, Int.reduceLT, Int.reduceLE, Int.reduceGT, Int.reduceGE, beq_self_eq_true, List.getElem?_toArray, List.getElem?_cons_zero, List.getElem?_cons_succ, List.append_nil, List.nil_append, List.cons_append, List.append_eq, zcM, y1, h8, h7, h5, hlen, hlc, ld6, ldx]
    refine run_call1 z1 ?_
    simp only [RS, xs_some, Option.bind_some, Option.map_some, if_true, if_false, decide_true, decide_false, true_and, and_true, Bool.not_true, Bool.not_false, Bool.false_eq_true, not_false_eq_true, not_true_eq_false, Nat.reduceLT, Nat.reduceBEq, Nat.reduceEqDiff, Nat.reduceAdd, Int.reduceEq, Int.reduceLT, Int.reduceLE, Int.reduceGT, Int.reduceGE, beq_self_eq_true, List.getElem?_toArray, List.getElem?_cons_zero, List.getElem?_cons_succ, List.append_nil, List.nil_append, List.cons_append, List.append_eq]
end Go.Sv.Try
