/- Entries: whether raw bytes are one. -/
import Derived.Test.YtnogkphkjkbbhaaLawsB
import Derived.Test.YtnogkphkjkbbhaaSv5
namespace Go.Sv.Try
open Go Go.Proofs
set_option linter.unusedVariables false
set_option linter.unusedSimpArgs false

/-- A message that is no entry. -/
def entBad (x : Go.Sv.M) : Prop := x.kind ≠ 1 ∨ x.num < 1 ∨ x.who > 15 ∨ x.height ≠ 0 ∨ x.round ≠ 0 ∨ x.valid ≠ 0 ∨ x.id ≠ zero32 ∨ x.ids.length > 0 ∨ x.list.length > 0
open Classical in
/-- The error's number of raw bytes as an entry. -/
noncomputable def entC (b : Bts) : Int := if readErr b ≠ 0 then readErr b else if entBad (readMsg b) then 23 else if (readMsg b).data.length > 256 then 2 else 0
theorem entC_err {b : Bts} (h : readErr b ≠ 0) : entC b = readErr b := by unfold entC; rw [if_pos h]
theorem entC_bad {b : Bts} (h : readErr b = 0) (hb : entBad (readMsg b)) : entC b = 23 := by unfold entC; rw [if_neg (by simpa using h), if_pos hb]
theorem entC_long {b : Bts} (h : readErr b = 0) (hb : ¬ entBad (readMsg b)) (hl : (readMsg b).data.length > 256) : entC b = 2 := by unfold entC; rw [if_neg (by simpa using h), if_neg hb, if_pos hl]
theorem entC_ok {b : Bts} (h : readErr b = 0) (hb : ¬ entBad (readMsg b)) (hl : ¬ (readMsg b).data.length > 256) : entC b = 0 := by unfold entC; rw [if_neg (by simpa using h), if_neg hb, if_neg hl]
theorem read_okM {b : Bts} (h : readErr b = 0) : OkM (readMsg b) := by
  obtain ⟨x, hx⟩ := readErr_ne.1 h
  rw [(rd_ok hx).1]
  exact okM_of (write_read hx).2.1

/-- What looking at an entry hands back. -/
def EntOut (b : Bts) (w : V) (B : AS) : Prop := ∃ (X : Go.Sv.M) (dv iv lv : V), w = .tup [.agg (mc X dv iv lv), .int .i64 (entC b)] ∧ MsgIn (arrHp B) X dv iv lv ∧ (entC b = 0 → X = readMsg b)

set_option maxRecDepth 10000 in
set_option maxHeartbeats 32000000 in
theorem bookCheck_spec {m : Hp} {A : AS} {v : V} {b : Bts} (hw : WF A) (hm : m.on A) (h : Slc eU8 m v b) (hb : b.length ≤ 1000000000000) :
    ∃ w A', EvF Try.prog HH 72 [v] A w A' ∧ Fr S0 A A' ∧ EntOut b w A' := by
  refine run_fn2 rfl Try.func72 (by unfold Try.f72; rfl) Try.ntmps72 (by unfold Try.f72; rfl) (by simp) ?_
  simp only [RS, xs_some, Option.bind_some, Option.map_some, if_true, if_false, decide_true, decide_false, true_and, and_true, Bool.not_true, Bool.not_false, Bool.false_eq_true, not_false_eq_true, not_true_eq_false, Nat.reduceLT, Nat.reduceBEq, Nat.reduceEqDiff, Nat.reduceAdd, Int.reduceEq, Int.reduceLT, Int.reduceLE, Int.reduceGT, Int.reduceGE, beq_self_eq_true, List.getElem?_toArray, List.getElem?_cons_zero, List.getElem?_cons_succ, List.append_nil, List.nil_append, List.cons_append, List.append_eq, zcM]
  obtain ⟨A1, e1, f1, r1, n1⟩ := new_var A mcZ
  rw [← e1]
  have zid : (msg0 0).id.length = 32 := rfl
  obtain ⟨w, A2, k1, k2, dv, iv, lv, rfl, k3⟩ := read_spec (f1.wf hw) (hm.fr0 f1) h hb
  refine run_call1 k1 ?_
  obtain ⟨A3, s1, s2, s3⟩ := new_msg (A := A2) k3
  have f3 := (f1.then0 k2).then0 s2
  have r2 := s2.row0 (k2.row0 r1)
  have hM : MsgIn (arrHp A3) (readMsg b) dv iv lv := k3.mono (arrHp_le s2 fun b q => q.elim)
  have ld := ldM s3 k3.id
  have fa := faM A2.blk.length
  have dl := fun B => hM.data.len (P := Try.prog) Try.underlying38 B
  have il := fun B => hM.ids.len (P := Try.prog) Try.underlying39 B
  have ll := fun B => hM.list.len (P := Try.prog) Try.underlying33 B
  -- what is handed back
  have bad : ∃ C, evStore Try.prog 41 (.ptr A.blk.length 0) (.agg mcZ) A3 = some C ∧ evLoad Try.prog 41 (.ptr A.blk.length 0) C = some (.agg mcZ) ∧ Fr S0 A C ∧ (entC b ≠ 0 → EntOut b (.tup [.agg mcZ, .int .i64 (entC b)]) C) := by
    obtain ⟨C, y1, y2, y3⟩ := setM (o := 0) (t := 41) (w := .agg mcZ) (cs := mcZ) r2 zid rfl sz41 (by decide) rfl
    rw [putAt_all rfl] at y3
    exact ⟨C, y1, (ldM y3 zid).2.2.2.2.2.2.2.2.2.2, f3.row_ y2 (Nat.le_refl _), fun q => ⟨_, _, _, _, rfl, msgIn0 (k := 0), fun z => absurd z q⟩⟩
  obtain ⟨C, b1, b2, b3, b4⟩ := bad
  obtain ⟨D, g1, g2, g3⟩ := setM (o := 0) (t := 41) (w := .agg (mc (readMsg b) dv iv lv)) (cs := mc (readMsg b) dv iv lv) r2 zid rfl (by rw [mc_len hM.id]; exact sz41) (by rw [mc_len hM.id]; decide) (mc_one hM)
  rw [putAt_all (by rw [mc_len zid, mc_len hM.id])] at g3
  have ldD := (ldM g3 hM.id).2.2.2.2.2.2.2.2.2.2
  have fD := f3.row_ g2 (Nat.le_refl _)
  have hMD : MsgIn (arrHp D) (readMsg b) dv iv lv := hM.mono (arrHp_le g2 fun b q => by cases q; exact arrHp_var r2)
  simp only [RS, xs_some, Option.bind_some, Option.map_some, if_true, if_false, decide_true, decide_false, true_and, and_true, Bool.not_true, Bool.not_false, Bool.false_eq_true, not_false_eq_true, not_true_eq_false, Nat.reduceLT, Nat.reduceBEq, Nat.reduceEqDiff, Nat.reduceAdd, Int.reduceEq, Int.reduceLT, Int.reduceLE, Int.reduceGT, Int.reduceGE, beq_self_eq_true, List.getElem?_toArray, List.getElem?_cons_zero, List.getElem?_cons_succ, List.append_nil, List.nil_append, List.cons_append, List.append_eq, zcM, s1]
  refine condK_of (fun h0 => ?_) (fun h0 => ?_)
  · simp only [RS, xs_some, Option.bind_some, Option.map_some, if_true, if_false, decide_true, decide_false, true_and, and_true, Bool.not_true, Bool.not_false, Bool.false_eq_true, not_false_eq_true, not_true_eq_false, Nat.reduceLT, Nat.reduceBEq, Nat.reduceEqDiff, Nat.reduceAdd, Int.reduceEq, Int.reduceLT, Int.reduceLE, Int.reduceGT, Int.reduceGE, beq_self_eq_true, List.getElem?_toArray, List.getElem?_cons_zero, List.getElem?_cons_succ, List.append_nil, List.nil_append, List.cons_append, List.append_eq, bldM0, b1, b2]
    rw [← entC_err h0]
    exact ⟨b3, b4 (by rw [entC_err h0]; exact h0)⟩
  have he : readErr b = 0 := by omega
  have hok := read_okM he
  have hn := hok.nums
  simp only [M.nums, List.mem_cons, List.mem_nil_iff, or_false, forall_eq_or_imp, forall_eq] at hn
  obtain ⟨⟨a1, c1⟩, ⟨a2, c2⟩, ⟨a3, c3⟩, ⟨a4, c4⟩, a5, c5⟩ := hn
  have hsz := readMsg_sz b
  generalize hX : readMsg b = X at *
  have no : entBad X → EntOut b (.tup [.agg mcZ, .int .i64 23]) C := fun q => by
    have e := entC_bad he (by rw [hX]; exact q)
    rw [e] at b4; exact b4 (by decide)
  simp only [RS, xs_some, Option.bind_some, Option.map_some, if_true, if_false, decide_true, decide_false, true_and, and_true, Bool.not_true, Bool.not_false, Bool.false_eq_true, not_false_eq_true, not_true_eq_false, Nat.reduceLT, Nat.reduceBEq, Nat.reduceEqDiff, Nat.reduceAdd, Int.reduceEq, Int.reduceLT, Int.reduceLE, Int.reduceGT, Int.reduceGE, beq_self_eq_true, List.getElem?_toArray, List.getElem?_cons_zero, List.getElem?_cons_succ, List.append_nil, List.nil_append, List.cons_append, List.append_eq, fa, ld]
  by_cases q1 : X.kind = 1
  rotate_left
  · simp only [RS, xs_some, Option.bind_some, Option.map_some, if_true, if_false, decide_true, decide_false, true_and, and_true, Bool.not_true, Bool.not_false, Bool.false_eq_true, not_false_eq_true, not_true_eq_false, Nat.reduceLT, Nat.reduceBEq, Nat.reduceEqDiff, Nat.reduceAdd, Int.reduceEq, Int.reduceLT, Int.reduceLE, Int.reduceGT, Int.reduceGE, beq_self_eq_true, List.getElem?_toArray, List.getElem?_cons_zero, List.getElem?_cons_succ, List.append_nil, List.nil_append, List.cons_append, List.append_eq, q1, bldM0, b1, b2]
    exact ⟨b3, no (.inl q1)⟩
  simp only [RS, xs_some, Option.bind_some, Option.map_some, if_true, if_false, decide_true, decide_false, true_and, and_true, Bool.not_true, Bool.not_false, Bool.false_eq_true, not_false_eq_true, not_true_eq_false, Nat.reduceLT, Nat.reduceBEq, Nat.reduceEqDiff, Nat.reduceAdd, Int.reduceEq, Int.reduceLT, Int.reduceLE, Int.reduceGT, Int.reduceGE, beq_self_eq_true, List.getElem?_toArray, List.getElem?_cons_zero, List.getElem?_cons_succ, List.append_nil, List.nil_append, List.cons_append, List.append_eq, q1, fa, ld]
  by_cases q2 : X.num < 1
  · simp only [RS, xs_some, Option.bind_some, Option.map_some, if_true, if_false, decide_true, decide_false, true_and, and_true, Bool.not_true, Bool.not_false, Bool.false_eq_true, not_false_eq_true, not_true_eq_false, Nat.reduceLT, Nat.reduceBEq, Nat.reduceEqDiff, Nat.reduceAdd, Int.reduceEq, Int.reduceLT, Int.reduceLE, Int.reduceGT, Int.reduceGE, beq_self_eq_true, List.getElem?_toArray, List.getElem?_cons_zero, List.getElem?_cons_succ, List.append_nil, List.nil_append, List.cons_append, List.append_eq, q2, bldM0, b1, b2]
    exact ⟨b3, no (.inr (.inl q2))⟩
  simp only [RS, xs_some, Option.bind_some, Option.map_some, if_true, if_false, decide_true, decide_false, true_and, and_true, Bool.not_true, Bool.not_false, Bool.false_eq_true, not_false_eq_true, not_true_eq_false, Nat.reduceLT, Nat.reduceBEq, Nat.reduceEqDiff, Nat.reduceAdd, Int.reduceEq, Int.reduceLT, Int.reduceLE, Int.reduceGT, Int.reduceGE, beq_self_eq_true, List.getElem?_toArray, List.getElem?_cons_zero, List.getElem?_cons_succ, List.append_nil, List.nil_append, List.cons_append, List.append_eq, q2, fa, ld]
  by_cases q3 : X.who > 15
  · simp only [RS, xs_some, Option.bind_some, Option.map_some, if_true, if_false, decide_true, decide_false, true_and, and_true, Bool.not_true, Bool.not_false, Bool.false_eq_true, not_false_eq_true, not_true_eq_false, Nat.reduceLT, Nat.reduceBEq, Nat.reduceEqDiff, Nat.reduceAdd, Int.reduceEq, Int.reduceLT, Int.reduceLE, Int.reduceGT, Int.reduceGE, beq_self_eq_true, List.getElem?_toArray, List.getElem?_cons_zero, List.getElem?_cons_succ, List.append_nil, List.nil_append, List.cons_append, List.append_eq, q3, bldM0, b1, b2]
    exact ⟨b3, no (.inr (.inr (.inl q3)))⟩
  have w1 : IntKind.i64.wrap (X.height + X.round) = X.height + X.round := wrapI (by omega) (by omega)
  have w2 : IntKind.i64.wrap (X.height + X.round + X.valid) = X.height + X.round + X.valid := wrapI (by omega) (by omega)
  simp only [RS, xs_some, Option.bind_some, Option.map_some, if_true, if_false, decide_true, decide_false, true_and, and_true, Bool.not_true, Bool.not_false, Bool.false_eq_true, not_false_eq_true, not_true_eq_false, Nat.reduceLT, Nat.reduceBEq, Nat.reduceEqDiff, Nat.reduceAdd, Int.reduceEq, Int.reduceLT, Int.reduceLE, Int.reduceGT, Int.reduceGE, beq_self_eq_true, List.getElem?_toArray, List.getElem?_cons_zero, List.getElem?_cons_succ, List.append_nil, List.nil_append, List.cons_append, List.append_eq, q3, fa, ld, w1, w2]
  by_cases q4 : X.height + X.round + X.valid > 0
  · simp only [RS, xs_some, Option.bind_some, Option.map_some, if_true, if_false, decide_true, decide_false, true_and, and_true, Bool.not_true, Bool.not_false, Bool.false_eq_true, not_false_eq_true, not_true_eq_false, Nat.reduceLT, Nat.reduceBEq, Nat.reduceEqDiff, Nat.reduceAdd, Int.reduceEq, Int.reduceLT, Int.reduceLE, Int.reduceGT, Int.reduceGE, beq_self_eq_true, List.getElem?_toArray, List.getElem?_cons_zero, List.getElem?_cons_succ, List.append_nil, List.nil_append, List.cons_append, List.append_eq, q4, bldM0, b1, b2]
    refine ⟨b3, no (.inr (.inr (.inr ?_)))⟩
    omega
  simp only [RS, xs_some, Option.bind_some, Option.map_some, if_true, if_false, decide_true, decide_false, true_and, and_true, Bool.not_true, Bool.not_false, Bool.false_eq_true, not_false_eq_true, not_true_eq_false, Nat.reduceLT, Nat.reduceBEq, Nat.reduceEqDiff, Nat.reduceAdd, Int.reduceEq, Int.reduceLT, Int.reduceLE, Int.reduceGT, Int.reduceGE, beq_self_eq_true, List.getElem?_toArray, List.getElem?_cons_zero, List.getElem?_cons_succ, List.append_nil, List.nil_append, List.cons_append, List.append_eq, q4, fa, ld, bldZ, eqI hM.id (rfl : zero32.length = 32)]
  by_cases q5 : X.id = zero32
  rotate_left
  · simp only [RS, xs_some, Option.bind_some, Option.map_some, if_true, if_false, decide_true, decide_false, true_and, and_true, Bool.not_true, Bool.not_false, Bool.false_eq_true, not_false_eq_true, not_true_eq_false, Nat.reduceLT, Nat.reduceBEq, Nat.reduceEqDiff, Nat.reduceAdd, Int.reduceEq, Int.reduceLT, Int.reduceLE, Int.reduceGT, Int.reduceGE, beq_self_eq_true, List.getElem?_toArray, List.getElem?_cons_zero, List.getElem?_cons_succ, List.append_nil, List.nil_append, List.cons_append, List.append_eq, q5, bldM0, b1, b2]
    exact ⟨b3, no (.inr (.inr (.inr (.inr (.inr (.inr (.inl q5)))))))⟩
  have w3 : IntKind.i64.wrap ((X.ids.length : Int) + (X.list.length : Int)) = (X.ids.length : Int) + (X.list.length : Int) := by simp only [szM] at hsz; exact wrapI (by omega) (by omega)
  simp only [RS, xs_some, Option.bind_some, Option.map_some, if_true, if_false, decide_true, decide_false, true_and, and_true, Bool.not_true, Bool.not_false, Bool.false_eq_true, not_false_eq_true, not_true_eq_false, Nat.reduceLT, Nat.reduceBEq, Nat.reduceEqDiff, Nat.reduceAdd, Int.reduceEq, Int.reduceLT, Int.reduceLE, Int.reduceGT, Int.reduceGE, beq_self_eq_true, List.getElem?_toArray, List.getElem?_cons_zero, List.getElem?_cons_succ, List.append_nil, List.nil_append, List.cons_append, List.append_eq, q5, fa, ld, il, ll, w3]
  refine condK_of (fun q6 => ?_) (fun q6 => ?_)
  · simp only [RS, xs_some, Option.bind_some, Option.map_some, if_true, if_false, decide_true, decide_false, true_and, and_true, Bool.not_true, Bool.not_false, Bool.false_eq_true, not_false_eq_true, not_true_eq_false, Nat.reduceLT, Nat.reduceBEq, Nat.reduceEqDiff, Nat.reduceAdd, Int.reduceEq, Int.reduceLT, Int.reduceLE, Int.reduceGT, Int.reduceGE, beq_self_eq_true, List.getElem?_toArray, List.getElem?_cons_zero, List.getElem?_cons_succ, List.append_nil, List.nil_append, List.cons_append, List.append_eq, bldM0, b1, b2]
    refine ⟨b3, no (.inr (.inr (.inr (.inr (.inr (.inr (.inr ?_)))))))⟩
    omega
  have good : ¬ entBad X := by
    rintro (z | z | z | z | z | z | z | z | z)
    · exact z q1
    · exact q2 z
    · exact q3 z
    · omega
    · omega
    · omega
    · exact z q5
    · omega
    · omega
  simp only [RS, xs_some, Option.bind_some, Option.map_some, if_true, if_false, decide_true, decide_false, true_and, and_true, Bool.not_true, Bool.not_false, Bool.false_eq_true, not_false_eq_true, not_true_eq_false, Nat.reduceLT, Nat.reduceBEq, Nat.reduceEqDiff, Nat.reduceAdd, Int.reduceEq, Int.reduceLT, Int.reduceLE, Int.reduceGT, Int.reduceGE, beq_self_eq_true, List.getElem?_toArray, List.getElem?_cons_zero, List.getElem?_cons_succ, List.append_nil, List.nil_append, List.cons_append, List.append_eq, fa, ld, dl]
  refine condK_of (fun q7 => ?_) (fun q7 => ?_)
  · simp only [RS, xs_some, Option.bind_some, Option.map_some, if_true, if_false, decide_true, decide_false, true_and, and_true, Bool.not_true, Bool.not_false, Bool.false_eq_true, not_false_eq_true, not_true_eq_false, Nat.reduceLT, Nat.reduceBEq, Nat.reduceEqDiff, Nat.reduceAdd, Int.reduceEq, Int.reduceLT, Int.reduceLE, Int.reduceGT, Int.reduceGE, beq_self_eq_true, List.getElem?_toArray, List.getElem?_cons_zero, List.getElem?_cons_succ, List.append_nil, List.nil_append, List.cons_append, List.append_eq, bldM0, b1, b2]
    have e := entC_long he (by rw [hX]; exact good) (by rw [hX]; omega)
    rw [e] at b4
    exact ⟨b3, b4 (by decide)⟩
  · simp only [RS, xs_some, Option.bind_some, Option.map_some, if_true, if_false, decide_true, decide_false, true_and, and_true, Bool.not_true, Bool.not_false, Bool.false_eq_true, not_false_eq_true, not_true_eq_false, Nat.reduceLT, Nat.reduceBEq, Nat.reduceEqDiff, Nat.reduceAdd, Int.reduceEq, Int.reduceLT, Int.reduceLE, Int.reduceGT, Int.reduceGE, beq_self_eq_true, List.getElem?_toArray, List.getElem?_cons_zero, List.getElem?_cons_succ, List.append_nil, List.nil_append, List.cons_append, List.append_eq, ld, g1, ldD]
    have e := entC_ok he (by rw [hX]; exact good) (by rw [hX]; omega)
    exact ⟨fD, X, dv, iv, lv, by rw [e], hMD, fun _ => hX.symm⟩

set_option maxRecDepth 10000 in
set_option maxHeartbeats 32000000 in
theorem refEnt_spec {A : AS} {b : Bts} (hw : WF A) (hb : b.length ≤ 1000000000000) :
    ∃ w A', EvF Try.prog HH 73 [.str b] A w A' ∧ Fr S0 A A' ∧ EntOut b w A' := by
  refine run_fn2 rfl Try.func73 (by unfold Try.f73; rfl) Try.ntmps73 (by unfold Try.f73; rfl) (by simp) ?_
  simp only [RS, xs_some, Option.bind_some, Option.map_some, if_true, if_false, decide_true, decide_false, true_and, and_true, Bool.not_true, Bool.not_false, Bool.false_eq_true, not_false_eq_true, not_true_eq_false, Nat.reduceLT, Nat.reduceBEq, Nat.reduceEqDiff, Nat.reduceAdd, Int.reduceEq, Int.reduceLT, Int.reduceLE, Int.reduceGT, Int.reduceGE, beq_self_eq_true, List.getElem?_toArray, List.getElem?_cons_zero, List.getElem?_cons_succ, List.append_nil, List.nil_append, List.cons_append, List.append_eq, zcM]
  obtain ⟨A1, e1, f1, r1, n1⟩ := new_var A mcZ
  rw [← e1]
  have zid : (msg0 0).id.length = 32 := rfl
  obtain ⟨w, A2, k1, k2, dv, iv, lv, rfl, k3⟩ := refRead_spec (A := A1) (b := b) (f1.wf hw) hb
  refine run_call1 k1 ?_
  obtain ⟨A3, s1, s2, s3⟩ := new_msg (A := A2) k3
  have f3 := (f1.then0 k2).then0 s2
  have r2 := s2.row0 (k2.row0 r1)
  have hM : MsgIn (arrHp A3) (readMsg b) dv iv lv := k3.mono (arrHp_le s2 fun b q => q.elim)
  have ld := ldM s3 k3.id
  have fa := faM A2.blk.length
  have dl := fun B => hM.data.len (P := Try.prog) Try.underlying38 B
  have il := fun B => hM.ids.len (P := Try.prog) Try.underlying39 B
  have ll := fun B => hM.list.len (P := Try.prog) Try.underlying33 B
  have bad : ∃ C, evStore Try.prog 41 (.ptr A.blk.length 0) (.agg mcZ) A3 = some C ∧ evLoad Try.prog 41 (.ptr A.blk.length 0) C = some (.agg mcZ) ∧ Fr S0 A C ∧ (entC b ≠ 0 → EntOut b (.tup [.agg mcZ, .int .i64 (entC b)]) C) := by
    obtain ⟨C, y1, y2, y3⟩ := setM (o := 0) (t := 41) (w := .agg mcZ) (cs := mcZ) r2 zid rfl sz41 (by decide) rfl
    rw [putAt_all rfl] at y3
    exact ⟨C, y1, (ldM y3 zid).2.2.2.2.2.2.2.2.2.2, f3.row_ y2 (Nat.le_refl _), fun q => ⟨_, _, _, _, rfl, msgIn0 (k := 0), fun z => absurd z q⟩⟩
  obtain ⟨C, b1, b2, b3, b4⟩ := bad
  obtain ⟨D, g1, g2, g3⟩ := setM (o := 0) (t := 41) (w := .agg (mc (readMsg b) dv iv lv)) (cs := mc (readMsg b) dv iv lv) r2 zid rfl (by rw [mc_len hM.id]; exact sz41) (by rw [mc_len hM.id]; decide) (mc_one hM)
  rw [putAt_all (by rw [mc_len zid, mc_len hM.id])] at g3
  have ldD := (ldM g3 hM.id).2.2.2.2.2.2.2.2.2.2
  have fD := f3.row_ g2 (Nat.le_refl _)
  have hMD : MsgIn (arrHp D) (readMsg b) dv iv lv := hM.mono (arrHp_le g2 fun b q => by cases q; exact arrHp_var r2)
  simp only [RS, xs_some, Option.bind_some, Option.map_some, if_true, if_false, decide_true, decide_false, true_and, and_true, Bool.not_true, Bool.not_false, Bool.false_eq_true, not_false_eq_true, not_true_eq_false, Nat.reduceLT, Nat.reduceBEq, Nat.reduceEqDiff, Nat.reduceAdd, Int.reduceEq, Int.reduceLT, Int.reduceLE, Int.reduceGT, Int.reduceGE, beq_self_eq_true, List.getElem?_toArray, List.getElem?_cons_zero, List.getElem?_cons_succ, List.append_nil, List.nil_append, List.cons_append, List.append_eq, zcM, s1]
  refine condK_of (fun h0 => ?_) (fun h0 => ?_)
  · simp only [RS, xs_some, Option.bind_some, Option.map_some, if_true, if_false, decide_true, decide_false, true_and, and_true, Bool.not_true, Bool.not_false, Bool.false_eq_true, not_false_eq_true, not_true_eq_false, Nat.reduceLT, Nat.reduceBEq, Nat.reduceEqDiff, Nat.reduceAdd, Int.reduceEq, Int.reduceLT, Int.reduceLE, Int.reduceGT, Int.reduceGE, beq_self_eq_true, List.getElem?_toArray, List.getElem?_cons_zero, List.getElem?_cons_succ, List.append_nil, List.nil_append, List.cons_append, List.append_eq, bldM0, b1, b2]
    rw [← entC_err h0]
    exact ⟨b3, b4 (by rw [entC_err h0]; exact h0)⟩
  have he : readErr b = 0 := by omega
  generalize hX : readMsg b = X at *
  have no : entBad X → EntOut b (.tup [.agg mcZ, .int .i64 23]) C := fun q => by
    have e := entC_bad he (by rw [hX]; exact q)
    rw [e] at b4; exact b4 (by decide)
  simp only [RS, xs_some, Option.bind_some, Option.map_some, if_true, if_false, decide_true, decide_false, true_and, and_true, Bool.not_true, Bool.not_false, Bool.false_eq_true, not_false_eq_true, not_true_eq_false, Nat.reduceLT, Nat.reduceBEq, Nat.reduceEqDiff, Nat.reduceAdd, Int.reduceEq, Int.reduceLT, Int.reduceLE, Int.reduceGT, Int.reduceGE, beq_self_eq_true, List.getElem?_toArray, List.getElem?_cons_zero, List.getElem?_cons_succ, List.append_nil, List.nil_append, List.cons_append, List.append_eq, fa, ld]
  by_cases q1 : X.kind = 1
  rotate_left
  · simp only [RS, xs_some, Option.bind_some, Option.map_some, if_true, if_false, decide_true, decide_false, true_and, and_true, Bool.not_true, Bool.not_false, Bool.false_eq_true, not_false_eq_true, not_true_eq_false, Nat.reduceLT, Nat.reduceBEq, Nat.reduceEqDiff, Nat.reduceAdd, Int.reduceEq, Int.reduceLT, Int.reduceLE, Int.reduceGT, Int.reduceGE, beq_self_eq_true, List.getElem?_toArray, List.getElem?_cons_zero, List.getElem?_cons_succ, List.append_nil, List.nil_append, List.cons_append, List.append_eq, q1, bldM0, b1, b2]
    exact ⟨b3, no (.inl q1)⟩
  simp only [RS, xs_some, Option.bind_some, Option.map_some, if_true, if_false, decide_true, decide_false, true_and, and_true, Bool.not_true, Bool.not_false, Bool.false_eq_true, not_false_eq_true, not_true_eq_false, Nat.reduceLT, Nat.reduceBEq, Nat.reduceEqDiff, Nat.reduceAdd, Int.reduceEq, Int.reduceLT, Int.reduceLE, Int.reduceGT, Int.reduceGE, beq_self_eq_true, List.getElem?_toArray, List.getElem?_cons_zero, List.getElem?_cons_succ, List.append_nil, List.nil_append, List.cons_append, List.append_eq, q1, fa, ld]
  by_cases q2 : X.num < 1
  · simp only [RS, xs_some, Option.bind_some, Option.map_some, if_true, if_false, decide_true, decide_false, true_and, and_true, Bool.not_true, Bool.not_false, Bool.false_eq_true, not_false_eq_true, not_true_eq_false, Nat.reduceLT, Nat.reduceBEq, Nat.reduceEqDiff, Nat.reduceAdd, Int.reduceEq, Int.reduceLT, Int.reduceLE, Int.reduceGT, Int.reduceGE, beq_self_eq_true, List.getElem?_toArray, List.getElem?_cons_zero, List.getElem?_cons_succ, List.append_nil, List.nil_append, List.cons_append, List.append_eq, q2, bldM0, b1, b2]
    exact ⟨b3, no (.inr (.inl q2))⟩
  simp only [RS, xs_some, Option.bind_some, Option.map_some, if_true, if_false, decide_true, decide_false, true_and, and_true, Bool.not_true, Bool.not_false, Bool.false_eq_true, not_false_eq_true, not_true_eq_false, Nat.reduceLT, Nat.reduceBEq, Nat.reduceEqDiff, Nat.reduceAdd, Int.reduceEq, Int.reduceLT, Int.reduceLE, Int.reduceGT, Int.reduceGE, beq_self_eq_true, List.getElem?_toArray, List.getElem?_cons_zero, List.getElem?_cons_succ, List.append_nil, List.nil_append, List.cons_append, List.append_eq, q2, fa, ld]
  by_cases q3 : X.who > 15
  · simp only [RS, xs_some, Option.bind_some, Option.map_some, if_true, if_false, decide_true, decide_false, true_and, and_true, Bool.not_true, Bool.not_false, Bool.false_eq_true, not_false_eq_true, not_true_eq_false, Nat.reduceLT, Nat.reduceBEq, Nat.reduceEqDiff, Nat.reduceAdd, Int.reduceEq, Int.reduceLT, Int.reduceLE, Int.reduceGT, Int.reduceGE, beq_self_eq_true, List.getElem?_toArray, List.getElem?_cons_zero, List.getElem?_cons_succ, List.append_nil, List.nil_append, List.cons_append, List.append_eq, q3, bldM0, b1, b2]
    exact ⟨b3, no (.inr (.inr (.inl q3)))⟩
  simp only [RS, xs_some, Option.bind_some, Option.map_some, if_true, if_false, decide_true, decide_false, true_and, and_true, Bool.not_true, Bool.not_false, Bool.false_eq_true, not_false_eq_true, not_true_eq_false, Nat.reduceLT, Nat.reduceBEq, Nat.reduceEqDiff, Nat.reduceAdd, Int.reduceEq, Int.reduceLT, Int.reduceLE, Int.reduceGT, Int.reduceGE, beq_self_eq_true, List.getElem?_toArray, List.getElem?_cons_zero, List.getElem?_cons_succ, List.append_nil, List.nil_append, List.cons_append, List.append_eq, q3, fa, ld]
  by_cases q4 : X.height = 0
  rotate_left
  · simp only [RS, xs_some, Option.bind_some, Option.map_some, if_true, if_false, decide_true, decide_false, true_and, and_true, Bool.not_true, Bool.not_false, Bool.false_eq_true, not_false_eq_true, not_true_eq_false, Nat.reduceLT, Nat.reduceBEq, Nat.reduceEqDiff, Nat.reduceAdd, Int.reduceEq, Int.reduceLT, Int.reduceLE, Int.reduceGT, Int.reduceGE, beq_self_eq_true, List.getElem?_toArray, List.getElem?_cons_zero, List.getElem?_cons_succ, List.append_nil, List.nil_append, List.cons_append, List.append_eq, q4, bldM0, b1, b2]
    exact ⟨b3, no (.inr (.inr (.inr (.inl q4))))⟩
  simp only [RS, xs_some, Option.bind_some, Option.map_some, if_true, if_false, decide_true, decide_false, true_and, and_true, Bool.not_true, Bool.not_false, Bool.false_eq_true, not_false_eq_true, not_true_eq_false, Nat.reduceLT, Nat.reduceBEq, Nat.reduceEqDiff, Nat.reduceAdd, Int.reduceEq, Int.reduceLT, Int.reduceLE, Int.reduceGT, Int.reduceGE, beq_self_eq_true, List.getElem?_toArray, List.getElem?_cons_zero, List.getElem?_cons_succ, List.append_nil, List.nil_append, List.cons_append, List.append_eq, q4, fa, ld]
  by_cases q5 : X.round = 0
  rotate_left
  · simp only [RS, xs_some, Option.bind_some, Option.map_some, if_true, if_false, decide_true, decide_false, true_and, and_true, Bool.not_true, Bool.not_false, Bool.false_eq_true, not_false_eq_true, not_true_eq_false, Nat.reduceLT, Nat.reduceBEq, Nat.reduceEqDiff, Nat.reduceAdd, Int.reduceEq, Int.reduceLT, Int.reduceLE, Int.reduceGT, Int.reduceGE, beq_self_eq_true, List.getElem?_toArray, List.getElem?_cons_zero, List.getElem?_cons_succ, List.append_nil, List.nil_append, List.cons_append, List.append_eq, q5, bldM0, b1, b2]
    exact ⟨b3, no (.inr (.inr (.inr (.inr (.inl q5)))))⟩
  simp only [RS, xs_some, Option.bind_some, Option.map_some, if_true, if_false, decide_true, decide_false, true_and, and_true, Bool.not_true, Bool.not_false, Bool.false_eq_true, not_false_eq_true, not_true_eq_false, Nat.reduceLT, Nat.reduceBEq, Nat.reduceEqDiff, Nat.reduceAdd, Int.reduceEq, Int.reduceLT, Int.reduceLE, Int.reduceGT, Int.reduceGE, beq_self_eq_true, List.getElem?_toArray, List.getElem?_cons_zero, List.getElem?_cons_succ, List.append_nil, List.nil_append, List.cons_append, List.append_eq, q5, fa, ld]
  by_cases q6 : X.valid = 0
  rotate_left
  · simp only [RS, xs_some, Option.bind_some, Option.map_some, if_true, if_false, decide_true, decide_false, true_and, and_true, Bool.not_true, Bool.not_false, Bool.false_eq_true, not_false_eq_true, not_true_eq_false, Nat.reduceLT, Nat.reduceBEq, Nat.reduceEqDiff, Nat.reduceAdd, Int.reduceEq, Int.reduceLT, Int.reduceLE, Int.reduceGT, Int.reduceGE, beq_self_eq_true, List.getElem?_toArray, List.getElem?_cons_zero, List.getElem?_cons_succ, List.append_nil, List.nil_append, List.cons_append, List.append_eq, q6, bldM0, b1, b2]
    exact ⟨b3, no (.inr (.inr (.inr (.inr (.inr (.inl q6))))))⟩
  simp only [RS, xs_some, Option.bind_some, Option.map_some, if_true, if_false, decide_true, decide_false, true_and, and_true, Bool.not_true, Bool.not_false, Bool.false_eq_true, not_false_eq_true, not_true_eq_false, Nat.reduceLT, Nat.reduceBEq, Nat.reduceEqDiff, Nat.reduceAdd, Int.reduceEq, Int.reduceLT, Int.reduceLE, Int.reduceGT, Int.reduceGE, beq_self_eq_true, List.getElem?_toArray, List.getElem?_cons_zero, List.getElem?_cons_succ, List.append_nil, List.nil_append, List.cons_append, List.append_eq, q6, fa, ld, bldZ, eqI hM.id (rfl : zero32.length = 32)]
  by_cases q7 : X.id = zero32
  rotate_left
  · simp only [RS, xs_some, Option.bind_some, Option.map_some, if_true, if_false, decide_true, decide_false, true_and, and_true, Bool.not_true, Bool.not_false, Bool.false_eq_true, not_false_eq_true, not_true_eq_false, Nat.reduceLT, Nat.reduceBEq, Nat.reduceEqDiff, Nat.reduceAdd, Int.reduceEq, Int.reduceLT, Int.reduceLE, Int.reduceGT, Int.reduceGE, beq_self_eq_true, List.getElem?_toArray, List.getElem?_cons_zero, List.getElem?_cons_succ, List.append_nil, List.nil_append, List.cons_append, List.append_eq, q7, bldM0, b1, b2]
    exact ⟨b3, no (.inr (.inr (.inr (.inr (.inr (.inr (.inl q7)))))))⟩
  simp only [RS, xs_some, Option.bind_some, Option.map_some, if_true, if_false, decide_true, decide_false, true_and, and_true, Bool.not_true, Bool.not_false, Bool.false_eq_true, not_false_eq_true, not_true_eq_false, Nat.reduceLT, Nat.reduceBEq, Nat.reduceEqDiff, Nat.reduceAdd, Int.reduceEq, Int.reduceLT, Int.reduceLE, Int.reduceGT, Int.reduceGE, beq_self_eq_true, List.getElem?_toArray, List.getElem?_cons_zero, List.getElem?_cons_succ, List.append_nil, List.nil_append, List.cons_append, List.append_eq, q7, fa, ld, il]
  by_cases q8 : (X.ids.length : Int) > 0
  · simp only [RS, xs_some, Option.bind_some, Option.map_some, if_true, if_false, decide_true, decide_false, true_and, and_true, Bool.not_true, Bool.not_false, Bool.false_eq_true, not_false_eq_true, not_true_eq_false, Nat.reduceLT, Nat.reduceBEq, Nat.reduceEqDiff, Nat.reduceAdd, Int.reduceEq, Int.reduceLT, Int.reduceLE, Int.reduceGT, Int.reduceGE, beq_self_eq_true, List.getElem?_toArray, List.getElem?_cons_zero, List.getElem?_cons_succ, List.append_nil, List.nil_append, List.cons_append, List.append_eq, q8, bldM0, b1, b2]
    exact ⟨b3, no (.inr (.inr (.inr (.inr (.inr (.inr (.inr (.inl (by omega)))))))))⟩
  simp only [RS, xs_some, Option.bind_some, Option.map_some, if_true, if_false, decide_true, decide_false, true_and, and_true, Bool.not_true, Bool.not_false, Bool.false_eq_true, not_false_eq_true, not_true_eq_false, Nat.reduceLT, Nat.reduceBEq, Nat.reduceEqDiff, Nat.reduceAdd, Int.reduceEq, Int.reduceLT, Int.reduceLE, Int.reduceGT, Int.reduceGE, beq_self_eq_true, List.getElem?_toArray, List.getElem?_cons_zero, List.getElem?_cons_succ, List.append_nil, List.nil_append, List.cons_append, List.append_eq, q8, fa, ld, ll]
  refine condK_of (fun q9 => ?_) (fun q9 => ?_)
  · simp only [RS, xs_some, Option.bind_some, Option.map_some, if_true, if_false, decide_true, decide_false, true_and, and_true, Bool.not_true, Bool.not_false, Bool.false_eq_true, not_false_eq_true, not_true_eq_false, Nat.reduceLT, Nat.reduceBEq, Nat.reduceEqDiff, Nat.reduceAdd, Int.reduceEq, Int.reduceLT, Int.reduceLE, Int.reduceGT, Int.reduceGE, beq_self_eq_true, List.getElem?_toArray, List.getElem?_cons_zero, List.getElem?_cons_succ, List.append_nil, List.nil_append, List.cons_append, List.append_eq, bldM0, b1, b2]
    exact ⟨b3, no (.inr (.inr (.inr (.inr (.inr (.inr (.inr (.inr (by omega)))))))))⟩
  have good : ¬ entBad X := by
    rintro (z | z | z | z | z | z | z | z | z)
    · exact z q1
    · exact q2 z
    · exact q3 z
    · exact z q4
    · exact z q5
    · exact z q6
    · exact z q7
    · omega
    · omega
  simp only [RS, xs_some, Option.bind_some, Option.map_some, if_true, if_false, decide_true, decide_false, true_and, and_true, Bool.not_true, Bool.not_false, Bool.false_eq_true, not_false_eq_true, not_true_eq_false, Nat.reduceLT, Nat.reduceBEq, Nat.reduceEqDiff, Nat.reduceAdd, Int.reduceEq, Int.reduceLT, Int.reduceLE, Int.reduceGT, Int.reduceGE, beq_self_eq_true, List.getElem?_toArray, List.getElem?_cons_zero, List.getElem?_cons_succ, List.append_nil, List.nil_append, List.cons_append, List.append_eq, fa, ld, dl]
  refine condK_of (fun q7 => ?_) (fun q7 => ?_)
  · simp only [RS, xs_some, Option.bind_some, Option.map_some, if_true, if_false, decide_true, decide_false, true_and, and_true, Bool.not_true, Bool.not_false, Bool.false_eq_true, not_false_eq_true, not_true_eq_false, Nat.reduceLT, Nat.reduceBEq, Nat.reduceEqDiff, Nat.reduceAdd, Int.reduceEq, Int.reduceLT, Int.reduceLE, Int.reduceGT, Int.reduceGE, beq_self_eq_true, List.getElem?_toArray, List.getElem?_cons_zero, List.getElem?_cons_succ, List.append_nil, List.nil_append, List.cons_append, List.append_eq, bldM0, b1, b2]
    have e := entC_long he (by rw [hX]; exact good) (by rw [hX]; omega)
    rw [e] at b4
    exact ⟨b3, b4 (by decide)⟩
  · simp only [RS, xs_some, Option.bind_some, Option.map_some, if_true, if_false, decide_true, decide_false, true_and, and_true, Bool.not_true, Bool.not_false, Bool.false_eq_true, not_false_eq_true, not_true_eq_false, Nat.reduceLT, Nat.reduceBEq, Nat.reduceEqDiff, Nat.reduceAdd, Int.reduceEq, Int.reduceLT, Int.reduceLE, Int.reduceGT, Int.reduceGE, beq_self_eq_true, List.getElem?_toArray, List.getElem?_cons_zero, List.getElem?_cons_succ, List.append_nil, List.nil_append, List.cons_append, List.append_eq, ld, g1, ldD]
    have e := entC_ok he (by rw [hX]; exact good) (by rw [hX]; omega)
    exact ⟨fD, X, dv, iv, lv, by rw [e], hMD, fun _ => hX.symm⟩
end Go.Sv.Try


namespace Go.Sv.Try
open Go Go.Proofs
set_option linter.unusedVariables false
set_option linter.unusedSimpArgs false

def small (l : List (List Bts)) : Prop := l.length ≤ 8 ∧ ∀ x ∈ l, x.length ≤ 12 ∧ ∀ b ∈ x, b.length ≤ 1000

set_option maxRecDepth 10000 in
set_option maxHeartbeats 8000000 in
theorem few_spec {m : Hp} {A : AS} {v : V} {l : List (List Bts)} (hm : m.on A) (h : Slc (eSl (eSl eU8)) m v l) (hl : l.length ≤ 1000000000000) (hl2 : ∀ x ∈ l, x.length ≤ 1000000000000) : ∃ w, EvF Try.prog HH 18 [v] A w A ∧ ∃ r, w = .bool r ∧ (r = true → small l) := by
  have key : ∃ w A', EvF Try.prog HH 18 [v] A w A' ∧ A' = A ∧ ∃ r, w = .bool r ∧ (r = true → small l) := by
    refine run_fn2 rfl Try.func18 (by unfold Try.f18; rfl) Try.ntmps18 (by unfold Try.f18; rfl) (by simp) ?_
    have hlen := fun B => h.len (P := Try.prog) Try.underlying22 B
    simp only [RS, xs_some, Option.bind_some, Option.map_some, if_true, if_false, decide_true, decide_false, true_and, and_true, Bool.not_true, Bool.not_false, Bool.false_eq_true, not_false_eq_true, not_true_eq_false, Nat.reduceLT, Nat.reduceBEq, Nat.reduceEqDiff, Nat.reduceAdd, Int.reduceEq, Int.reduceLT, Int.reduceLE, Int.reduceGT, Int.reduceGE, beq_self_eq_true, List.getElem?_toArray, List.getElem?_cons_zero, List.getElem?_cons_succ, List.append_nil, List.nil_append, List.cons_append, List.append_eq, hlen]
    refine condK_of (fun hgt => ?_) (fun hle => ?_)
    · simp only [RS, xs_some, Option.bind_some, Option.map_some, if_true, if_false, decide_true, decide_false, true_and, and_true, Bool.not_true, Bool.not_false, Bool.false_eq_true, not_false_eq_true, not_true_eq_false, Nat.reduceLT, Nat.reduceBEq, Nat.reduceEqDiff, Nat.reduceAdd, Int.reduceEq, Int.reduceLT, Int.reduceLE, Int.reduceGT, Int.reduceGE, beq_self_eq_true, List.getElem?_toArray, List.getElem?_cons_zero, List.getElem?_cons_succ, List.append_nil, List.nil_append, List.cons_append, List.append_eq]
      exact ⟨false, rfl, by simp⟩
    simp only [RS, xs_some, Option.bind_some, Option.map_some, if_true, if_false, decide_true, decide_false, true_and, and_true, Bool.not_true, Bool.not_false, Bool.false_eq_true, not_false_eq_true, not_true_eq_false, Nat.reduceLT, Nat.reduceBEq, Nat.reduceEqDiff, Nat.reduceAdd, Int.reduceEq, Int.reduceLT, Int.reduceLE, Int.reduceGT, Int.reduceGE, beq_self_eq_true, List.getElem?_toArray, List.getElem?_cons_zero, List.getElem?_cons_succ, List.append_nil, List.nil_append, List.cons_append, List.append_eq, hlen]
    refine run_loop (fun n e A' => A' = A ∧ ∃ i : Nat, n = l.length - i ∧ i ≤ l.length ∧ e.get 12 = .int .i64 i ∧ e.get 10 = v ∧ e.get 11 = .int .i64 l.length ∧ ∀ x ∈ l.take i, x.length ≤ 12 ∧ ∀ b ∈ x, b.length ≤ 1000) ⟨_, rfl, 0, rfl, by simp, rfl, rfl, rfl, by simp⟩ ?_
    rintro n e A' ⟨rfl, i, rfl, hi, h12, h10, h11, hall⟩
    simp only [RS, xs_some, Option.bind_some, Option.map_some, if_true, if_false, decide_true, decide_false, true_and, and_true, Bool.not_true, Bool.not_false, Bool.false_eq_true, not_false_eq_true, not_true_eq_false, Nat.reduceLT, Nat.reduceBEq, Nat.reduceEqDiff, Nat.reduceAdd, Int.reduceEq, Int.reduceLT, Int.reduceLE, Int.reduceGT, Int.reduceGE, beq_self_eq_true, List.getElem?_toArray, List.getElem?_cons_zero, List.getElem?_cons_succ, List.append_nil, List.nil_append, List.cons_append, List.append_eq, h12, h11]
    refine condK_of (fun hlt => ?_) (fun hge => ?_)
    · obtain ⟨x, hx⟩ := get_lt (l := l) (i := i) (by omega)
      have hil := (List.getElem?_eq_some_iff.1 hx).1
      have hxl := hl2 x (List.mem_of_getElem? hx)
      obtain ⟨b, o, c, g1, g2, g3⟩ := h.at (P := Try.prog) (k := .i64) hm Try.underlying22 sz33 ag33 hx
      rw [eSl_W] at g3
      have g4 := fun B => g3.len (P := Try.prog) Try.underlying33 B
      simp only [RS, xs_some, Option.bind_some, Option.map_some, if_true, if_false, decide_true, decide_false, true_and, and_true, Bool.not_true, Bool.not_false, Bool.false_eq_true, not_false_eq_true, not_true_eq_false, Nat.reduceLT, Nat.reduceBEq, Nat.reduceEqDiff, Nat.reduceAdd, Int.reduceEq, Int.reduceLT, Int.reduceLE, Int.reduceGT, Int.reduceGE, beq_self_eq_true, List.getElem?_toArray, List.getElem?_cons_zero, List.getElem?_cons_succ, List.append_nil, List.nil_append, List.cons_append, List.append_eq, h10, h12, g1, g2, g4]
      refine condK_of (fun hgt => ?_) (fun hle2 => ?_)
      · simp only [RS, xs_some, Option.bind_some, Option.map_some, if_true, if_false, decide_true, decide_false, true_and, and_true, Bool.not_true, Bool.not_false, Bool.false_eq_true, not_false_eq_true, not_true_eq_false, Nat.reduceLT, Nat.reduceBEq, Nat.reduceEqDiff, Nat.reduceAdd, Int.reduceEq, Int.reduceLT, Int.reduceLE, Int.reduceGT, Int.reduceGE, beq_self_eq_true, List.getElem?_toArray, List.getElem?_cons_zero, List.getElem?_cons_succ, List.append_nil, List.nil_append, List.cons_append, List.append_eq]
        exact ⟨false, rfl, by simp⟩
      simp only [RS, xs_some, Option.bind_some, Option.map_some, if_true, if_false, decide_true, decide_false, true_and, and_true, Bool.not_true, Bool.not_false, Bool.false_eq_true, not_false_eq_true, not_true_eq_false, Nat.reduceLT, Nat.reduceBEq, Nat.reduceEqDiff, Nat.reduceAdd, Int.reduceEq, Int.reduceLT, Int.reduceLE, Int.reduceGT, Int.reduceGE, beq_self_eq_true, List.getElem?_toArray, List.getElem?_cons_zero, List.getElem?_cons_succ, List.append_nil, List.nil_append, List.cons_append, List.append_eq, g4]
      refine run_loop (fun n e' A'' => A'' = A' ∧ e'.get 12 = .int .i64 i ∧ e'.get 10 = v ∧ e'.get 11 = .int .i64 l.length ∧ ∃ j : Nat, n = x.length - j ∧ j ≤ x.length ∧ e'.get 21 = .int .i64 j ∧ e'.get 19 = c ∧ e'.get 20 = .int .i64 x.length ∧ ∀ b ∈ x.take j, b.length ≤ 1000) ⟨_, rfl, h12, h10, h11, 0, rfl, by simp, rfl, rfl, rfl, by simp⟩ ?_
      rintro n e' A'' ⟨rfl, k12, k10, k11, j, rfl, hj, k21, k19, k20, hall2⟩
      simp only [RS, xs_some, Option.bind_some, Option.map_some, if_true, if_false, decide_true, decide_false, true_and, and_true, Bool.not_true, Bool.not_false, Bool.false_eq_true, not_false_eq_true, not_true_eq_false, Nat.reduceLT, Nat.reduceBEq, Nat.reduceEqDiff, Nat.reduceAdd, Int.reduceEq, Int.reduceLT, Int.reduceLE, Int.reduceGT, Int.reduceGE, beq_self_eq_true, List.getElem?_toArray, List.getElem?_cons_zero, List.getElem?_cons_succ, List.append_nil, List.nil_append, List.cons_append, List.append_eq, k21, k20]
      refine condK_of (fun hlt => ?_) (fun hge => ?_)
      · obtain ⟨y, hy⟩ := get_lt (l := x) (i := j) (by omega)
        have hjl := (List.getElem?_eq_some_iff.1 hy).1
        obtain ⟨b', o', c', m1, m2, m3⟩ := g3.at (P := Try.prog) (k := .i64) hm Try.underlying33 sz38 ag38 hy
        rw [eSl_W] at m3
        have m4 := fun B => m3.len (P := Try.prog) Try.underlying38 B
        simp only [RS, xs_some, Option.bind_some, Option.map_some, if_true, if_false, decide_true, decide_false, true_and, and_true, Bool.not_true, Bool.not_false, Bool.false_eq_true, not_false_eq_true, not_true_eq_false, Nat.reduceLT, Nat.reduceBEq, Nat.reduceEqDiff, Nat.reduceAdd, Int.reduceEq, Int.reduceLT, Int.reduceLE, Int.reduceGT, Int.reduceGE, beq_self_eq_true, List.getElem?_toArray, List.getElem?_cons_zero, List.getElem?_cons_succ, List.append_nil, List.nil_append, List.cons_append, List.append_eq, k19, k21, m1, m2, m4]
        refine condK_of (fun hgt => ?_) (fun hle3 => ?_)
        · simp only [RS, xs_some, Option.bind_some, Option.map_some, if_true, if_false, decide_true, decide_false, true_and, and_true, Bool.not_true, Bool.not_false, Bool.false_eq_true, not_false_eq_true, not_true_eq_false, Nat.reduceLT, Nat.reduceBEq, Nat.reduceEqDiff, Nat.reduceAdd, Int.reduceEq, Int.reduceLT, Int.reduceLE, Int.reduceGT, Int.reduceGE, beq_self_eq_true, List.getElem?_toArray, List.getElem?_cons_zero, List.getElem?_cons_succ, List.append_nil, List.nil_append, List.cons_append, List.append_eq]
          exact ⟨false, rfl, by simp⟩
        · simp only [RS, xs_some, Option.bind_some, Option.map_some, if_true, if_false, decide_true, decide_false, true_and, and_true, Bool.not_true, Bool.not_false, Bool.false_eq_true, not_false_eq_true, not_true_eq_false, Nat.reduceLT, Nat.reduceBEq, Nat.reduceEqDiff, Nat.reduceAdd, Int.reduceEq, Int.reduceLT, Int.reduceLE, Int.reduceGT, Int.reduceGE, beq_self_eq_true, List.getElem?_toArray, List.getElem?_cons_zero, List.getElem?_cons_succ, List.append_nil, List.nil_append, List.cons_append, List.append_eq, k21]
          refine ⟨x.length - (j + 1), by omega, k12, k10, k11, j + 1, rfl, hjl, by rw [wrapS (by omega)], k19, k20, fun b hb => ?_⟩
          rcases mem_take_succ hy hb with q | rfl
          · exact hall2 b q
          · omega
      · simp only [RS, xs_some, Option.bind_some, Option.map_some, if_true, if_false, decide_true, decide_false, true_and, and_true, Bool.not_true, Bool.not_false, Bool.false_eq_true, not_false_eq_true, not_true_eq_false, Nat.reduceLT, Nat.reduceBEq, Nat.reduceEqDiff, Nat.reduceAdd, Int.reduceEq, Int.reduceLT, Int.reduceLE, Int.reduceGT, Int.reduceGE, beq_self_eq_true, List.getElem?_toArray, List.getElem?_cons_zero, List.getElem?_cons_succ, List.append_nil, List.nil_append, List.cons_append, List.append_eq, k12]
        refine ⟨l.length - (i + 1), by omega, i + 1, rfl, hil, by rw [wrapS (by omega)], k10, k11, fun y hy => ?_⟩
        rcases mem_take_succ hx hy with q | rfl
        · exact hall y q
        · refine ⟨by omega, fun b hb => hall2 b ?_⟩
          rw [List.take_of_length_le (by omega)]; exact hb
    · simp only [RS, xs_some, Option.bind_some, Option.map_some, if_true, if_false, decide_true, decide_false, true_and, and_true, Bool.not_true, Bool.not_false, Bool.false_eq_true, not_false_eq_true, not_true_eq_false, Nat.reduceLT, Nat.reduceBEq, Nat.reduceEqDiff, Nat.reduceAdd, Int.reduceEq, Int.reduceLT, Int.reduceLE, Int.reduceGT, Int.reduceGE, beq_self_eq_true, List.getElem?_toArray, List.getElem?_cons_zero, List.getElem?_cons_succ, List.append_nil, List.nil_append, List.cons_append, List.append_eq]
      exact ⟨true, rfl, fun _ => ⟨by omega, by rw [List.take_of_length_le (by omega)] at hall; exact hall⟩⟩
  obtain ⟨w, A', h1, rfl, h2⟩ := key
  exact ⟨w, h1, h2⟩

/-- The first of a list that was not handed in. -/
def ForRes (list handed : List Bts) (n : Int) (ok : Bool) : Prop :=
  (ok = true ∧ ∃ (i : Nat) (b : Bts), n = i ∧ list[i]? = some b ∧ b ∉ handed ∧ ∀ (j : Nat) c, j < i → list[j]? = some c → c ∈ handed) ∨ (ok = false ∧ n = 0 ∧ ∀ (j : Nat) c, list[j]? = some c → c ∈ handed)
theorem forRes_one {list handed : List Bts} {n n' : Int} {ok ok' : Bool} (h : ForRes list handed n ok) (h' : ForRes list handed n' ok') : n = n' ∧ ok = ok' := by
  rcases h with ⟨rfl, i, b, rfl, h1, h2, h3⟩ | ⟨rfl, rfl, h1⟩
  · rcases h' with ⟨rfl, i', b', rfl, k1, k2, k3⟩ | ⟨rfl, rfl, k1⟩
    · refine ⟨?_, rfl⟩
      rcases Nat.lt_trichotomy i i' with q | q | q
      · exact absurd (k3 i b q h1) h2
      · rw [q]
      · exact absurd (h3 i' b' q k1) k2
    · exact absurd (k1 i b h1) h2
  · rcases h' with ⟨rfl, i', b', rfl, k1, k2, k3⟩ | ⟨rfl, rfl, k1⟩
    · exact absurd (h1 i' b' k1) k2
    · exact ⟨rfl, rfl⟩

theorem mkmS : mkm Try.prog 151 (some none) = some .newMap := by kernel_rfl
theorem mtS : mapT Try.prog 151 = some (9, 4) := by kernel_rfl
theorem zB : zeroT Try.prog 4 = some (.bool false) := by kernel_rfl
theorem kStr : KeyT Try.prog 9 (fun s : List UInt8 => V.str s) := keyStr (by kernel_rfl) ag9

set_option maxRecDepth 10000 in
set_option maxHeartbeats 8000000 in
theorem foreign_spec {m : Hp} {A : AS} {v hv : V} {list handed : List Bts} (hm : m.on A) (h : Slc (eSl eU8) m v list) (h' : Slc (eSl eU8) m hv handed) (hl : list.length ≤ 1000000) (hl' : handed.length ≤ 1000000) :
    ∃ w A', EvF Try.prog HH 35 [v, hv] A w A' ∧ Fr S0 A A' ∧ ∃ n ok, w = .tup [.int .i64 n, .bool ok] ∧ ForRes list handed n ok := by
  refine run_fn2 rfl Try.func35 (by unfold Try.f35; rfl) Try.ntmps35 (by unfold Try.f35; rfl) (by simp) ?_
  have hlen := fun B => h.len (P := Try.prog) Try.underlying33 B
  have hlen' := fun B => h'.len (P := Try.prog) Try.underlying33 B
  simp only [RS, xs_some, Option.bind_some, Option.map_some, if_true, if_false, decide_true, decide_false, true_and, and_true, Bool.not_true, Bool.not_false, Bool.false_eq_true, not_false_eq_true, not_true_eq_false, Nat.reduceLT, Nat.reduceBEq, Nat.reduceEqDiff, Nat.reduceAdd, Int.reduceEq, Int.reduceLT, Int.reduceLE, Int.reduceGT, Int.reduceGE, beq_self_eq_true, List.getElem?_toArray, List.getElem?_cons_zero, List.getElem?_cons_succ, List.append_nil, List.nil_append, List.cons_append, List.append_eq, mkmS, hlen']
  have q1 := Fr.pushMap A ⟨[], 0⟩
  have q2 := MapIs.new (enc := fun s : List UInt8 => V.str s) (ev := V.bool) A
  generalize A.pushMap ⟨[], 0⟩ = A1 at *
  obtain ⟨r, hr⟩ : ∃ r, r = A.maps.length := ⟨_, rfl⟩
  rw [← hr] at q2 ⊢
  refine run_loop_j (fun n e B => Fr S0 A B ∧ m.on B ∧ e.get 0 = v ∧ e.get 6 = .map r ∧ e.get 12 = hv ∧ e.get 13 = .int .i64 handed.length ∧ ∃ (i : Nat) (l : List (Bts × Bool)), n = handed.length - i ∧ i ≤ handed.length ∧ e.get 14 = .int .i64 i ∧ MapIs B r (fun s : List UInt8 => V.str s) V.bool l ∧
      (∀ b w, lookL l b = some w → w = true ∧ b ∈ handed.take i) ∧ ∀ b ∈ handed.take i, lookL l b = some true)
    (fun z e B => Is z (.exit 0) ∧ Fr S0 A B ∧ m.on B ∧ e.get 0 = v ∧ e.get 6 = .map r ∧ ∃ l : List (Bts × Bool), MapIs B r (fun s : List UInt8 => V.str s) V.bool l ∧ (∀ b w, lookL l b = some w → w = true ∧ b ∈ handed) ∧ ∀ b ∈ handed, lookL l b = some true)
    ⟨_, q1, hm.fr0 q1, rfl, rfl, rfl, rfl, 0, [], rfl, by simp, rfl, q2, fun b w q => by simp [lookL] at q, by simp⟩ ?_ ?_
  · rintro n e B ⟨hf, hmB, h0, h6, h12, h13, i, l, rfl, hi, h14, hmap, hA, hB⟩
    simp only [RS, xs_some, Option.bind_some, Option.map_some, if_true, if_false, decide_true, decide_false, true_and, and_true, Bool.not_true, Bool.not_false, Bool.false_eq_true, not_false_eq_true, not_true_eq_false, Nat.reduceLT, Nat.reduceBEq, Nat.reduceEqDiff, Nat.reduceAdd, Int.reduceEq, Int.reduceLT, Int.reduceLE, Int.reduceGT, Int.reduceGE, beq_self_eq_true, List.getElem?_toArray, List.getElem?_cons_zero, List.getElem?_cons_succ, List.append_nil, List.nil_append, List.cons_append, List.append_eq, h14, h13]
    refine condK_of (fun g => ?_) (fun g => ?_)
    · obtain ⟨y, hy⟩ := get_lt (l := handed) (i := i) (by omega)
      obtain ⟨b, o, c, g1, g2, g3⟩ := h'.at (P := Try.prog) (k := .i64) hmB Try.underlying33 sz38 ag38 hy
      rw [eSl_W] at g3
      have g4 := cnv_text (P := Try.prog) (s := 38) (d := 9) (by decide) g3 hmB Try.underlying38 Try.underlying5 Try.underlying9
      obtain ⟨C, l', u1, u2, u3, u4, u5⟩ : ∃ C l', evMapUpdate Try.prog 151 (.map r) (.str y) (.bool true) B = some C ∧ Fr (· = .map r) B C ∧ MapIs C r (fun s : List UInt8 => V.str s) V.bool l' ∧
          (∀ b w, lookL l' b = some w → w = true ∧ b ∈ handed.take (i + 1)) ∧ ∀ b ∈ handed.take (i + 1), lookL l' b = some true := by
        have hsub : ∀ b, b ∈ handed.take i → b ∈ handed.take (i + 1) := fun b q => by rw [List.take_add_one]; exact List.mem_append.2 (.inl q)
        have hyin : y ∈ handed.take (i + 1) := by rw [List.take_add_one, hy]; simp
        cases hlook : lookL l y with
        | none =>
          obtain ⟨C, u1, u2, u3⟩ := hmap.put (P := Try.prog) kStr mtS true hlook
          refine ⟨C, _, u1, u2, u3, fun b w q => ?_, fun b q => ?_⟩
          · rw [lookL_app] at q
            cases hb : lookL l b with
            | some w' => rw [hb] at q; cases q; exact ⟨(hA b w hb).1, hsub b (hA b w hb).2⟩
            | none =>
              rw [hb] at q
              simp only [lookL] at q
              split at q
              · rename_i e; cases q; rw [e]; exact ⟨rfl, hyin⟩
              · simp at q
          · rw [lookL_app]
            rcases mem_take_succ hy q with z | z
            · rw [hB b z]
            · rw [z, hlook]; simp [lookL]
        | some w =>
          obtain ⟨z1, _⟩ := hA y w hlook
          subst z1
          obtain ⟨C, u1, u2, u3⟩ := hmap.again (P := Try.prog) kStr mtS hlook
          refine ⟨C, l, u1, u2, u3, fun b w q => ⟨(hA b w q).1, hsub b (hA b w q).2⟩, fun b q => ?_⟩
          rcases mem_take_succ hy q with z | z
          · exact hB b z
          · rw [z]; exact hlook
      have fC : Fr S0 A C := hf.trans u2 (fun x q => .inr (by subst q; show A.maps.length ≤ r; omega))
      simp only [RS, xs_some, Option.bind_some, Option.map_some, if_true, if_false, decide_true, decide_false, true_and, and_true, Bool.not_true, Bool.not_false, Bool.false_eq_true, not_false_eq_true, not_true_eq_false, Nat.reduceLT, Nat.reduceBEq, Nat.reduceEqDiff, Nat.reduceAdd, Int.reduceEq, Int.reduceLT, Int.reduceLE, Int.reduceGT, Int.reduceGE, beq_self_eq_true, List.getElem?_toArray, List.getElem?_cons_zero, List.getElem?_cons_succ, List.append_nil, List.nil_append, List.cons_append, List.append_eq, h14, h12, h6, g1, g2, g4, u1]
      exact ⟨handed.length - (i + 1), by omega, fC, hmB.fr u2 (fun b q => by cases q), h0, h13, i + 1, l', rfl, by omega, by rw [wrapS (by omega)], u3, u4, u5⟩
    · simp only [RS, xs_some, Option.bind_some, Option.map_some, if_true, if_false, decide_true, decide_false, true_and, and_true, Bool.not_true, Bool.not_false, Bool.false_eq_true, not_false_eq_true, not_true_eq_false, Nat.reduceLT, Nat.reduceBEq, Nat.reduceEqDiff, Nat.reduceAdd, Int.reduceEq, Int.reduceLT, Int.reduceLE, Int.reduceGT, Int.reduceGE, beq_self_eq_true, List.getElem?_toArray, List.getElem?_cons_zero, List.getElem?_cons_succ, List.append_nil, List.nil_append, List.cons_append, List.append_eq]
      rw [List.take_of_length_le (by omega)] at hB
      exact ⟨rfl, hf, hmB, h0, h6, l, hmap, fun b w q => ⟨(hA b w q).1, List.mem_of_mem_take (hA b w q).2⟩, hB⟩
  rintro z e B hz ⟨rfl, hf, hmB, h0, h6, l, hmap, hA, hB⟩
  simp only [RS, xs_some, Option.bind_some, Option.map_some, if_true, if_false, decide_true, decide_false, true_and, and_true, Bool.not_true, Bool.not_false, Bool.false_eq_true, not_false_eq_true, not_true_eq_false, Nat.reduceLT, Nat.reduceBEq, Nat.reduceEqDiff, Nat.reduceAdd, Int.reduceEq, Int.reduceLT, Int.reduceLE, Int.reduceGT, Int.reduceGE, beq_self_eq_true, List.getElem?_toArray, List.getElem?_cons_zero, List.getElem?_cons_succ, List.append_nil, List.nil_append, List.cons_append, List.append_eq, h0, hlen]
  refine run_loop (fun n e C => C = B ∧ e.get 22 = v ∧ e.get 23 = .int .i64 list.length ∧ e.get 6 = .map r ∧ ∃ i : Nat, n = list.length - i ∧ i ≤ list.length ∧ e.get 24 = .int .i64 i ∧ ∀ (j : Nat) c, j < i → list[j]? = some c → c ∈ handed)
    ⟨_, rfl, rfl, rfl, h6, 0, rfl, by simp, rfl, fun j c q => by omega⟩ ?_
  clear h0 h6
  rintro n e C ⟨rfl, h22, h23, h6, i, rfl, hi, h24, hall⟩
  simp only [RS, xs_some, Option.bind_some, Option.map_some, if_true, if_false, decide_true, decide_false, true_and, and_true, Bool.not_true, Bool.not_false, Bool.false_eq_true, not_false_eq_true, not_true_eq_false, Nat.reduceLT, Nat.reduceBEq, Nat.reduceEqDiff, Nat.reduceAdd, Int.reduceEq, Int.reduceLT, Int.reduceLE, Int.reduceGT, Int.reduceGE, beq_self_eq_true, List.getElem?_toArray, List.getElem?_cons_zero, List.getElem?_cons_succ, List.append_nil, List.nil_append, List.cons_append, List.append_eq, h24, h23]
  refine condK_of (fun g => ?_) (fun g => ?_)
  · obtain ⟨y, hy⟩ := get_lt (l := list) (i := i) (by omega)
    obtain ⟨b, o, c, g1, g2, g3⟩ := h.at (P := Try.prog) (k := .i64) hmB Try.underlying33 sz38 ag38 hy
    rw [eSl_W] at g3
    have g4 := cnv_text (P := Try.prog) (s := 38) (d := 9) (by decide) g3 hmB Try.underlying38 Try.underlying5 Try.underlying9
    have hlk := hmap.look (P := Try.prog) kStr mtS zB y false
    cases hq : lookL l y with
    | none =>
      rw [hq] at hlk
      simp only [Bool.false_eq_true, if_false] at hlk
      simp only [RS, xs_some, Option.bind_some, Option.map_some, if_true, if_false, decide_true, decide_false, true_and, and_true, Bool.not_true, Bool.not_false, Bool.false_eq_true, not_false_eq_true, not_true_eq_false, Nat.reduceLT, Nat.reduceBEq, Nat.reduceEqDiff, Nat.reduceAdd, Int.reduceEq, Int.reduceLT, Int.reduceLE, Int.reduceGT, Int.reduceGE, beq_self_eq_true, List.getElem?_toArray, List.getElem?_cons_zero, List.getElem?_cons_succ, List.append_nil, List.nil_append, List.cons_append, List.append_eq, h24, h22, h6, g1, g2, g4, hlk]
      exact ⟨hf, _, true, rfl, .inl ⟨rfl, i, y, rfl, hy, fun z => by rw [hB y z] at hq; simp at hq, hall⟩⟩
    | some w =>
      obtain ⟨z1, z2⟩ := hA y w hq
      subst z1
      rw [hq] at hlk
      simp only [Bool.false_eq_true, if_false] at hlk
      simp only [RS, xs_some, Option.bind_some, Option.map_some, if_true, if_false, decide_true, decide_false, true_and, and_true, Bool.not_true, Bool.not_false, Bool.false_eq_true, not_false_eq_true, not_true_eq_false, Nat.reduceLT, Nat.reduceBEq, Nat.reduceEqDiff, Nat.reduceAdd, Int.reduceEq, Int.reduceLT, Int.reduceLE, Int.reduceGT, Int.reduceGE, beq_self_eq_true, List.getElem?_toArray, List.getElem?_cons_zero, List.getElem?_cons_succ, List.append_nil, List.nil_append, List.cons_append, List.append_eq, h24, h22, h6, g1, g2, g4, hlk]
      refine ⟨list.length - (i + 1), by omega, h23, i + 1, rfl, by omega, by rw [wrapS (by omega)], fun j c hj hc => ?_⟩
      rcases Nat.lt_or_ge j i with q | q
      · exact hall j c q hc
      · have : j = i := by omega
        subst this
        rw [hy] at hc; cases hc; exact z2
  · simp only [RS, xs_some, Option.bind_some, Option.map_some, if_true, if_false, decide_true, decide_false, true_and, and_true, Bool.not_true, Bool.not_false, Bool.false_eq_true, not_false_eq_true, not_true_eq_false, Nat.reduceLT, Nat.reduceBEq, Nat.reduceEqDiff, Nat.reduceAdd, Int.reduceEq, Int.reduceLT, Int.reduceLE, Int.reduceGT, Int.reduceGE, beq_self_eq_true, List.getElem?_toArray, List.getElem?_cons_zero, List.getElem?_cons_succ, List.append_nil, List.nil_append, List.cons_append, List.append_eq]
    exact ⟨hf, 0, false, rfl, .inr ⟨rfl, rfl, fun j c hc => hall j c (by have := (List.getElem?_eq_some_iff.1 hc).1; omega) hc⟩⟩
end Go.Sv.Try


namespace Go.Sv.Try
open Go Go.Proofs
set_option linter.unusedVariables false
set_option linter.unusedSimpArgs false

set_option maxRecDepth 10000 in
set_option maxHeartbeats 8000000 in
theorem refForeign_spec {m : Hp} {A : AS} {v hv : V} {list handed : List Bts} (hm : m.on A) (h : Slc (eSl eU8) m v list) (h' : Slc (eSl eU8) m hv handed) (hl : list.length ≤ 1000000) (hl' : handed.length ≤ 1000000) :
    ∃ w, EvF Try.prog HH 36 [v, hv] A w A ∧ ∃ n ok, w = .tup [.int .i64 n, .bool ok] ∧ ForRes list handed n ok := by
  have key : ∃ w A', EvF Try.prog HH 36 [v, hv] A w A' ∧ A' = A ∧ ∃ n ok, w = .tup [.int .i64 n, .bool ok] ∧ ForRes list handed n ok := by
    refine run_fn2 rfl Try.func36 (by unfold Try.f36; rfl) Try.ntmps36 (by unfold Try.f36; rfl) (by simp) ?_
    have hlen := fun B => h.len (P := Try.prog) Try.underlying33 B
    have hlen' := fun B => h'.len (P := Try.prog) Try.underlying33 B
    simp only [RS, xs_some, Option.bind_some, Option.map_some, if_true, if_false, decide_true, decide_false, true_and, and_true, Bool.not_true, Bool.not_false, Bool.false_eq_true, not_false_eq_true, not_true_eq_false, Nat.reduceLT, Nat.reduceBEq, Nat.reduceEqDiff, Nat.reduceAdd, Int.reduceEq, Int.reduceLT, Int.reduceLE, Int.reduceGT, Int.reduceGE, beq_self_eq_true, List.getElem?_toArray, List.getElem?_cons_zero, List.getElem?_cons_succ, List.append_nil, List.nil_append, List.cons_append, List.append_eq]
    refine run_loop (fun n e C => C = A ∧ e.get 0 = v ∧ e.get 1 = hv ∧ ∃ i : Nat, n = list.length - i ∧ i ≤ list.length ∧ e.get 6 = .int .i64 i ∧ ∀ (j : Nat) c, j < i → list[j]? = some c → c ∈ handed)
      ⟨_, rfl, rfl, rfl, 0, rfl, by simp, rfl, fun j c q => by omega⟩ ?_
    rintro n e C ⟨rfl, h0, h1, i, rfl, hi, h6, hall⟩
    simp only [RS, xs_some, Option.bind_some, Option.map_some, if_true, if_false, decide_true, decide_false, true_and, and_true, Bool.not_true, Bool.not_false, Bool.false_eq_true, not_false_eq_true, not_true_eq_false, Nat.reduceLT, Nat.reduceBEq, Nat.reduceEqDiff, Nat.reduceAdd, Int.reduceEq, Int.reduceLT, Int.reduceLE, Int.reduceGT, Int.reduceGE, beq_self_eq_true, List.getElem?_toArray, List.getElem?_cons_zero, List.getElem?_cons_succ, List.append_nil, List.nil_append, List.cons_append, List.append_eq, h6, h0, hlen]
    refine condK_of (fun g => ?_) (fun g => ?_)
    · obtain ⟨y, hy⟩ := get_lt (l := list) (i := i) (by omega)
      obtain ⟨b, o, c, g1, g2, g3⟩ := h.at (P := Try.prog) (k := .i64) hm Try.underlying33 sz38 ag38 hy
      rw [eSl_W] at g3
      have g4 := cnv_text (P := Try.prog) (s := 38) (d := 9) (by decide) g3 hm Try.underlying38 Try.underlying5 Try.underlying9
      simp only [RS, xs_some, Option.bind_some, Option.map_some, if_true, if_false, decide_true, decide_false, true_and, and_true, Bool.not_true, Bool.not_false, Bool.false_eq_true, not_false_eq_true, not_true_eq_false, Nat.reduceLT, Nat.reduceBEq, Nat.reduceEqDiff, Nat.reduceAdd, Int.reduceEq, Int.reduceLT, Int.reduceLE, Int.reduceGT, Int.reduceGE, beq_self_eq_true, List.getElem?_toArray, List.getElem?_cons_zero, List.getElem?_cons_succ, List.append_nil, List.nil_append, List.cons_append, List.append_eq]
      refine run_loop_j (fun n e' D => D = C ∧ e'.get 0 = v ∧ e'.get 1 = hv ∧ e'.get 6 = .int .i64 i ∧ ∃ k : Nat, n = handed.length - k ∧ k ≤ handed.length ∧ e'.get 8 = .int .i64 k ∧ e'.get 7 = .bool (decide (y ∈ handed.take k)))
        (fun z e' D => D = C ∧ Is z (.exit 2) ∧ e'.get 0 = v ∧ e'.get 1 = hv ∧ e'.get 6 = .int .i64 i ∧ e'.get 7 = .bool (decide (y ∈ handed)))
        ⟨_, rfl, h0, h1, h6, 0, rfl, by simp, rfl, by simp [Env.get]⟩ ?_ ?_
      · rintro n e' D ⟨rfl, k0, k1, k6, k, rfl, hk, k8, k7⟩
        simp only [RS, xs_some, Option.bind_some, Option.map_some, if_true, if_false, decide_true, decide_false, true_and, and_true, Bool.not_true, Bool.not_false, Bool.false_eq_true, not_false_eq_true, not_true_eq_false, Nat.reduceLT, Nat.reduceBEq, Nat.reduceEqDiff, Nat.reduceAdd, Int.reduceEq, Int.reduceLT, Int.reduceLE, Int.reduceGT, Int.reduceGE, beq_self_eq_true, List.getElem?_toArray, List.getElem?_cons_zero, List.getElem?_cons_succ, List.append_nil, List.nil_append, List.cons_append, List.append_eq, k8, k1, hlen']
        refine condK_of (fun g5 => ?_) (fun g5 => ?_)
        · obtain ⟨x, hx⟩ := get_lt (l := handed) (i := k) (by omega)
          obtain ⟨b', o', c', m1, m2, m3⟩ := h'.at (P := Try.prog) (k := .i64) hm Try.underlying33 sz38 ag38 hx
          rw [eSl_W] at m3
          have m4 := cnv_text (P := Try.prog) (s := 38) (d := 9) (by decide) m3 hm Try.underlying38 Try.underlying5 Try.underlying9
          have hstep : (y ∈ handed.take (k + 1)) ↔ (y ∈ handed.take k ∨ x = y) := by
            rw [List.take_add_one, hx]; simp [eq_comm]
          simp only [RS, xs_some, Option.bind_some, Option.map_some, if_true, if_false, decide_true, decide_false, true_and, and_true, Bool.not_true, Bool.not_false, Bool.false_eq_true, not_false_eq_true, not_true_eq_false, Nat.reduceLT, Nat.reduceBEq, Nat.reduceEqDiff, Nat.reduceAdd, Int.reduceEq, Int.reduceLT, Int.reduceLE, Int.reduceGT, Int.reduceGE, beq_self_eq_true, List.getElem?_toArray, List.getElem?_cons_zero, List.getElem?_cons_succ, List.append_nil, List.nil_append, List.cons_append, List.append_eq]
          rw [pl_36_8, run_plan_id (by rfl)]
          by_cases q : y ∈ handed.take k
          · simp only [RS, xs_some, Option.bind_some, Option.map_some, if_true, if_false, decide_true, decide_false, true_and, and_true, Bool.not_true, Bool.not_false, Bool.false_eq_true, not_false_eq_true, not_true_eq_false, Nat.reduceLT, Nat.reduceBEq, Nat.reduceEqDiff, Nat.reduceAdd, Int.reduceEq, Int.reduceLT, Int.reduceLE, Int.reduceGT, Int.reduceGE, beq_self_eq_true, List.getElem?_toArray, List.getElem?_cons_zero, List.getElem?_cons_succ, List.append_nil, List.nil_append, List.cons_append, List.append_eq, k8, k7, q]
            exact ⟨handed.length - (k + 1), by omega, k0, k1, k6, k + 1, rfl, by omega, by rw [wrapS (by omega)], by simp [hstep, q]⟩
          · simp only [RS, xs_some, Option.bind_some, Option.map_some, if_true, if_false, decide_true, decide_false, true_and, and_true, Bool.not_true, Bool.not_false, Bool.false_eq_true, not_false_eq_true, not_true_eq_false, Nat.reduceLT, Nat.reduceBEq, Nat.reduceEqDiff, Nat.reduceAdd, Int.reduceEq, Int.reduceLT, Int.reduceLE, Int.reduceGT, Int.reduceGE, beq_self_eq_true, List.getElem?_toArray, List.getElem?_cons_zero, List.getElem?_cons_succ, List.append_nil, List.nil_append, List.cons_append, List.append_eq, k8, k7, q, k1, k0, k6, m1, m2, m4, g1, g2, g4]
            exact ⟨handed.length - (k + 1), by omega, k + 1, rfl, by omega, by rw [wrapS (by omega)], by simp [hstep, q]⟩
        · simp only [RS, xs_some, Option.bind_some, Option.map_some, if_true, if_false, decide_true, decide_false, true_and, and_true, Bool.not_true, Bool.not_false, Bool.false_eq_true, not_false_eq_true, not_true_eq_false, Nat.reduceLT, Nat.reduceBEq, Nat.reduceEqDiff, Nat.reduceAdd, Int.reduceEq, Int.reduceLT, Int.reduceLE, Int.reduceGT, Int.reduceGE, beq_self_eq_true, List.getElem?_toArray, List.getElem?_cons_zero, List.getElem?_cons_succ, List.append_nil, List.nil_append, List.cons_append, List.append_eq]
          rw [List.take_of_length_le (by omega)] at k7
          exact ⟨rfl, k0, k1, k6, k7⟩
      · rintro z e' D hz ⟨rfl, rfl, k0, k1, k6, k7⟩
        by_cases q : y ∈ handed
        · simp only [RS, xs_some, Option.bind_some, Option.map_some, if_true, if_false, decide_true, decide_false, true_and, and_true, Bool.not_true, Bool.not_false, Bool.false_eq_true, not_false_eq_true, not_true_eq_false, Nat.reduceLT, Nat.reduceBEq, Nat.reduceEqDiff, Nat.reduceAdd, Int.reduceEq, Int.reduceLT, Int.reduceLE, Int.reduceGT, Int.reduceGE, beq_self_eq_true, List.getElem?_toArray, List.getElem?_cons_zero, List.getElem?_cons_succ, List.append_nil, List.nil_append, List.cons_append, List.append_eq, k7, k6, q]
          refine ⟨list.length - (i + 1), by omega, k0, k1, i + 1, rfl, by omega, by rw [wrapS (by omega)], fun j c hj hc => ?_⟩
          rcases Nat.lt_or_ge j i with z | z
          · exact hall j c z hc
          · have : j = i := by omega
            subst this
            rw [hy] at hc; cases hc; exact q
        · simp only [RS, xs_some, Option.bind_some, Option.map_some, if_true, if_false, decide_true, decide_false, true_and, and_true, Bool.not_true, Bool.not_false, Bool.false_eq_true, not_false_eq_true, not_true_eq_false, Nat.reduceLT, Nat.reduceBEq, Nat.reduceEqDiff, Nat.reduceAdd, Int.reduceEq, Int.reduceLT, Int.reduceLE, Int.reduceGT, Int.reduceGE, beq_self_eq_true, List.getElem?_toArray, List.getElem?_cons_zero, List.getElem?_cons_succ, List.append_nil, List.nil_append, List.cons_append, List.append_eq, k7, k6, q]
          exact ⟨_, true, rfl, .inl ⟨rfl, i, y, rfl, hy, q, hall⟩⟩
    · simp only [RS, xs_some, Option.bind_some, Option.map_some, if_true, if_false, decide_true, decide_false, true_and, and_true, Bool.not_true, Bool.not_false, Bool.false_eq_true, not_false_eq_true, not_true_eq_false, Nat.reduceLT, Nat.reduceBEq, Nat.reduceEqDiff, Nat.reduceAdd, Int.reduceEq, Int.reduceLT, Int.reduceLE, Int.reduceGT, Int.reduceGE, beq_self_eq_true, List.getElem?_toArray, List.getElem?_cons_zero, List.getElem?_cons_succ, List.append_nil, List.nil_append, List.cons_append, List.append_eq]
      exact ⟨0, false, rfl, .inr ⟨rfl, rfl, fun j c hc => hall j c (by have := (List.getElem?_eq_some_iff.1 hc).1; omega) hc⟩⟩
  obtain ⟨w, A', h1, rfl, h2⟩ := key
  exact ⟨w, h1, h2⟩

/-! ### Twice -/

/-- By whose, and which one, an entry is. -/
noncomputable def nameOf (b : Bts) : Option (Int × Int) := if entC b = 0 then some ((readMsg b).who, (readMsg b).num) else none
noncomputable def nm (list : List Bts) (i : Nat) : Option (Int × Int) := (list[i]?).bind nameOf
/-- Up to a place no entry was there before. -/
def NoDup (list : List Bts) (k : Nat) : Prop := ∀ i j n, i < j → j < k → nm list i = some n → nm list j ≠ some n
def TwRes (list : List Bts) (a b : Int) (ok : Bool) : Prop :=
  (ok = true ∧ ∃ (i k : Nat) (n : Int × Int), a = i ∧ b = k ∧ i < k ∧ nm list i = some n ∧ nm list k = some n ∧ NoDup list k) ∨ (ok = false ∧ a = 0 ∧ b = 0 ∧ NoDup list list.length)
theorem nm_lt {list : List Bts} {k : Nat} {n : Int × Int} (h : nm list k = some n) : k < list.length := by
  unfold nm at h
  cases hk : list[k]? with
  | none => rw [hk] at h; simp at h
  | some b => exact (List.getElem?_eq_some_iff.1 hk).1
theorem twRes_one {list : List Bts} {a b a' b' : Int} {ok ok' : Bool} (h : TwRes list a b ok) (h' : TwRes list a' b' ok') : a = a' ∧ b = b' ∧ ok = ok' := by
  rcases h with ⟨rfl, i, k, n, rfl, rfl, h1, h2, h3, h4⟩ | ⟨rfl, rfl, rfl, h1⟩
  · rcases h' with ⟨rfl, i', k', n', rfl, rfl, g1, g2, g3, g4⟩ | ⟨rfl, rfl, rfl, g1⟩
    · have e : k = k' := by
        rcases Nat.lt_trichotomy k k' with q | q | q
        · exact absurd h3 (g4 i k n h1 q h2)
        · exact q
        · exact absurd g3 (h4 i' k' n' g1 q g2)
      subst e
      rw [h3] at g3; cases g3
      have e : i = i' := by
        rcases Nat.lt_trichotomy i i' with q | q | q
        · exact absurd g2 (h4 i i' n q (by omega) h2)
        · exact q
        · exact absurd h2 (h4 i' i n q (by omega) g2)
      subst e
      exact ⟨rfl, rfl, rfl⟩
    · exact absurd h3 (g1 i k n h1 (nm_lt h3) h2)
  · rcases h' with ⟨rfl, i', k', n', rfl, rfl, g1, g2, g3, g4⟩ | ⟨rfl, rfl, rfl, g1⟩
    · exact absurd g3 (h1 i' k' n' g1 (nm_lt g3) g2)
    · exact ⟨rfl, rfl, rfl⟩
theorem noDup_succ {list : List Bts} {k : Nat} (h : NoDup list k) (hk : ∀ i n, i < k → nm list i = some n → nm list k ≠ some n) : NoDup list (k + 1) := by
  intro i j n hij hj hi
  rcases Nat.lt_or_ge j k with q | q
  · exact h i j n hij q hi
  · have : j = k := by omega
    subst this; exact hk i n hij hi

theorem mkmN : mkm Try.prog 148 (some none) = some .newMap := by kernel_rfl
theorem mtN : mapT Try.prog 148 = some (150, 3) := by kernel_rfl
theorem zI : zeroT Try.prog 3 = some (.int .i64 0) := by kernel_rfl
theorem kPair : KeyT Try.prog 150 (fun p : Int × Int => V.agg [.int .i64 p.1, .int .i64 p.2]) := keyPair (by kernel_rfl) ag150
theorem bldN (a b : Int) : evBuild Try.prog 150 [(0, .int .i64 a), (1, .int .i64 b)] = some (.agg [.int .i64 a, .int .i64 b]) := by kernel_rfl
theorem bldP2 (a b : Int) : evBuild Try.prog 31 [(0, .int .i64 a), (1, .int .i64 b)] = some (.agg [.int .i64 a, .int .i64 b, .int .i64 0]) := by kernel_rfl
theorem bldP0 : evBuild Try.prog 31 [] = some (.agg [.int .i64 0, .int .i64 0, .int .i64 0]) := by kernel_rfl
theorem ld_cells {P : Program} {A : AS} {b n : Nat} {t : TypeId} {cs : List V} {k : BK} (ha : aggT P t = some true) (hs : szT P t = some n) (hb : A.blk[b]? = some ⟨cs, k⟩) (hl : cs.length = n) : evLoad P t (.ptr b 0) A = some (.agg cs) := by
  rw [load_agg ha hs]
  unfold AS.range
  rw [hb]
  simp only [hl, Nat.zero_add, Nat.le_refl, if_true, List.drop_zero]
  rw [← hl, List.take_length]; rfl

set_option maxRecDepth 10000 in
set_option maxHeartbeats 16000000 in
theorem twice_spec {m : Hp} {A : AS} {v : V} {list : List Bts} (hw : WF A) (hm : m.on A) (h : Slc (eSl eU8) m v list) (hl : list.length ≤ 1000000) (hb : ∀ b ∈ list, b.length ≤ 1000000) :
    ∃ w A', EvF Try.prog HH 33 [v] A w A' ∧ Fr S0 A A' ∧ ∃ a b ok, w = .tup [.agg [.int .i64 a, .int .i64 b, .int .i64 0], .bool ok] ∧ TwRes list a b ok := by
  refine run_fn2 rfl Try.func33 (by unfold Try.f33; rfl) Try.ntmps33 (by unfold Try.f33; rfl) (by simp) ?_
  have hlen := fun B => h.len (P := Try.prog) Try.underlying33 B
  simp only [RS, xs_some, Option.bind_some, Option.map_some, if_true, if_false, decide_true, decide_false, true_and, and_true, Bool.not_true, Bool.not_false, Bool.false_eq_true, not_false_eq_true, not_true_eq_false, Nat.reduceLT, Nat.reduceBEq, Nat.reduceEqDiff, Nat.reduceAdd, Int.reduceEq, Int.reduceLT, Int.reduceLE, Int.reduceGT, Int.reduceGE, beq_self_eq_true, List.getElem?_toArray, List.getElem?_cons_zero, List.getElem?_cons_succ, List.append_nil, List.nil_append, List.cons_append, List.append_eq, zc31]
  obtain ⟨A1, e1, f1, r1, n1⟩ := new_var A [.int .i64 0, .int .i64 0, .int .i64 0]
  rw [← e1]
  simp only [RS, xs_some, Option.bind_some, Option.map_some, if_true, if_false, decide_true, decide_false, true_and, and_true, Bool.not_true, Bool.not_false, Bool.false_eq_true, not_false_eq_true, not_true_eq_false, Nat.reduceLT, Nat.reduceBEq, Nat.reduceEqDiff, Nat.reduceAdd, Int.reduceEq, Int.reduceLT, Int.reduceLE, Int.reduceGT, Int.reduceGE, beq_self_eq_true, List.getElem?_toArray, List.getElem?_cons_zero, List.getElem?_cons_succ, List.append_nil, List.nil_append, List.cons_append, List.append_eq, mkmN, hlen]
  have q1 := Fr.pushMap A1 ⟨[], 0⟩
  have q2 := MapIs.new (enc := fun p : Int × Int => V.agg [.int .i64 p.1, .int .i64 p.2]) (ev := fun n : Nat => V.int .i64 (n : Int)) A1
  obtain ⟨r, hr⟩ : ∃ r, r = A1.maps.length := ⟨_, rfl⟩
  have hrA : A.maps.length ≤ r := by have := f1.mlen; omega
  rw [← hr] at q2 ⊢
  have r2 := q1.row0 r1
  have fA2 := f1.then0 q1
  generalize A1.pushMap ⟨[], 0⟩ = A2 at *
  obtain ⟨bp, hbp⟩ : ∃ y, y = A.blk.length := ⟨_, rfl⟩
  rw [← hbp] at r2 ⊢
  -- the result is laid down
  have put : ∀ {C : AS} {a b : Int}, Fr S0 A C → C.blk[bp]? = some ⟨[.int .i64 0, .int .i64 0, .int .i64 0], .var⟩ → ∃ C', evStore Try.prog 31 (.ptr bp 0) (.agg [.int .i64 a, .int .i64 b, .int .i64 0]) C = some C' ∧ Fr S0 A C' ∧ evLoad Try.prog 31 (.ptr bp 0) C' = some (.agg [.int .i64 a, .int .i64 b, .int .i64 0]) := by
    intro C a b z1 z2
    obtain ⟨C', y1, y2, y3, y4⟩ := store_var (P := Try.prog) (t := 31) (o := 0) (x := .agg [.int .i64 a, .int .i64 b, .int .i64 0]) z2 rfl sz31 (by simp) rfl
    rw [putAt_all (cs := [.int .i64 0, .int .i64 0, .int .i64 0]) (vs := [.int .i64 a, .int .i64 b, .int .i64 0]) rfl] at y3
    exact ⟨C', y1, z1.row_ y2 (by omega), ld_cells ag31 sz31 y3 rfl⟩
  refine run_loop_j (fun n e B => Fr S0 A B ∧ m.on B ∧ B.blk[bp]? = some ⟨[.int .i64 0, .int .i64 0, .int .i64 0], .var⟩ ∧ e.get 2 = .ptr bp 0 ∧ e.get 4 = .map r ∧ e.get 13 = v ∧ e.get 14 = .int .i64 list.length ∧ ∃ (i : Nat) (l : List ((Int × Int) × Nat)), n = list.length - i ∧ i ≤ list.length ∧ e.get 15 = .int .i64 i ∧
      MapIs B r (fun p : Int × Int => V.agg [.int .i64 p.1, .int .i64 p.2]) (fun n : Nat => V.int .i64 (n : Int)) l ∧ NoDup list i ∧ (∀ n j, lookL l n = some j → j < i ∧ nm list j = some n) ∧ ∀ n j, j < i → nm list j = some n → ∃ j', lookL l n = some j')
    (fun z e B => Fr S0 A B ∧ e.get 2 = .ptr bp 0 ∧ ((Is z (.exit 0) ∧ B.blk[bp]? = some ⟨[.int .i64 0, .int .i64 0, .int .i64 0], .var⟩ ∧ NoDup list list.length) ∨
      (Is z .ret ∧ ∃ a b : Int, e.get 3 = .bool true ∧ evLoad Try.prog 31 (.ptr bp 0) B = some (.agg [.int .i64 a, .int .i64 b, .int .i64 0]) ∧ TwRes list a b true)))
    ⟨_, fA2, hm.fr0 fA2, r2, rfl, rfl, rfl, rfl, 0, [], rfl, by simp, rfl, q2, fun i j n _ z => by omega, fun n j q => by simp [lookL] at q, fun n j q => by omega⟩ ?_ ?_
  · rintro n e B ⟨hf, hmB, rB, h2, h4, h13, h14, i, l, rfl, hi, h15, hmap, hnd, hA, hB⟩
    simp only [RS, xs_some, Option.bind_some, Option.map_some, if_true, if_false, decide_true, decide_false, true_and, and_true, Bool.not_true, Bool.not_false, Bool.false_eq_true, not_false_eq_true, not_true_eq_false, Nat.reduceLT, Nat.reduceBEq, Nat.reduceEqDiff, Nat.reduceAdd, Int.reduceEq, Int.reduceLT, Int.reduceLE, Int.reduceGT, Int.reduceGE, beq_self_eq_true, List.getElem?_toArray, List.getElem?_cons_zero, List.getElem?_cons_succ, List.append_nil, List.nil_append, List.cons_append, List.append_eq, h15, h14]
    refine condK_of (fun g => ?_) (fun g => ?_)
    · obtain ⟨y, hy⟩ := get_lt (l := list) (i := i) (by omega)
      have hyl := hb y (List.mem_of_getElem? hy)
      obtain ⟨b, o, c, g1, g2, g3⟩ := h.at (P := Try.prog) (k := .i64) hmB Try.underlying33 sz38 ag38 hy
      rw [eSl_W] at g3
      obtain ⟨w, C, k1, k2, X, dv, iv, lv, rfl, k3, k4⟩ := bookCheck_spec (hf.wf hw) hmB g3 (by omega)
      obtain ⟨D, s1, s2, s3⟩ := new_msg (A := C) k3
      have fD := (hf.then0 k2).then0 s2
      have mD := (hmB.fr0 k2).fr0 s2
      have rD := s2.row0 (k2.row0 rB)
      have mapD := (hmap.fr k2 fun q => q).fr s2 fun q => q
      have ld := ldM s3 k3.id
      have fa := faM C.blk.length
      have hnm : nm list i = nameOf y := by unfold nm; rw [hy]; rfl
      have next : ∀ {l' : List ((Int × Int) × Nat)} {E : AS} {e' : Env}, True := fun {_ _ _} => trivial
      simp only [RS, xs_some, Option.bind_some, Option.map_some, if_true, if_false, decide_true, decide_false, true_and, and_true, Bool.not_true, Bool.not_false, Bool.false_eq_true, not_false_eq_true, not_true_eq_false, Nat.reduceLT, Nat.reduceBEq, Nat.reduceEqDiff, Nat.reduceAdd, Int.reduceEq, Int.reduceLT, Int.reduceLE, Int.reduceGT, Int.reduceGE, beq_self_eq_true, List.getElem?_toArray, List.getElem?_cons_zero, List.getElem?_cons_succ, List.append_nil, List.nil_append, List.cons_append, List.append_eq, h15, h13, g1, g2]
      refine run_call1 k1 ?_
      simp only [RS, xs_some, Option.bind_some, Option.map_some, if_true, if_false, decide_true, decide_false, true_and, and_true, Bool.not_true, Bool.not_false, Bool.false_eq_true, not_false_eq_true, not_true_eq_false, Nat.reduceLT, Nat.reduceBEq, Nat.reduceEqDiff, Nat.reduceAdd, Int.reduceEq, Int.reduceLT, Int.reduceLE, Int.reduceGT, Int.reduceGE, beq_self_eq_true, List.getElem?_toArray, List.getElem?_cons_zero, List.getElem?_cons_succ, List.append_nil, List.nil_append, List.cons_append, List.append_eq, zcM, s1]
      refine condK_of (fun h0 => ?_) (fun h0 => ?_)
      · simp only [RS, xs_some, Option.bind_some, Option.map_some, if_true, if_false, decide_true, decide_false, true_and, and_true, Bool.not_true, Bool.not_false, Bool.false_eq_true, not_false_eq_true, not_true_eq_false, Nat.reduceLT, Nat.reduceBEq, Nat.reduceEqDiff, Nat.reduceAdd, Int.reduceEq, Int.reduceLT, Int.reduceLE, Int.reduceGT, Int.reduceGE, beq_self_eq_true, List.getElem?_toArray, List.getElem?_cons_zero, List.getElem?_cons_succ, List.append_nil, List.nil_append, List.cons_append, List.append_eq, h15]
        have hnone : nm list i = none := by rw [hnm]; unfold nameOf; rw [if_neg h0]
        refine ⟨list.length - (i + 1), by omega, fD, mD, rD, h2, h4, h13, h14, i + 1, l, rfl, by omega, by rw [wrapS (by omega)], mapD, noDup_succ hnd (fun j n hj q => by rw [hnone]; simp), fun n j q => ?_, fun n j hj q => ?_⟩
        · obtain ⟨z1, z2⟩ := hA n j q; exact ⟨by omega, z2⟩
        · rcases Nat.lt_or_ge j i with z | z
          · exact hB n j z q
          · have : j = i := by omega
            subst this; rw [hnone] at q; simp at q
      · have he : entC y = 0 := by omega
        have hX := k4 he
        have hsome : nm list i = some (X.who, X.num) := by rw [hnm]; unfold nameOf; rw [if_pos he, hX]
        obtain ⟨E, t1, t2, t3, t4⟩ := new_set (P := Try.prog) D (z := [.int .i64 0, .int .i64 0]) (t := 150) (x := .agg [.int .i64 X.who, .int .i64 X.num]) (cs := [.int .i64 X.who, .int .i64 X.num]) rfl sz150 rfl rfl
        have ldn := ld_cells (P := Try.prog) ag150 sz150 t3 rfl
        have fE := fD.then0 t2
        have mE := mD.fr0 t2
        have rE := t2.row0 rD
        have mapE := mapD.fr t2 fun q => q
        have hlk := mapE.look (P := Try.prog) kPair mtN zI (X.who, X.num) true
        cases hq : lookL l (X.who, X.num) with
        | some j =>
          obtain ⟨z1, z2⟩ := hA _ _ hq
          rw [hq] at hlk
          simp only [if_true] at hlk
          obtain ⟨F, y1, y2, y3⟩ := put (a := (j : Int)) (b := (i : Int)) fE rE
          simp only [RS, xs_some, Option.bind_some, Option.map_some, if_true, if_false, decide_true, decide_false, true_and, and_true, Bool.not_true, Bool.not_false, Bool.false_eq_true, not_false_eq_true, not_true_eq_false, Nat.reduceLT, Nat.reduceBEq, Nat.reduceEqDiff, Nat.reduceAdd, Int.reduceEq, Int.reduceLT, Int.reduceLE, Int.reduceGT, Int.reduceGE, beq_self_eq_true, List.getElem?_toArray, List.getElem?_cons_zero, List.getElem?_cons_succ, List.append_nil, List.nil_append, List.cons_append, List.append_eq, fa, ld, bldN, zc150, t1, ldn, h4, hlk, bldP2, h2, y1]
          exact ⟨y2, .inr ⟨rfl, _, _, y3, .inl ⟨rfl, j, i, _, rfl, rfl, z1, z2, hsome, hnd⟩⟩⟩
        | none =>
          rw [hq] at hlk
          simp only [if_true] at hlk
          obtain ⟨F, y1, y2, y3⟩ := mapE.put (P := Try.prog) kPair mtN i hq
          have fF : Fr S0 A F := fE.trans y2 (fun x q => .inr (by subst q; exact hrA))
          simp only [RS, xs_some, Option.bind_some, Option.map_some, if_true, if_false, decide_true, decide_false, true_and, and_true, Bool.not_true, Bool.not_false, Bool.false_eq_true, not_false_eq_true, not_true_eq_false, Nat.reduceLT, Nat.reduceBEq, Nat.reduceEqDiff, Nat.reduceAdd, Int.reduceEq, Int.reduceLT, Int.reduceLE, Int.reduceGT, Int.reduceGE, beq_self_eq_true, List.getElem?_toArray, List.getElem?_cons_zero, List.getElem?_cons_succ, List.append_nil, List.nil_append, List.cons_append, List.append_eq, fa, ld, bldN, zc150, t1, ldn, h4, hlk, y1, h15]
          refine ⟨list.length - (i + 1), by omega, fF, mE.fr y2 (fun b q => by cases q), y2.row _ _ rE (fun q => by cases q), h2, h13, h14, i + 1, _, rfl, by omega, by rw [wrapS (by omega)], y3, noDup_succ hnd (fun j n hj q => ?_), fun n j q => ?_, fun n j hj q => ?_⟩
          · rw [hsome]
            intro z; cases z
            obtain ⟨j', hj'⟩ := hB _ j hj q
            rw [hq] at hj'; simp at hj'
          · rw [lookL_app] at q
            cases hn : lookL l n with
            | some j0 => rw [hn] at q; cases q; obtain ⟨z1, z2⟩ := hA n _ hn; exact ⟨by omega, z2⟩
            | none =>
              rw [hn] at q
              simp only [lookL] at q
              split at q
              · rename_i z; cases q; exact ⟨by omega, by rw [z]; exact hsome⟩
              · simp at q
          · rw [lookL_app]
            rcases Nat.lt_or_ge j i with z | z
            · obtain ⟨j', hj'⟩ := hB n j z q
              exact ⟨j', by rw [hj']⟩
            · have : j = i := by omega
              subst this
              rw [hsome] at q; cases q
              exact ⟨j, by rw [hq]; simp [lookL]⟩
    · have : i = list.length := by omega
      subst this
      simp only [RS, xs_some, Option.bind_some, Option.map_some, if_true, if_false, decide_true, decide_false, true_and, and_true, Bool.not_true, Bool.not_false, Bool.false_eq_true, not_false_eq_true, not_true_eq_false, Nat.reduceLT, Nat.reduceBEq, Nat.reduceEqDiff, Nat.reduceAdd, Int.reduceEq, Int.reduceLT, Int.reduceLE, Int.reduceGT, Int.reduceGE, beq_self_eq_true, List.getElem?_toArray, List.getElem?_cons_zero, List.getElem?_cons_succ, List.append_nil, List.nil_append, List.cons_append, List.append_eq]
      exact ⟨hf, h2, .inl ⟨rfl, rB, hnd⟩⟩
  · rintro z e B hz ⟨hf, h2, ⟨rfl, rB, hnd⟩ | ⟨rfl, a, b, h3, hld, htw⟩⟩
    · obtain ⟨F, y1, y2, y3⟩ := put (a := 0) (b := 0) hf rB
      simp only [RS, xs_some, Option.bind_some, Option.map_some, if_true, if_false, decide_true, decide_false, true_and, and_true, Bool.not_true, Bool.not_false, Bool.false_eq_true, not_false_eq_true, not_true_eq_false, Nat.reduceLT, Nat.reduceBEq, Nat.reduceEqDiff, Nat.reduceAdd, Int.reduceEq, Int.reduceLT, Int.reduceLE, Int.reduceGT, Int.reduceGE, beq_self_eq_true, List.getElem?_toArray, List.getElem?_cons_zero, List.getElem?_cons_succ, List.append_nil, List.nil_append, List.cons_append, List.append_eq, bldP0, h2, y1, y3]
      exact ⟨y2, 0, 0, false, rfl, .inr ⟨rfl, rfl, rfl, hnd⟩⟩
    · simp only [RS, xs_some, Option.bind_some, Option.map_some, if_true, if_false, decide_true, decide_false, true_and, and_true, Bool.not_true, Bool.not_false, Bool.false_eq_true, not_false_eq_true, not_true_eq_false, Nat.reduceLT, Nat.reduceBEq, Nat.reduceEqDiff, Nat.reduceAdd, Int.reduceEq, Int.reduceLT, Int.reduceLE, Int.reduceGT, Int.reduceGE, beq_self_eq_true, List.getElem?_toArray, List.getElem?_cons_zero, List.getElem?_cons_succ, List.append_nil, List.nil_append, List.cons_append, List.append_eq, h2, h3, hld]
      exact ⟨hf, a, b, true, rfl, htw⟩
end Go.Sv.Try


namespace Go.Sv.Try
open Go Go.Proofs
set_option linter.unusedVariables false
set_option linter.unusedSimpArgs false

set_option maxRecDepth 10000 in
set_option maxHeartbeats 16000000 in
theorem refTwice_spec {m : Hp} {A : AS} {v : V} {list : List Bts} (hw : WF A) (hm : m.on A) (h : Slc (eSl eU8) m v list) (hl : list.length ≤ 1000000) (hb : ∀ b ∈ list, b.length ≤ 1000000) :
    ∃ w A', EvF Try.prog HH 34 [v] A w A' ∧ Fr S0 A A' ∧ ∃ a b ok, w = .tup [.int .i64 a, .int .i64 b, .bool ok] ∧ TwRes list a b ok := by
  refine run_fn2 rfl Try.func34 (by unfold Try.f34; rfl) Try.ntmps34 (by unfold Try.f34; rfl) (by simp) ?_
  have hlen := fun B => h.len (P := Try.prog) Try.underlying33 B
  simp only [RS, xs_some, Option.bind_some, Option.map_some, if_true, if_false, decide_true, decide_false, true_and, and_true, Bool.not_true, Bool.not_false, Bool.false_eq_true, not_false_eq_true, not_true_eq_false, Nat.reduceLT, Nat.reduceBEq, Nat.reduceEqDiff, Nat.reduceAdd, Int.reduceEq, Int.reduceLT, Int.reduceLE, Int.reduceGT, Int.reduceGE, beq_self_eq_true, List.getElem?_toArray, List.getElem?_cons_zero, List.getElem?_cons_succ, List.append_nil, List.nil_append, List.cons_append, List.append_eq]
  refine run_loop_j (fun n e B => Fr S0 A B ∧ m.on B ∧ e.get 0 = v ∧ ∃ (i : Nat), n = list.length - i ∧ i ≤ list.length ∧ e.get 5 = .int .i64 i ∧ NoDup list i)
    (fun z e B => Fr S0 A B ∧ ((Is z (.exit 0) ∧ NoDup list list.length) ∨
      (Is z .ret ∧ ∃ a b : Int, e.get 2 = .int .i64 a ∧ e.get 3 = .int .i64 b ∧ e.get 4 = .bool true ∧ TwRes list a b true)))
    ⟨_, Fr.refl _ _, hm, rfl, 0, rfl, by simp, rfl, fun i j n _ z => by omega⟩ ?_ ?_
  · rintro n e B ⟨hf, hmB, h0, i, rfl, hi, h5, hnd⟩
    simp only [RS, xs_some, Option.bind_some, Option.map_some, if_true, if_false, decide_true, decide_false, true_and, and_true, Bool.not_true, Bool.not_false, Bool.false_eq_true, not_false_eq_true, not_true_eq_false, Nat.reduceLT, Nat.reduceBEq, Nat.reduceEqDiff, Nat.reduceAdd, Int.reduceEq, Int.reduceLT, Int.reduceLE, Int.reduceGT, Int.reduceGE, beq_self_eq_true, List.getElem?_toArray, List.getElem?_cons_zero, List.getElem?_cons_succ, List.append_nil, List.nil_append, List.cons_append, List.append_eq, h5, h0, hlen]
    refine condK_of (fun g => ?_) (fun g => ?_)
    · obtain ⟨y, hy⟩ := get_lt (l := list) (i := i) (by omega)
      have hyl := hb y (List.mem_of_getElem? hy)
      obtain ⟨b, o, c, g1, g2, g3⟩ := h.at (P := Try.prog) (k := .i64) hmB Try.underlying33 sz38 ag38 hy
      rw [eSl_W] at g3
      have g4 := cnv_text (P := Try.prog) (s := 38) (d := 9) (by decide) g3 hmB Try.underlying38 Try.underlying5 Try.underlying9
      obtain ⟨w, C, k1, k2, X, dv, iv, lv, rfl, k3, k4⟩ := refEnt_spec (A := B) (b := y) (hf.wf hw) (by omega)
      obtain ⟨D, s1, s2, s3⟩ := new_msg (A := C) k3
      have fD := (hf.then0 k2).then0 s2
      have mD := (hmB.fr0 k2).fr0 s2
      have hnm : nm list i = nameOf y := by unfold nm; rw [hy]; rfl
      obtain ⟨c6, hc6⟩ : ∃ c, c = C.blk.length := ⟨_, rfl⟩
      rw [← hc6] at s3 
      simp only [RS, xs_some, Option.bind_some, Option.map_some, if_true, if_false, decide_true, decide_false, true_and, and_true, Bool.not_true, Bool.not_false, Bool.false_eq_true, not_false_eq_true, not_true_eq_false, Nat.reduceLT, Nat.reduceBEq, Nat.reduceEqDiff, Nat.reduceAdd, Int.reduceEq, Int.reduceLT, Int.reduceLE, Int.reduceGT, Int.reduceGE, beq_self_eq_true, List.getElem?_toArray, List.getElem?_cons_zero, List.getElem?_cons_succ, List.append_nil, List.nil_append, List.cons_append, List.append_eq, h5, h0, g1, g2, g4]
      refine run_call1 k1 ?_
      simp only [RS, xs_some, Option.bind_some, Option.map_some, if_true, if_false, decide_true, decide_false, true_and, and_true, Bool.not_true, Bool.not_false, Bool.false_eq_true, not_false_eq_true, not_true_eq_false, Nat.reduceLT, Nat.reduceBEq, Nat.reduceEqDiff, Nat.reduceAdd, Int.reduceEq, Int.reduceLT, Int.reduceLE, Int.reduceGT, Int.reduceGE, beq_self_eq_true, List.getElem?_toArray, List.getElem?_cons_zero, List.getElem?_cons_succ, List.append_nil, List.nil_append, List.cons_append, List.append_eq, zcM, s1]
      rw [← hc6]
      refine condK_of (fun hz => ?_) (fun hz => ?_)
      · have hnone : nm list i = none := by rw [hnm]; unfold nameOf; rw [if_neg hz]
        simp only [RS, xs_some, Option.bind_some, Option.map_some, if_true, if_false, decide_true, decide_false, true_and, and_true, Bool.not_true, Bool.not_false, Bool.false_eq_true, not_false_eq_true, not_true_eq_false, Nat.reduceLT, Nat.reduceBEq, Nat.reduceEqDiff, Nat.reduceAdd, Int.reduceEq, Int.reduceLT, Int.reduceLE, Int.reduceGT, Int.reduceGE, beq_self_eq_true, List.getElem?_toArray, List.getElem?_cons_zero, List.getElem?_cons_succ, List.append_nil, List.nil_append, List.cons_append, List.append_eq, h5]
        exact ⟨list.length - (i + 1), by omega, fD, mD, h0, i + 1, rfl, by omega, by rw [wrapS (by omega)], noDup_succ hnd (fun j n hj q => by rw [hnone]; simp)⟩
      · have he : entC y = 0 := by omega
        have hX := k4 he
        have hsome : nm list i = some (X.who, X.num) := by rw [hnm]; unfold nameOf; rw [if_pos he, hX]
        have fa := faM c6
        simp only [RS, xs_some, Option.bind_some, Option.map_some, if_true, if_false, decide_true, decide_false, true_and, and_true, Bool.not_true, Bool.not_false, Bool.false_eq_true, not_false_eq_true, not_true_eq_false, Nat.reduceLT, Nat.reduceBEq, Nat.reduceEqDiff, Nat.reduceAdd, Int.reduceEq, Int.reduceLT, Int.reduceLE, Int.reduceGT, Int.reduceGE, beq_self_eq_true, List.getElem?_toArray, List.getElem?_cons_zero, List.getElem?_cons_succ, List.append_nil, List.nil_append, List.cons_append, List.append_eq]
        refine run_loop_j (fun n e B => Fr S0 A B ∧ m.on B ∧ B.blk[c6]? = some ⟨mc X dv iv lv, .var⟩ ∧ e.get 0 = v ∧ e.get 5 = .int .i64 i ∧ e.get 6 = .ptr c6 0 ∧ ∃ (k : Nat), n = i - k ∧ k ≤ i ∧ e.get 8 = .int .i64 k ∧ ∀ j, j < k → nm list j ≠ some (X.who, X.num))
          (fun z e B => Fr S0 A B ∧ m.on B ∧ ((Is z (.exit 2) ∧ e.get 0 = v ∧ e.get 5 = .int .i64 i ∧ ∀ j, j < i → nm list j ≠ some (X.who, X.num)) ∨
            (Is z .ret ∧ ∃ a b : Int, e.get 2 = .int .i64 a ∧ e.get 3 = .int .i64 b ∧ e.get 4 = .bool true ∧ TwRes list a b true)))
          ⟨_, fD, mD, s3, h0, h5, rfl, 0, rfl, by simp, rfl, fun j q => by omega⟩ ?_ ?_
        · rintro n e B' ⟨hf', hmB', r6, h0, h5, h6, k, rfl, hk, h8, hno⟩
          simp only [RS, xs_some, Option.bind_some, Option.map_some, if_true, if_false, decide_true, decide_false, true_and, and_true, Bool.not_true, Bool.not_false, Bool.false_eq_true, not_false_eq_true, not_true_eq_false, Nat.reduceLT, Nat.reduceBEq, Nat.reduceEqDiff, Nat.reduceAdd, Int.reduceEq, Int.reduceLT, Int.reduceLE, Int.reduceGT, Int.reduceGE, beq_self_eq_true, List.getElem?_toArray, List.getElem?_cons_zero, List.getElem?_cons_succ, List.append_nil, List.nil_append, List.cons_append, List.append_eq, h8, h5]
          refine condK_of (fun g => ?_) (fun g => ?_)
          · obtain ⟨y', hy'⟩ := get_lt (l := list) (i := k) (by omega)
            have hyl' := hb y' (List.mem_of_getElem? hy')
            obtain ⟨b', o', c', g1', g2', g3'⟩ := h.at (P := Try.prog) (k := .i64) hmB' Try.underlying33 sz38 ag38 hy'
            rw [eSl_W] at g3'
            have g4' := cnv_text (P := Try.prog) (s := 38) (d := 9) (by decide) g3' hmB' Try.underlying38 Try.underlying5 Try.underlying9
            obtain ⟨w, C', l1, l2, X', dv', iv', lv', rfl, l3, l4⟩ := refEnt_spec (A := B') (b := y') (hf'.wf hw) (by omega)
            obtain ⟨D', u1, u2, u3⟩ := new_msg (A := C') l3
            have fD' := (hf'.then0 l2).then0 u2
            have mD' := (hmB'.fr0 l2).fr0 u2
            have rD' := u2.row0 (l2.row0 r6)
            have ld := ldM rD' k3.id
            have ld' := ldM u3 l3.id
            have fa' := faM C'.blk.length
            have hnm' : nm list k = nameOf y' := by unfold nm; rw [hy']; rfl
            have hnm2 : nm list k = some (X.who, X.num) ↔ entC y' = 0 ∧ X'.who = X.who ∧ X'.num = X.num := by
              rw [hnm']; unfold nameOf
              by_cases q : entC y' = 0
              · rw [if_pos q, ← l4 q]; simp [q]
              · rw [if_neg q]; simp [q]
            have hsucc : nm list k ≠ some (X.who, X.num) → ∀ j, j < k + 1 → nm list j ≠ some (X.who, X.num) := fun q j hj => by
              rcases Nat.lt_or_ge j k with z | z
              · exact hno j z
              · have : j = k := by omega
                subst this; exact q
            simp only [RS, xs_some, Option.bind_some, Option.map_some, if_true, if_false, decide_true, decide_false, true_and, and_true, Bool.not_true, Bool.not_false, Bool.false_eq_true, not_false_eq_true, not_true_eq_false, Nat.reduceLT, Nat.reduceBEq, Nat.reduceEqDiff, Nat.reduceAdd, Int.reduceEq, Int.reduceLT, Int.reduceLE, Int.reduceGT, Int.reduceGE, beq_self_eq_true, List.getElem?_toArray, List.getElem?_cons_zero, List.getElem?_cons_succ, List.append_nil, List.nil_append, List.cons_append, List.append_eq, h8, h0, g1', g2', g4']
            refine run_call1 l1 ?_
            simp only [RS, xs_some, Option.bind_some, Option.map_some, if_true, if_false, decide_true, decide_false, true_and, and_true, Bool.not_true, Bool.not_false, Bool.false_eq_true, not_false_eq_true, not_true_eq_false, Nat.reduceLT, Nat.reduceBEq, Nat.reduceEqDiff, Nat.reduceAdd, Int.reduceEq, Int.reduceLT, Int.reduceLE, Int.reduceGT, Int.reduceGE, beq_self_eq_true, List.getElem?_toArray, List.getElem?_cons_zero, List.getElem?_cons_succ, List.append_nil, List.nil_append, List.cons_append, List.append_eq, zcM, u1]
            by_cases p1 : entC y' = 0
            rotate_left
            · simp only [RS, xs_some, Option.bind_some, Option.map_some, if_true, if_false, decide_true, decide_false, true_and, and_true, Bool.not_true, Bool.not_false, Bool.false_eq_true, not_false_eq_true, not_true_eq_false, Nat.reduceLT, Nat.reduceBEq, Nat.reduceEqDiff, Nat.reduceAdd, Int.reduceEq, Int.reduceLT, Int.reduceLE, Int.reduceGT, Int.reduceGE, beq_self_eq_true, List.getElem?_toArray, List.getElem?_cons_zero, List.getElem?_cons_succ, List.append_nil, List.nil_append, List.cons_append, List.append_eq, p1, h8, h5, h6]
              exact ⟨i - (k + 1), by omega, fD', mD', rD', h0, k + 1, rfl, by omega, by rw [wrapS (by omega)], hsucc (fun q => p1 (hnm2.1 q).1)⟩
            by_cases p2 : X'.who = X.who
            rotate_left
            · simp only [RS, xs_some, Option.bind_some, Option.map_some, if_true, if_false, decide_true, decide_false, true_and, and_true, Bool.not_true, Bool.not_false, Bool.false_eq_true, not_false_eq_true, not_true_eq_false, Nat.reduceLT, Nat.reduceBEq, Nat.reduceEqDiff, Nat.reduceAdd, Int.reduceEq, Int.reduceLT, Int.reduceLE, Int.reduceGT, Int.reduceGE, beq_self_eq_true, List.getElem?_toArray, List.getElem?_cons_zero, List.getElem?_cons_succ, List.append_nil, List.nil_append, List.cons_append, List.append_eq, p1, p2, h8, h5, h6, fa, fa', ld, ld']
              exact ⟨i - (k + 1), by omega, fD', mD', rD', h0, k + 1, rfl, by omega, by rw [wrapS (by omega)], hsucc (fun q => p2 (hnm2.1 q).2.1)⟩
            by_cases p3 : X'.num = X.num
            rotate_left
            · simp only [RS, xs_some, Option.bind_some, Option.map_some, if_true, if_false, decide_true, decide_false, true_and, and_true, Bool.not_true, Bool.not_false, Bool.false_eq_true, not_false_eq_true, not_true_eq_false, Nat.reduceLT, Nat.reduceBEq, Nat.reduceEqDiff, Nat.reduceAdd, Int.reduceEq, Int.reduceLT, Int.reduceLE, Int.reduceGT, Int.reduceGE, beq_self_eq_true, List.getElem?_toArray, List.getElem?_cons_zero, List.getElem?_cons_succ, List.append_nil, List.nil_append, List.cons_append, List.append_eq, p1, p2, p3, h8, h5, h6, fa, fa', ld, ld']
              exact ⟨i - (k + 1), by omega, fD', mD', rD', h0, k + 1, rfl, by omega, by rw [wrapS (by omega)], hsucc (fun q => p3 (hnm2.1 q).2.2)⟩
            simp only [RS, xs_some, Option.bind_some, Option.map_some, if_true, if_false, decide_true, decide_false, true_and, and_true, Bool.not_true, Bool.not_false, Bool.false_eq_true, not_false_eq_true, not_true_eq_false, Nat.reduceLT, Nat.reduceBEq, Nat.reduceEqDiff, Nat.reduceAdd, Int.reduceEq, Int.reduceLT, Int.reduceLE, Int.reduceGT, Int.reduceGE, beq_self_eq_true, List.getElem?_toArray, List.getElem?_cons_zero, List.getElem?_cons_succ, List.append_nil, List.nil_append, List.cons_append, List.append_eq, p1, p2, p3, h8, h5, h6, fa, fa', ld, ld']
            exact ⟨fD', mD', .inr ⟨rfl, _, _, rfl, rfl, .inl ⟨rfl, k, i, _, rfl, rfl, by omega, hnm2.2 ⟨p1, p2, p3⟩, hsome, hnd⟩⟩⟩
          · have : k = i := by omega
            subst this
            simp only [RS, xs_some, Option.bind_some, Option.map_some, if_true, if_false, decide_true, decide_false, true_and, and_true, Bool.not_true, Bool.not_false, Bool.false_eq_true, not_false_eq_true, not_true_eq_false, Nat.reduceLT, Nat.reduceBEq, Nat.reduceEqDiff, Nat.reduceAdd, Int.reduceEq, Int.reduceLT, Int.reduceLE, Int.reduceGT, Int.reduceGE, beq_self_eq_true, List.getElem?_toArray, List.getElem?_cons_zero, List.getElem?_cons_succ, List.append_nil, List.nil_append, List.cons_append, List.append_eq]
            exact ⟨hf', hmB', .inl ⟨rfl, h0, h5, hno⟩⟩
        · rintro z e B' hz ⟨hf', hmB', ⟨rfl, h0, h5, hno⟩ | ⟨rfl, a, b, z2, z3, z4, htw⟩⟩
          · simp only [RS, xs_some, Option.bind_some, Option.map_some, if_true, if_false, decide_true, decide_false, true_and, and_true, Bool.not_true, Bool.not_false, Bool.false_eq_true, not_false_eq_true, not_true_eq_false, Nat.reduceLT, Nat.reduceBEq, Nat.reduceEqDiff, Nat.reduceAdd, Int.reduceEq, Int.reduceLT, Int.reduceLE, Int.reduceGT, Int.reduceGE, beq_self_eq_true, List.getElem?_toArray, List.getElem?_cons_zero, List.getElem?_cons_succ, List.append_nil, List.nil_append, List.cons_append, List.append_eq, h5, h0]
            exact ⟨list.length - (i + 1), by omega, hf', hmB', i + 1, rfl, by omega, by rw [wrapS (by omega)], noDup_succ hnd (fun j n hj q => by rw [hsome]; intro z; cases z; exact hno j hj q)⟩
          · simp only [RS, xs_some, Option.bind_some, Option.map_some, if_true, if_false, decide_true, decide_false, true_and, and_true, Bool.not_true, Bool.not_false, Bool.false_eq_true, not_false_eq_true, not_true_eq_false, Nat.reduceLT, Nat.reduceBEq, Nat.reduceEqDiff, Nat.reduceAdd, Int.reduceEq, Int.reduceLT, Int.reduceLE, Int.reduceGT, Int.reduceGE, beq_self_eq_true, List.getElem?_toArray, List.getElem?_cons_zero, List.getElem?_cons_succ, List.append_nil, List.nil_append, List.cons_append, List.append_eq]
            exact ⟨hf', .inr ⟨rfl, a, b, z2, z3, z4, htw⟩⟩
    · have : i = list.length := by omega
      subst this
      simp only [RS, xs_some, Option.bind_some, Option.map_some, if_true, if_false, decide_true, decide_false, true_and, and_true, Bool.not_true, Bool.not_false, Bool.false_eq_true, not_false_eq_true, not_true_eq_false, Nat.reduceLT, Nat.reduceBEq, Nat.reduceEqDiff, Nat.reduceAdd, Int.reduceEq, Int.reduceLT, Int.reduceLE, Int.reduceGT, Int.reduceGE, beq_self_eq_true, List.getElem?_toArray, List.getElem?_cons_zero, List.getElem?_cons_succ, List.append_nil, List.nil_append, List.cons_append, List.append_eq]
      exact ⟨hf, .inl ⟨rfl, hnd⟩⟩
  · rintro z e B hz ⟨hf, ⟨rfl, hnd⟩ | ⟨rfl, a, b, z2, z3, z4, htw⟩⟩
    · simp only [RS, xs_some, Option.bind_some, Option.map_some, if_true, if_false, decide_true, decide_false, true_and, and_true, Bool.not_true, Bool.not_false, Bool.false_eq_true, not_false_eq_true, not_true_eq_false, Nat.reduceLT, Nat.reduceBEq, Nat.reduceEqDiff, Nat.reduceAdd, Int.reduceEq, Int.reduceLT, Int.reduceLE, Int.reduceGT, Int.reduceGE, beq_self_eq_true, List.getElem?_toArray, List.getElem?_cons_zero, List.getElem?_cons_succ, List.append_nil, List.nil_append, List.cons_append, List.append_eq]
      exact ⟨hf, 0, 0, false, rfl, .inr ⟨rfl, rfl, rfl, hnd⟩⟩
    · simp only [RS, xs_some, Option.bind_some, Option.map_some, if_true, if_false, decide_true, decide_false, true_and, and_true, Bool.not_true, Bool.not_false, Bool.false_eq_true, not_false_eq_true, not_true_eq_false, Nat.reduceLT, Nat.reduceBEq, Nat.reduceEqDiff, Nat.reduceAdd, Int.reduceEq, Int.reduceLT, Int.reduceLE, Int.reduceGT, Int.reduceGE, beq_self_eq_true, List.getElem?_toArray, List.getElem?_cons_zero, List.getElem?_cons_succ, List.append_nil, List.nil_append, List.cons_append, List.append_eq, z2, z3, z4]
      exact ⟨hf, a, b, true, rfl, htw⟩
end Go.Sv.Try


namespace Go.Sv.Try
open Go Go.Proofs
set_option linter.unusedVariables false
set_option linter.unusedSimpArgs false

theorem bslT1 : bsl Try.prog 22 2 (some [(0, .snil), (1, .snil)]) = some (.newSl [.snil, .snil] 2 1) := by kernel_rfl
theorem bslT2 (b o n z : Nat) : bsl Try.prog 22 2 (some [(0, .sl b o n z), (1, .snil)]) = some (.newSl [.sl b o n z, .snil] 2 1) := by kernel_rfl
theorem bslT3 (b o n z : Nat) : bsl Try.prog 22 2 (some [(0, .snil), (1, .sl b o n z)]) = some (.newSl [.snil, .sl b o n z] 2 1) := by kernel_rfl
theorem bslT4 (b o n z b' o' n' z' : Nat) : bsl Try.prog 22 2 (some [(0, .sl b o n z), (1, .sl b' o' n' z')]) = some (.newSl [.sl b o n z, .sl b' o' n' z'] 2 1) := by kernel_rfl
theorem bslT {τ σ : Type} {E : Enc τ} {F : Enc σ} {m m' : Hp} {v w : V} {l : List τ} {l' : List σ} (h : Slc E m v l) (h' : Slc F m' w l') : bsl Try.prog 22 2 (some [(0, v), (1, w)]) = some (.newSl [v, w] 2 1) := by
  rcases h with ⟨rfl, rfl⟩ | ⟨b, o, c, rfl, _⟩ <;> rcases h' with ⟨rfl, rfl⟩ | ⟨b', o', c', rfl, _⟩
  · exact bslT1
  · exact bslT3 ..
  · exact bslT2 ..
  · exact bslT4 ..
theorem eqPt (a b c a' b' c' : Int) : evEq Try.prog 31 (.agg [.int .i64 a, .int .i64 b, .int .i64 c]) (.agg [.int .i64 a', .int .i64 b', .int .i64 c']) = some (a == a' && (b == b' && (c == c' && true))) := by kernel_rfl
set_option maxRecDepth 10000 in
set_option maxHeartbeats 16000000 in
theorem auditTwice_spec {m : Hp} {A : AS} {v hv : V} {list handed : List Bts} (hw : WF A) (hm : m.on A) (hma : m.le (arrHp A)) (h : Slc (eSl eU8) m v list) (h' : Slc (eSl eU8) m hv handed) (hl : list.length ≤ 1000000000000) (hl' : handed.length ≤ 1000000000000) :
    ∃ w A', EvF Try.prog HH 12 [v, hv] A w A' ∧ w = .bool true := by
  refine run_fn2 rfl Try.func12 (by unfold Try.f12; rfl) Try.ntmps12 (by unfold Try.f12; rfl) (by simp) ?_
  simp only [RS, xs_some, Option.bind_some, Option.map_some, if_true, if_false, decide_true, decide_false, true_and, and_true, Bool.not_true, Bool.not_false, Bool.false_eq_true, not_false_eq_true, not_true_eq_false, Nat.reduceLT, Nat.reduceBEq, Nat.reduceEqDiff, Nat.reduceAdd, Int.reduceEq, Int.reduceLT, Int.reduceLE, Int.reduceGT, Int.reduceGE, beq_self_eq_true, List.getElem?_toArray, List.getElem?_cons_zero, List.getElem?_cons_succ, List.append_nil, List.nil_append, List.cons_append, List.append_eq]
  refine run_call1 (evF_ground rfl) ?_
  simp only [RS, xs_some, Option.bind_some, Option.map_some, if_true, if_false, decide_true, decide_false, true_and, and_true, Bool.not_true, Bool.not_false, Bool.false_eq_true, not_false_eq_true, not_true_eq_false, Nat.reduceLT, Nat.reduceBEq, Nat.reduceEqDiff, Nat.reduceAdd, Int.reduceEq, Int.reduceLT, Int.reduceLE, Int.reduceGT, Int.reduceGE, beq_self_eq_true, List.getElem?_toArray, List.getElem?_cons_zero, List.getElem?_cons_succ, List.append_nil, List.nil_append, List.cons_append, List.append_eq, bslT h h']
  have q1 := Fr.pushArr A [v, hv]
  have rP := push_row A ⟨[v, hv], .arr A.blk.length 0⟩
  have hs : Slc (eSl (eSl eU8)) (arrHp (A.push ⟨[v, hv], .arr A.blk.length 0⟩)) (.sl A.blk.length 0 2 1) [list, handed] := by
    have hle : m.le (arrHp (A.push ⟨[v, hv], .arr A.blk.length 0⟩)) := fun b cs q => arrHp_le q1 (fun b q => q.elim) b cs (hma b cs q)
    refine .inr ⟨A.blk.length, 0, [v, hv], rfl, by unfold arrHp; rw [rP], by simp [eSl], fun i x hx => ?_⟩
    match i, hx with
    | 0, hx => cases hx; exact ⟨v, rfl, h.mono hle⟩
    | 1, hx => cases hx; exact ⟨hv, rfl, h'.mono hle⟩
    | n + 2, hx => simp at hx
  obtain ⟨A1, hA1⟩ : ∃ B, B = A.push ⟨[v, hv], .arr A.blk.length 0⟩ := ⟨_, rfl⟩
  rw [← hA1] at q1 hs ⊢
  have w1 := q1.wf hw
  have m1 := hm.fr0 q1
  obtain ⟨w, k1, r, rfl, k2⟩ := few_spec (arrHp_on A1) hs (by simp) (fun x q => by simp at q; rcases q with rfl | rfl <;> assumption)
  refine run_call1 k1 ?_
  cases r with
  | false => simp only [RS, xs_some, Option.bind_some, Option.map_some, if_true, if_false, decide_true, decide_false, true_and, and_true, Bool.not_true, Bool.not_false, Bool.false_eq_true, not_false_eq_true, not_true_eq_false, Nat.reduceLT, Nat.reduceBEq, Nat.reduceEqDiff, Nat.reduceAdd, Int.reduceEq, Int.reduceLT, Int.reduceLE, Int.reduceGT, Int.reduceGE, beq_self_eq_true, List.getElem?_toArray, List.getElem?_cons_zero, List.getElem?_cons_succ, List.append_nil, List.nil_append, List.cons_append, List.append_eq]
  | true =>
    obtain ⟨-, k3⟩ := k2 rfl
    obtain ⟨l1, l2⟩ := k3 list (by simp)
    obtain ⟨l3, l4⟩ := k3 handed (by simp)
    have l2 : ∀ b ∈ list, b.length ≤ 1000000 := fun b q => by have := l2 b q; omega
    have l4 : ∀ b ∈ handed, b.length ≤ 1000000 := fun b q => by have := l4 b q; omega
    simp only [RS, xs_some, Option.bind_some, Option.map_some, if_true, if_false, decide_true, decide_false, true_and, and_true, Bool.not_true, Bool.not_false, Bool.false_eq_true, not_false_eq_true, not_true_eq_false, Nat.reduceLT, Nat.reduceBEq, Nat.reduceEqDiff, Nat.reduceAdd, Int.reduceEq, Int.reduceLT, Int.reduceLE, Int.reduceGT, Int.reduceGE, beq_self_eq_true, List.getElem?_toArray, List.getElem?_cons_zero, List.getElem?_cons_succ, List.append_nil, List.nil_append, List.cons_append, List.append_eq]
    obtain ⟨w, A2, p1, p2, a, b, ok, rfl, p3⟩ := twice_spec w1 m1 h (by omega) l2
    refine run_call1 p1 ?_
    simp only [RS, xs_some, Option.bind_some, Option.map_some, if_true, if_false, decide_true, decide_false, true_and, and_true, Bool.not_true, Bool.not_false, Bool.false_eq_true, not_false_eq_true, not_true_eq_false, Nat.reduceLT, Nat.reduceBEq, Nat.reduceEqDiff, Nat.reduceAdd, Int.reduceEq, Int.reduceLT, Int.reduceLE, Int.reduceGT, Int.reduceGE, beq_self_eq_true, List.getElem?_toArray, List.getElem?_cons_zero, List.getElem?_cons_succ, List.append_nil, List.nil_append, List.cons_append, List.append_eq, zc31]
    obtain ⟨A3, t1, t2, t3, t4⟩ := new_set (P := Try.prog) A2 (z := [.int .i64 0, .int .i64 0, .int .i64 0]) (t := 31) (x := .agg [.int .i64 a, .int .i64 b, .int .i64 0]) (cs := [.int .i64 a, .int .i64 b, .int .i64 0]) rfl sz31 rfl rfl
    have f3 := p2.then0 t2
    simp only [RS, xs_some, Option.bind_some, Option.map_some, if_true, if_false, decide_true, decide_false, true_and, and_true, Bool.not_true, Bool.not_false, Bool.false_eq_true, not_false_eq_true, not_true_eq_false, Nat.reduceLT, Nat.reduceBEq, Nat.reduceEqDiff, Nat.reduceAdd, Int.reduceEq, Int.reduceLT, Int.reduceLE, Int.reduceGT, Int.reduceGE, beq_self_eq_true, List.getElem?_toArray, List.getElem?_cons_zero, List.getElem?_cons_succ, List.append_nil, List.nil_append, List.cons_append, List.append_eq, t1]
    obtain ⟨w, A4, u1, u2, a', b', ok', rfl, u3⟩ := refTwice_spec (f3.wf w1) (m1.fr0 f3) h (by omega) l2
    have r4 := u2.row0 t3
    refine run_call1 u1 ?_
    have f4 := f3.then0 u2
    have m4 := m1.fr0 f4
    obtain ⟨w, A5, g1, g2, n, okf, rfl, g3⟩ := foreign_spec m4 h h' (by omega) (by omega)
    have r5 := g2.row0 r4
    have f5 := f4.then0 g2
    simp only [RS, xs_some, Option.bind_some, Option.map_some, if_true, if_false, decide_true, decide_false, true_and, and_true, Bool.not_true, Bool.not_false, Bool.false_eq_true, not_false_eq_true, not_true_eq_false, Nat.reduceLT, Nat.reduceBEq, Nat.reduceEqDiff, Nat.reduceAdd, Int.reduceEq, Int.reduceLT, Int.reduceLE, Int.reduceGT, Int.reduceGE, beq_self_eq_true, List.getElem?_toArray, List.getElem?_cons_zero, List.getElem?_cons_succ, List.append_nil, List.nil_append, List.cons_append, List.append_eq]
    refine run_call1 g1 ?_
    obtain ⟨w, x1, n', okf', rfl, x3⟩ := refForeign_spec (m1.fr0 f5) h h' (by omega) (by omega)
    simp only [RS, xs_some, Option.bind_some, Option.map_some, if_true, if_false, decide_true, decide_false, true_and, and_true, Bool.not_true, Bool.not_false, Bool.false_eq_true, not_false_eq_true, not_true_eq_false, Nat.reduceLT, Nat.reduceBEq, Nat.reduceEqDiff, Nat.reduceAdd, Int.reduceEq, Int.reduceLT, Int.reduceLE, Int.reduceGT, Int.reduceGE, beq_self_eq_true, List.getElem?_toArray, List.getElem?_cons_zero, List.getElem?_cons_succ, List.append_nil, List.nil_append, List.cons_append, List.append_eq]
    refine run_call1 x1 ?_
    obtain ⟨rfl, rfl, rfl⟩ := twRes_one p3 u3
    obtain ⟨rfl, rfl⟩ := forRes_one g3 x3
    have ld := ld_cells (P := Try.prog) ag31 sz31 r5 rfl
    simp only [RS, xs_some, Option.bind_some, Option.map_some, if_true, if_false, decide_true, decide_false, true_and, and_true, Bool.not_true, Bool.not_false, Bool.false_eq_true, not_false_eq_true, not_true_eq_false, Nat.reduceLT, Nat.reduceBEq, Nat.reduceEqDiff, Nat.reduceAdd, Int.reduceEq, Int.reduceLT, Int.reduceLE, Int.reduceGT, Int.reduceGE, beq_self_eq_true, List.getElem?_toArray, List.getElem?_cons_zero, List.getElem?_cons_succ, List.append_nil, List.nil_append, List.cons_append, List.append_eq, eq_bool Try.underlying4, ld, bldP2, eqPt, Bool.and_self]
end Go.Sv.Try
