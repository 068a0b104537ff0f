/- More laws of messages that go through bytes and back. -/
import Derived.Test.YtnogkphkjkbbhaaLaws
namespace Go.Sv.Try
open Go Go.Proofs
set_option linter.unusedVariables false
set_option linter.unusedSimpArgs false

theorem rc_conv_g {P : Program} {ops : Array Oper} {e : Env} {A : AS} {q d a j dj : Nat} {w : Bool} {r : List Nat} {s t : TypeId} {ty : TypeId} {pos : String} {after : Array Edge} {v u : V} (ho : ops[q]? = some ⟨some d, .convert s t (.tmp a), ty, pos, after, some (j, w)⟩)
    (hj : (ops[j]?).bind (·.dst) = some dj) (hb : e.get dj = .bool w) (ha : e.get a = u) (hv : cnv P s t (some u) A = some (.val v)) (hd : e.get d = v) (hr : recheck P ops e A r = true) : recheck P ops e A (q :: r) = true := by
  unfold recheck
  simp only [ho, wantedV, hj, hb, beq_self_eq_true, q_conv, ev_tmp, ha, hv, hd, V.beq_same, hr, Bool.and_self]
theorem rc_skip_g {P : Program} {ops : Array Oper} {e : Env} {A : AS} {q j dj : Nat} {w b : Bool} {r : List Nat} {o : Oper} (ho : ops[q]? = some o) (hg : o.guard = some (j, w))
    (hj : (ops[j]?).bind (·.dst) = some dj) (hb : e.get dj = .bool b) (hne : (b == w) = false) (hr : recheck P ops e A r = true) : recheck P ops e A (q :: r) = true := by
  unfold recheck
  simp only [ho, wantedV, hg, hj, hb, hne, hr, Bool.and_self]

set_option maxRecDepth 10000 in
set_option maxHeartbeats 16000000 in
theorem packOneWay_spec {m : Hp} {A : AS} {x y : Go.Sv.M} {dv iv lv dw iw lw bv : V} {b : Bts} (hw : WF A) (hm : m.on A) (hle : m.le (arrHp A)) (h : MsgIn m x dv iv lv) (hz : Sized x) (h' : MsgIn m y dw iw lw) (hz' : Sized y) (hb : Slc eU8 m bv b) (hbl : b.length ≤ 1000000000000)
    (hx1 : x.ids.length ≤ 9223372036854775806) (hx2 : x.list.length ≤ 9223372036854775806) :
    ∃ w A', EvF Try.prog HH 7 [.agg (mc x dv iv lv), .agg (mc y dw iw lw), bv] A w A' ∧ w = .bool true := by
  refine run_fn2 rfl Try.func7 (by unfold Try.f7; rfl) Try.ntmps7 (by unfold Try.f7; rfl) (by simp) ?_
  simp only [RS, xs_some, Option.bind_some, Option.map_some, if_true, if_false, decide_true, decide_false, true_and, and_true, Bool.not_true, Bool.not_false, Bool.false_eq_true, not_false_eq_true, not_true_eq_false, Nat.reduceLT, Nat.reduceBEq, Nat.reduceEqDiff, Nat.reduceAdd, Int.reduceEq, Int.reduceLT, Int.reduceLE, Int.reduceGT, Int.reduceGE, beq_self_eq_true, List.getElem?_toArray, List.getElem?_cons_zero, List.getElem?_cons_succ, List.append_nil, List.nil_append, List.cons_append, List.append_eq]
  obtain ⟨A1, e1, f1, r1, n1⟩ := new_var A (mc x dv iv lv)
  rw [← e1]
  obtain ⟨A2, e2, f2, r2, n2⟩ := new_var A1 (mc y dw iw lw)
  rw [← e2]
  refine run_call1 (evF_ground rfl) ?_
  have fA2 := f1.then0 f2
  have r1 := f2.row0 r1
  have ld1 : ∀ {C}, Fr S0 A2 C → _ := fun {C} (q : Fr S0 A2 C) => ldM (q.row0 r1) h.id
  have ld2 : ∀ {C}, Fr S0 A2 C → _ := fun {C} (q : Fr S0 A2 C) => ldM (q.row0 r2) h'.id
  have lda := ld1 (.refl S0 A2)
  simp only [RS, xs_some, Option.bind_some, Option.map_some, if_true, if_false, decide_true, decide_false, true_and, and_true, Bool.not_true, Bool.not_false, Bool.false_eq_true, not_false_eq_true, not_true_eq_false, Nat.reduceLT, Nat.reduceBEq, Nat.reduceEqDiff, Nat.reduceAdd, Int.reduceEq, Int.reduceLT, Int.reduceLE, Int.reduceGT, Int.reduceGE, beq_self_eq_true, List.getElem?_toArray, List.getElem?_cons_zero, List.getElem?_cons_succ, List.append_nil, List.nil_append, List.cons_append, List.append_eq, lda]
  obtain ⟨w, A3, k1, k2, v, rfl, k3, k4⟩ := write_spec (fA2.wf hw) (hm.fr0 fA2) h hz
  refine run_call1 k1 ?_
  have ldb := ld2 k2
  have fA3 := fA2.then0 k2
  simp only [RS, xs_some, Option.bind_some, Option.map_some, if_true, if_false, decide_true, decide_false, true_and, and_true, Bool.not_true, Bool.not_false, Bool.false_eq_true, not_false_eq_true, not_true_eq_false, Nat.reduceLT, Nat.reduceBEq, Nat.reduceEqDiff, Nat.reduceAdd, Int.reduceEq, Int.reduceLT, Int.reduceLE, Int.reduceGT, Int.reduceGE, beq_self_eq_true, List.getElem?_toArray, List.getElem?_cons_zero, List.getElem?_cons_succ, List.append_nil, List.nil_append, List.cons_append, List.append_eq, ldb]
  obtain ⟨w, A4, u1, u2, v', rfl, u3, u4⟩ := write_spec (fA3.wf hw) (hm.fr0 fA3) h' hz'
  refine run_call1 u1 ?_
  have f4 := k2.then0 u2
  -- the end: reading what comes in
  have tail : ∀ (C : AS), Fr S0 A2 C → ∃ (dv1 iv1 lv1 : V) (D E : AS), EvF Try.prog HH 30 [bv] C (.tup [.agg (mc (readMsg b) dv1 iv1 lv1), .int .i64 (readErr b)]) D ∧
      evStore Try.prog 41 (.ptr D.blk.length 0) (.agg (mc (readMsg b) dv1 iv1 lv1)) (D.push ⟨mcZ, .var⟩) = some E ∧ evLoad Try.prog 41 (.ptr D.blk.length 0) E = some (.agg (mc (readMsg b) dv1 iv1 lv1)) ∧
      (readErr b ≠ 0 → ∃ G, EvF Try.prog HH 32 [.agg (mc (readMsg b) dv1 iv1 lv1), .agg mcZ] E (.bool true) G) ∧
      (readErr b = 0 → ∃ v9 G, EvF Try.prog HH 23 [.agg (mc (readMsg b) dv1 iv1 lv1)] E (.tup [v9, .int .i64 0]) G ∧ cnv Try.prog 38 9 (some v9) G = some (.val (.str b)) ∧ cnv Try.prog 38 9 (some bv) G = some (.val (.str b))) := by
    intro C hC
    have fC := fA2.then0 hC
    obtain ⟨w, D, q1, q2, dv1, iv1, lv1, rfl, q3⟩ := read_spec (fC.wf hw) (hm.fr0 fC) hb hbl
    obtain ⟨E, s1, s2, s3⟩ := new_msg (A := D) q3
    have ldE := (ldM s3 q3.id).2.2.2.2.2.2.2.2.2.2
    have hE : MsgIn (arrHp E) (readMsg b) dv1 iv1 lv1 := q3.mono (arrHp_le s2 fun b q => q.elim)
    have hsz := readMsg_sz b
    have fE := (fC.then0 q2).then0 s2
    refine ⟨dv1, iv1, lv1, D, E, q1, s1, ldE, fun hne => ?_, fun h0 => ?_⟩
    · obtain ⟨w, G, z1, z2, r, rfl, z3⟩ := same_spec (x := readMsg b) (y := msg0 0) (arrHp_on E) hE msgIn0 (by simp only [szM] at hsz; omega) (by simp only [szM] at hsz; omega)
      have : r = true := z3.2 (rd_bad hne)
      subst this
      exact ⟨G, z1⟩
    · obtain ⟨z, hz0⟩ := readErr_ne.1 h0
      obtain ⟨e2, _⟩ := rd_ok hz0
      obtain ⟨e3, e4, _⟩ := write_read hz0
      have hszd : Sized (readMsg b) := ⟨by simp only [szM] at hsz; omega, by simp only [szM] at hsz; omega, by simp only [szM] at hsz; omega, fun c hc => by have := len_le_lens hc; simp only [szM] at hsz; omega⟩
      obtain ⟨w, G, z1, z2, v9, rfl, z3, z4⟩ := write_spec (fE.wf hw) (arrHp_on E) hE hszd
      rw [e2] at z1 z4
      rw [e4] at z1
      have own := z4 e4
      rw [e3] at own
      refine ⟨v9, G, by rw [e2]; exact z1, ?_, ?_⟩
      · exact cnv_text (by decide) own.arrBts (arrHp_on G) Try.underlying38 Try.underlying5 Try.underlying9
      · exact cnv_text (by decide) hb (hm.fr0 (fE.then0 z2)) Try.underlying38 Try.underlying5 Try.underlying9
  simp only [RS, xs_some, Option.bind_some, Option.map_some, if_true, if_false, decide_true, decide_false, true_and, and_true, Bool.not_true, Bool.not_false, Bool.false_eq_true, not_false_eq_true, not_true_eq_false, Nat.reduceLT, Nat.reduceBEq, Nat.reduceEqDiff, Nat.reduceAdd, Int.reduceEq, Int.reduceLT, Int.reduceLE, Int.reduceGT, Int.reduceGE, beq_self_eq_true, List.getElem?_toArray, List.getElem?_cons_zero, List.getElem?_cons_succ, List.append_nil, List.nil_append, List.cons_append, List.append_eq]
  refine condK_of (fun g => ?_) (fun g => ?_)
  rotate_left
  · obtain ⟨dv1, iv1, lv1, D, E, q1, q2, q3, q4, q5⟩ := tail A4 f4
    simp only [RS, xs_some, Option.bind_some, Option.map_some, if_true, if_false, decide_true, decide_false, true_and, and_true, Bool.not_true, Bool.not_false, Bool.false_eq_true, not_false_eq_true, not_true_eq_false, Nat.reduceLT, Nat.reduceBEq, Nat.reduceEqDiff, Nat.reduceAdd, Int.reduceEq, Int.reduceLT, Int.reduceLE, Int.reduceGT, Int.reduceGE, beq_self_eq_true, List.getElem?_toArray, List.getElem?_cons_zero, List.getElem?_cons_succ, List.append_nil, List.nil_append, List.cons_append, List.append_eq]
    refine run_call1 q1 ?_
    simp only [RS, xs_some, Option.bind_some, Option.map_some, if_true, if_false, decide_true, decide_false, true_and, and_true, Bool.not_true, Bool.not_false, Bool.false_eq_true, not_false_eq_true, not_true_eq_false, Nat.reduceLT, Nat.reduceBEq, Nat.reduceEqDiff, Nat.reduceAdd, Int.reduceEq, Int.reduceLT, Int.reduceLE, Int.reduceGT, Int.reduceGE, beq_self_eq_true, List.getElem?_toArray, List.getElem?_cons_zero, List.getElem?_cons_succ, List.append_nil, List.nil_append, List.cons_append, List.append_eq, zcM, q2]
    refine condK_of (fun g2 => ?_) (fun g2 => ?_)
    · obtain ⟨G, z1⟩ := q4 g2
      simp only [RS, xs_some, Option.bind_some, Option.map_some, if_true, if_false, decide_true, decide_false, true_and, and_true, Bool.not_true, Bool.not_false, Bool.false_eq_true, not_false_eq_true, not_true_eq_false, Nat.reduceLT, Nat.reduceBEq, Nat.reduceEqDiff, Nat.reduceAdd, Int.reduceEq, Int.reduceLT, Int.reduceLE, Int.reduceGT, Int.reduceGE, beq_self_eq_true, List.getElem?_toArray, List.getElem?_cons_zero, List.getElem?_cons_succ, List.append_nil, List.nil_append, List.cons_append, List.append_eq, q3, bldM0]
      refine run_call1 z1 ?_
      simp only [RS, xs_some, Option.bind_some, Option.map_some, if_true, if_false, decide_true, decide_false, true_and, and_true, Bool.not_true, Bool.not_false, Bool.false_eq_true, not_false_eq_true, not_true_eq_false, Nat.reduceLT, Nat.reduceBEq, Nat.reduceEqDiff, Nat.reduceAdd, Int.reduceEq, Int.reduceLT, Int.reduceLE, Int.reduceGT, Int.reduceGE, beq_self_eq_true, List.getElem?_toArray, List.getElem?_cons_zero, List.getElem?_cons_succ, List.append_nil, List.nil_append, List.cons_append, List.append_eq]
    · obtain ⟨v9, G, z1, z2, z3⟩ := q5 (by omega)
      simp only [RS, xs_some, Option.bind_some, Option.map_some, if_true, if_false, decide_true, decide_false, true_and, and_true, Bool.not_true, Bool.not_false, Bool.false_eq_true, not_false_eq_true, not_true_eq_false, Nat.reduceLT, Nat.reduceBEq, Nat.reduceEqDiff, Nat.reduceAdd, Int.reduceEq, Int.reduceLT, Int.reduceLE, Int.reduceGT, Int.reduceGE, beq_self_eq_true, List.getElem?_toArray, List.getElem?_cons_zero, List.getElem?_cons_succ, List.append_nil, List.nil_append, List.cons_append, List.append_eq, q3]
      refine run_call1 z1 ?_
      simp only [RS, xs_some, Option.bind_some, Option.map_some, if_true, if_false, decide_true, decide_false, true_and, and_true, Bool.not_true, Bool.not_false, Bool.false_eq_true, not_false_eq_true, not_true_eq_false, Nat.reduceLT, Nat.reduceBEq, Nat.reduceEqDiff, Nat.reduceAdd, Int.reduceEq, Int.reduceLT, Int.reduceLE, Int.reduceGT, Int.reduceGE, beq_self_eq_true, List.getElem?_toArray, List.getElem?_cons_zero, List.getElem?_cons_succ, List.append_nil, List.nil_append, List.cons_append, List.append_eq, z2, z3]
  have hok := okM_of g
  have own := (k4 g).fr0 u2
  have hrd := read_write hok (wf_of h)
  obtain ⟨hm1, hm2⟩ := rd_ok hrd
  have hwl := writeB_len h hok
  have fA4 := fA2.then0 f4
  obtain ⟨w, A5, p1, p2, dv1, iv1, lv1, rfl, p3⟩ := read_spec (fA4.wf hw) (arrHp_on A4) own.arrBts (by omega)
  rw [hm1, hm2] at p1
  rw [hm1] at p3
  obtain ⟨A6, s1, s2, s3⟩ := new_msg (A := A5) p3
  have f6 := (f4.then0 p2).then0 s2
  have fA6 := fA2.then0 f6
  have ldx := ld1 f6
  have ldn := ldM s3 p3.id
  have hx6 : MsgIn (arrHp A6) x dv iv lv := (h.mono hle).mono (arrHp_le fA6 fun b q => q.elim)
  have hn6 : MsgIn (arrHp A6) x dv1 iv1 lv1 := p3.mono (arrHp_le s2 fun b q => q.elim)
  obtain ⟨w, A7, y1, y2, r, rfl, y3⟩ := same_spec (arrHp_on A6) hn6 hx6 hx1 hx2
  have hr : r = true := y3.2 rfl
  subst hr
  have f7 := f6.then0 y2
  simp only [RS, xs_some, Option.bind_some, Option.map_some, if_true, if_false, decide_true, decide_false, true_and, and_true, Bool.not_true, Bool.not_false, Bool.false_eq_true, not_false_eq_true, not_true_eq_false, Nat.reduceLT, Nat.reduceBEq, Nat.reduceEqDiff, Nat.reduceAdd, Int.reduceEq, Int.reduceLT, Int.reduceLE, Int.reduceGT, Int.reduceGE, beq_self_eq_true, List.getElem?_toArray, List.getElem?_cons_zero, List.getElem?_cons_succ, List.append_nil, List.nil_append, List.cons_append, List.append_eq]
  refine run_call1 p1 ?_
  simp only [RS, xs_some, Option.bind_some, Option.map_some, if_true, if_false, decide_true, decide_false, true_and, and_true, Bool.not_true, Bool.not_false, Bool.false_eq_true, not_false_eq_true, not_true_eq_false, Nat.reduceLT, Nat.reduceBEq, Nat.reduceEqDiff, Nat.reduceAdd, Int.reduceEq, Int.reduceLT, Int.reduceLE, Int.reduceGT, Int.reduceGE, beq_self_eq_true, List.getElem?_toArray, List.getElem?_cons_zero, List.getElem?_cons_succ, List.append_nil, List.nil_append, List.cons_append, List.append_eq, zcM, s1, ldx, ldn]
  refine run_call1 y1 ?_
  simp only [RS, xs_some, Option.bind_some, Option.map_some, if_true, if_false, decide_true, decide_false, true_and, and_true, Bool.not_true, Bool.not_false, Bool.false_eq_true, not_false_eq_true, not_true_eq_false, Nat.reduceLT, Nat.reduceBEq, Nat.reduceEqDiff, Nat.reduceAdd, Int.reduceEq, Int.reduceLT, Int.reduceLE, Int.reduceGT, Int.reduceGE, beq_self_eq_true, List.getElem?_toArray, List.getElem?_cons_zero, List.getElem?_cons_succ, List.append_nil, List.nil_append, List.cons_append, List.append_eq]
  by_cases g2 : checkM y = 0
  · have own' := u4 g2
    have okY := okM_of g2
    have tx : ∀ {C : AS}, Fr S0 A4 C → cnv Try.prog 38 9 (some v) C = some (.val (.str (writeB x))) := fun q => cnv_text (by decide) (own.fr0 q).arrBts (arrHp_on _) Try.underlying38 Try.underlying5 Try.underlying9
    have ty : ∀ {C : AS}, Fr S0 A4 C → cnv Try.prog 38 9 (some v') C = some (.val (.str (writeB y))) := fun q => cnv_text (by decide) (own'.fr0 q).arrBts (arrHp_on _) Try.underlying38 Try.underlying5 Try.underlying9
    have f47 : Fr S0 A4 A7 := (p2.then0 s2).then0 y2
    have fA7 := fA2.then0 f7
    have hx7 : MsgIn (arrHp A7) x dv iv lv := (h.mono hle).mono (arrHp_le fA7 fun b q => q.elim)
    have hy7 : MsgIn (arrHp A7) y dw iw lw := (h'.mono hle).mono (arrHp_le fA7 fun b q => q.elim)
    obtain ⟨w, A8, z1, z2, r, rfl, z3⟩ := same_spec (arrHp_on A7) hx7 hy7 hx1 hx2
    have lx7 := ld1 f7
    have ly7 := ld2 f7
    have hiff : decide (writeB x = writeB y) = r := by
      cases r with
      | true => have := z3.1 rfl; subst this; simp
      | false =>
        have : ¬ x = y := fun q => by have := z3.2 q; simp at this
        simp only [decide_eq_false_iff_not]
        exact fun q => this (writeB_inj hok okY (wf_of h) (wf_of h') q)
    have hne : evEq Try.prog 4 (.bool (decide (writeB x = writeB y))) (.bool r) = some true := by rw [eq_bool Try.underlying4, hiff]; simp
    obtain ⟨dv9, iv9, lv9, D, E, q1, q2, q3, q4, q5⟩ := tail A8 (f7.then0 z2)
    simp only [RS, xs_some, Option.bind_some, Option.map_some, if_true, if_false, decide_true, decide_false, true_and, and_true, Bool.not_true, Bool.not_false, Bool.false_eq_true, not_false_eq_true, not_true_eq_false, Nat.reduceLT, Nat.reduceBEq, Nat.reduceEqDiff, Nat.reduceAdd, Int.reduceEq, Int.reduceLT, Int.reduceLE, Int.reduceGT, Int.reduceGE, beq_self_eq_true, List.getElem?_toArray, List.getElem?_cons_zero, List.getElem?_cons_succ, List.append_nil, List.nil_append, List.cons_append, List.append_eq, pl_7_9, g2, tx f47, ty f47, lx7, ly7, rc_nil]
    refine run_call1 z1 ?_
    simp only [RS, xs_some, Option.bind_some, Option.map_some, if_true, if_false, decide_true, decide_false, true_and, and_true, Bool.not_true, Bool.not_false, Bool.false_eq_true, not_false_eq_true, not_true_eq_false, Nat.reduceLT, Nat.reduceBEq, Nat.reduceEqDiff, Nat.reduceAdd, Int.reduceEq, Int.reduceLT, Int.reduceLE, Int.reduceGT, Int.reduceGE, beq_self_eq_true, List.getElem?_toArray, List.getElem?_cons_zero, List.getElem?_cons_succ, List.append_nil, List.nil_append, List.cons_append, List.append_eq, g2, rc_nil]
    refine ⟨rc_conv_g rfl rfl rfl (ha := rfl) (tx (f47.then0 z2)) rfl (rc_conv_g rfl rfl rfl (ha := rfl) (ty (f47.then0 z2)) rfl rc_nil), ?_⟩
    simp only [RS, xs_some, Option.bind_some, Option.map_some, if_true, if_false, decide_true, decide_false, true_and, and_true, Bool.not_true, Bool.not_false, Bool.false_eq_true, not_false_eq_true, not_true_eq_false, Nat.reduceLT, Nat.reduceBEq, Nat.reduceEqDiff, Nat.reduceAdd, Int.reduceEq, Int.reduceLT, Int.reduceLE, Int.reduceGT, Int.reduceGE, beq_self_eq_true, List.getElem?_toArray, List.getElem?_cons_zero, List.getElem?_cons_succ, List.append_nil, List.nil_append, List.cons_append, List.append_eq, g2, hne, rc_nil]
    refine run_call1 q1 ?_
    simp only [RS, xs_some, Option.bind_some, Option.map_some, if_true, if_false, decide_true, decide_false, true_and, and_true, Bool.not_true, Bool.not_false, Bool.false_eq_true, not_false_eq_true, not_true_eq_false, Nat.reduceLT, Nat.reduceBEq, Nat.reduceEqDiff, Nat.reduceAdd, Int.reduceEq, Int.reduceLT, Int.reduceLE, Int.reduceGT, Int.reduceGE, beq_self_eq_true, List.getElem?_toArray, List.getElem?_cons_zero, List.getElem?_cons_succ, List.append_nil, List.nil_append, List.cons_append, List.append_eq, zcM, q2]
    refine condK_of (fun g2 => ?_) (fun g2 => ?_)
    · obtain ⟨G, z1⟩ := q4 g2
      simp only [RS, xs_some, Option.bind_some, Option.map_some, if_true, if_false, decide_true, decide_false, true_and, and_true, Bool.not_true, Bool.not_false, Bool.false_eq_true, not_false_eq_true, not_true_eq_false, Nat.reduceLT, Nat.reduceBEq, Nat.reduceEqDiff, Nat.reduceAdd, Int.reduceEq, Int.reduceLT, Int.reduceLE, Int.reduceGT, Int.reduceGE, beq_self_eq_true, List.getElem?_toArray, List.getElem?_cons_zero, List.getElem?_cons_succ, List.append_nil, List.nil_append, List.cons_append, List.append_eq, q3, bldM0]
      refine run_call1 z1 ?_
      simp only [RS, xs_some, Option.bind_some, Option.map_some, if_true, if_false, decide_true, decide_false, true_and, and_true, Bool.not_true, Bool.not_false, Bool.false_eq_true, not_false_eq_true, not_true_eq_false, Nat.reduceLT, Nat.reduceBEq, Nat.reduceEqDiff, Nat.reduceAdd, Int.reduceEq, Int.reduceLT, Int.reduceLE, Int.reduceGT, Int.reduceGE, beq_self_eq_true, List.getElem?_toArray, List.getElem?_cons_zero, List.getElem?_cons_succ, List.append_nil, List.nil_append, List.cons_append, List.append_eq]
    · obtain ⟨v9, G, z1, z2, z3⟩ := q5 (by omega)
      simp only [RS, xs_some, Option.bind_some, Option.map_some, if_true, if_false, decide_true, decide_false, true_and, and_true, Bool.not_true, Bool.not_false, Bool.false_eq_true, not_false_eq_true, not_true_eq_false, Nat.reduceLT, Nat.reduceBEq, Nat.reduceEqDiff, Nat.reduceAdd, Int.reduceEq, Int.reduceLT, Int.reduceLE, Int.reduceGT, Int.reduceGE, beq_self_eq_true, List.getElem?_toArray, List.getElem?_cons_zero, List.getElem?_cons_succ, List.append_nil, List.nil_append, List.cons_append, List.append_eq, q3]
      refine run_call1 z1 ?_
      simp only [RS, xs_some, Option.bind_some, Option.map_some, if_true, if_false, decide_true, decide_false, true_and, and_true, Bool.not_true, Bool.not_false, Bool.false_eq_true, not_false_eq_true, not_true_eq_false, Nat.reduceLT, Nat.reduceBEq, Nat.reduceEqDiff, Nat.reduceAdd, Int.reduceEq, Int.reduceLT, Int.reduceLE, Int.reduceGT, Int.reduceGE, beq_self_eq_true, List.getElem?_toArray, List.getElem?_cons_zero, List.getElem?_cons_succ, List.append_nil, List.nil_append, List.cons_append, List.append_eq, z2, z3]
  · obtain ⟨dv9, iv9, lv9, D, E, q1, q2, q3, q4, q5⟩ := tail A7 f7
    simp only [RS, xs_some, Option.bind_some, Option.map_some, if_true, if_false, decide_true, decide_false, true_and, and_true, Bool.not_true, Bool.not_false, Bool.false_eq_true, not_false_eq_true, not_true_eq_false, Nat.reduceLT, Nat.reduceBEq, Nat.reduceEqDiff, Nat.reduceAdd, Int.reduceEq, Int.reduceLT, Int.reduceLE, Int.reduceGT, Int.reduceGE, beq_self_eq_true, List.getElem?_toArray, List.getElem?_cons_zero, List.getElem?_cons_succ, List.append_nil, List.nil_append, List.cons_append, List.append_eq, pl_7_9, g2, rc_nil]
    refine ⟨rc_skip_g rfl rfl rfl rfl rfl (rc_skip_g rfl rfl rfl rfl rfl rc_nil), ?_⟩
    refine run_call1 q1 ?_
    simp only [RS, xs_some, Option.bind_some, Option.map_some, if_true, if_false, decide_true, decide_false, true_and, and_true, Bool.not_true, Bool.not_false, Bool.false_eq_true, not_false_eq_true, not_true_eq_false, Nat.reduceLT, Nat.reduceBEq, Nat.reduceEqDiff, Nat.reduceAdd, Int.reduceEq, Int.reduceLT, Int.reduceLE, Int.reduceGT, Int.reduceGE, beq_self_eq_true, List.getElem?_toArray, List.getElem?_cons_zero, List.getElem?_cons_succ, List.append_nil, List.nil_append, List.cons_append, List.append_eq, zcM, q2]
    refine condK_of (fun g2 => ?_) (fun g2 => ?_)
    · obtain ⟨G, z1⟩ := q4 g2
      simp only [RS, xs_some, Option.bind_some, Option.map_some, if_true, if_false, decide_true, decide_false, true_and, and_true, Bool.not_true, Bool.not_false, Bool.false_eq_true, not_false_eq_true, not_true_eq_false, Nat.reduceLT, Nat.reduceBEq, Nat.reduceEqDiff, Nat.reduceAdd, Int.reduceEq, Int.reduceLT, Int.reduceLE, Int.reduceGT, Int.reduceGE, beq_self_eq_true, List.getElem?_toArray, List.getElem?_cons_zero, List.getElem?_cons_succ, List.append_nil, List.nil_append, List.cons_append, List.append_eq, q3, bldM0]
      refine run_call1 z1 ?_
      simp only [RS, xs_some, Option.bind_some, Option.map_some, if_true, if_false, decide_true, decide_false, true_and, and_true, Bool.not_true, Bool.not_false, Bool.false_eq_true, not_false_eq_true, not_true_eq_false, Nat.reduceLT, Nat.reduceBEq, Nat.reduceEqDiff, Nat.reduceAdd, Int.reduceEq, Int.reduceLT, Int.reduceLE, Int.reduceGT, Int.reduceGE, beq_self_eq_true, List.getElem?_toArray, List.getElem?_cons_zero, List.getElem?_cons_succ, List.append_nil, List.nil_append, List.cons_append, List.append_eq]
    · obtain ⟨v9, G, z1, z2, z3⟩ := q5 (by omega)
      simp only [RS, xs_some, Option.bind_some, Option.map_some, if_true, if_false, decide_true, decide_false, true_and, and_true, Bool.not_true, Bool.not_false, Bool.false_eq_true, not_false_eq_true, not_true_eq_false, Nat.reduceLT, Nat.reduceBEq, Nat.reduceEqDiff, Nat.reduceAdd, Int.reduceEq, Int.reduceLT, Int.reduceLE, Int.reduceGT, Int.reduceGE, beq_self_eq_true, List.getElem?_toArray, List.getElem?_cons_zero, List.getElem?_cons_succ, List.append_nil, List.nil_append, List.cons_append, List.append_eq, q3]
      refine run_call1 z1 ?_
      simp only [RS, xs_some, Option.bind_some, Option.map_some, if_true, if_false, decide_true, decide_false, true_and, and_true, Bool.not_true, Bool.not_false, Bool.false_eq_true, not_false_eq_true, not_true_eq_false, Nat.reduceLT, Nat.reduceBEq, Nat.reduceEqDiff, Nat.reduceAdd, Int.reduceEq, Int.reduceLT, Int.reduceLE, Int.reduceGT, Int.reduceGE, beq_self_eq_true, List.getElem?_toArray, List.getElem?_cons_zero, List.getElem?_cons_succ, List.append_nil, List.nil_append, List.cons_append, List.append_eq, z2, z3]
end Go.Sv.Try
