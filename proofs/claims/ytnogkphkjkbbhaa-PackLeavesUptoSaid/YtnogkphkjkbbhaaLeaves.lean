/- The law of what is handed in and out: nobody else's memory. -/
import Derived.Test.YtnogkphkjkbbhaaLawsB
namespace Go.Sv.Try
open Go Go.Proofs
set_option linter.unusedVariables false
set_option linter.unusedSimpArgs false

set_option maxRecDepth 10000 in
set_option maxHeartbeats 16000000 in
theorem packLeaves_spec {m : Hp} {A : AS} {x : Go.Sv.M} {dv iv lv : V} (hw : WF A) (hm : m.on A) (hle : m.le (arrHp A)) (h : MsgIn m x dv iv lv) (hz : Sized x) (hx1 : x.ids.length ≤ 9223372036854775806) (hx2 : x.list.length ≤ 9223372036854775806) :
    ∃ w A', EvF Try.prog HH 9 [.agg (mc x dv iv lv)] A w A' ∧ w = .bool true := by
  refine run_fn2 rfl Try.func9 (by unfold Try.f9; rfl) Try.ntmps9 (by unfold Try.f9; rfl) (by simp) ?_
  simp only [RS, xs_some, Option.bind_some, Option.map_some, if_true, if_false, decide_true, decide_false, true_and, and_true, Bool.not_true, Bool.not_false, Bool.false_eq_true, not_false_eq_true, not_true_eq_false, Nat.reduceLT, Nat.reduceBEq, Nat.reduceEqDiff, Nat.reduceAdd, Int.reduceEq, Int.reduceLT, Int.reduceLE, Int.reduceGT, Int.reduceGE, beq_self_eq_true, List.getElem?_toArray, List.getElem?_cons_zero, List.getElem?_cons_succ, List.append_nil, List.nil_append, List.cons_append, List.append_eq]
  obtain ⟨A1, e1, f1, r1, n1⟩ := new_var A (mc x dv iv lv)
  rw [← e1]
  refine run_call1 (evF_ground rfl) ?_
  have ld := ldM r1 h.id
  simp only [RS, xs_some, Option.bind_some, Option.map_some, if_true, if_false, decide_true, decide_false, true_and, and_true, Bool.not_true, Bool.not_false, Bool.false_eq_true, not_false_eq_true, not_true_eq_false, Nat.reduceLT, Nat.reduceBEq, Nat.reduceEqDiff, Nat.reduceAdd, Int.reduceEq, Int.reduceLT, Int.reduceLE, Int.reduceGT, Int.reduceGE, beq_self_eq_true, List.getElem?_toArray, List.getElem?_cons_zero, List.getElem?_cons_succ, List.append_nil, List.nil_append, List.cons_append, List.append_eq, ld]
  obtain ⟨w, A2, k1, k2, v, rfl, k3, k4⟩ := write_spec (f1.wf hw) (hm.fr0 f1) h hz
  refine run_call1 k1 ?_
  simp only [RS, xs_some, Option.bind_some, Option.map_some, if_true, if_false, decide_true, decide_false, true_and, and_true, Bool.not_true, Bool.not_false, Bool.false_eq_true, not_false_eq_true, not_true_eq_false, Nat.reduceLT, Nat.reduceBEq, Nat.reduceEqDiff, Nat.reduceAdd, Int.reduceEq, Int.reduceLT, Int.reduceLE, Int.reduceGT, Int.reduceGE, beq_self_eq_true, List.getElem?_toArray, List.getElem?_cons_zero, List.getElem?_cons_succ, List.append_nil, List.nil_append, List.cons_append, List.append_eq]
  refine condK_of (fun g => ?_) (fun g => ?_)
  · simp only [RS, xs_some, Option.bind_some, Option.map_some, if_true, if_false, decide_true, decide_false, true_and, and_true, Bool.not_true, Bool.not_false, Bool.false_eq_true, not_false_eq_true, not_true_eq_false, Nat.reduceLT, Nat.reduceBEq, Nat.reduceEqDiff, Nat.reduceAdd, Int.reduceEq, Int.reduceLT, Int.reduceLE, Int.reduceGT, Int.reduceGE, beq_self_eq_true, List.getElem?_toArray, List.getElem?_cons_zero, List.getElem?_cons_succ, List.append_nil, List.nil_append, List.cons_append, List.append_eq]
  have g0 : checkM x = 0 := by omega
  have hok := okM_of g0
  have own := k4 g0
  have hrd := read_write hok (wf_of h)
  obtain ⟨hm1, hm2⟩ := rd_ok hrd
  have hwl := writeB_len h hok
  have fA2 := f1.then0 k2
  have w2 := fA2.wf hw
  have r2 := k2.row0 r1
  have hwne : (writeB x).length ≠ 0 := by simp [writeB]
  obtain ⟨D, p1, p2, p3, p4⟩ := append_empty (P := Try.prog) (C := A2) (v := v) sl38 w2 ((own.fr0 (Fr.pushArr A2 [])).src (P := Try.prog) (tx := 38) Try.underlying38) (bc_len _) hwne (bc_one _) (by omega) (by omega)
  simp only [RS, xs_some, Option.bind_some, Option.map_some, if_true, if_false, decide_true, decide_false, true_and, and_true, Bool.not_true, Bool.not_false, Bool.false_eq_true, not_false_eq_true, not_true_eq_false, Nat.reduceLT, Nat.reduceBEq, Nat.reduceEqDiff, Nat.reduceAdd, Int.reduceEq, Int.reduceLT, Int.reduceLE, Int.reduceGT, Int.reduceGE, beq_self_eq_true, List.getElem?_toArray, List.getElem?_cons_zero, List.getElem?_cons_succ, List.append_nil, List.nil_append, List.cons_append, List.append_eq, bsl0, p1]
  obtain ⟨bo, hbo⟩ : ∃ y, y = A2.blk.length + 1 := ⟨_, rfl⟩
  rw [← hbo] at p3 p4 ⊢
  have fD := fA2.then0 p2
  have lbo := row_lt p3
  have hsl : Slc eU8 (arrHp D) (.sl bo 0 (writeB x).length 1) (writeB x) := by
    refine .inr ⟨bo, 0, bc (writeB x), rfl, by unfold arrHp; rw [p3], by simp [eU8, bc_len], fun i y hy => ?_⟩
    show ((bc (writeB x)).drop (0 + i * 1)).take 1 = _
    rw [Nat.mul_one, Nat.zero_add, List.take_one, List.head?_drop, bc_get, hy]; rfl
  obtain ⟨w, E, u1, u2, dv1, iv1, lv1, rfl, u3⟩ := read_specN (fD.wf hw) (arrHp_on D) hsl (by omega)
  rw [hm1, hm2] at u1
  rw [hm1] at u3
  refine run_call1 u1 ?_
  obtain ⟨F, y1, y2, y3⟩ := new_msg (A := E) u3
  have rF := y2.row0 (u2.row0 p3)
  have soleF := (p4.fr u2 fun q => q).fr y2 fun q => q
  have rxF := y2.row0 (u2.row0 (p2.row0 r2))
  have hnF : MsgIn (arrHq D.blk.length F) x dv1 iv1 lv1 := u3.mono (arrHq_le y2 fun b q => q.elim)
  have hxF : MsgIn m x dv iv lv := h
  have hmF : m.on F := (((hm.fr0 fD).fr0 u2).fr0 y2)
  have hlen : ∀ B, evLen Try.prog 38 (.sl bo 0 (writeB x).length 1) B = some (.int .i64 ((writeB x).length : Nat)) := fun B => by unfold evLen; rw [Try.underlying38]
  have ne1 : bo ≠ A.blk.length := by have := k2.len; omega
  have ne2 : bo ≠ E.blk.length := by have := u2.len; omega
  have hmbo : m bo = none := hm.fresh (by have := fA2.len; omega)
  simp only [RS, xs_some, Option.bind_some, Option.map_some, if_true, if_false, decide_true, decide_false, true_and, and_true, Bool.not_true, Bool.not_false, Bool.false_eq_true, not_false_eq_true, not_true_eq_false, Nat.reduceLT, Nat.reduceBEq, Nat.reduceEqDiff, Nat.reduceAdd, Int.reduceEq, Int.reduceLT, Int.reduceLE, Int.reduceGT, Int.reduceGE, beq_self_eq_true, List.getElem?_toArray, List.getElem?_cons_zero, List.getElem?_cons_succ, List.append_nil, List.nil_append, List.cons_append, List.append_eq, zcM, y1, hlen]
  refine run_loop (fun n e B => e.get 7 = .int .i64 0 ∧ e.get 6 = .ptr E.blk.length 0 ∧ e.get 1 = .ptr A.blk.length 0 ∧ e.get 5 = .sl bo 0 (writeB x).length 1 ∧ e.get 27 = .int .i64 ((writeB x).length : Nat) ∧ m.on B ∧ B.blk[A.blk.length]? = some ⟨mc x dv iv lv, .var⟩ ∧ B.blk[E.blk.length]? = some ⟨mc x dv1 iv1 lv1, .var⟩ ∧ MsgIn (arrHq D.blk.length B) x dv1 iv1 lv1 ∧ Sole0 B bo A2.blk.length ∧
      ∃ (i : Nat) (l : Bts), n = (writeB x).length - i ∧ i ≤ (writeB x).length ∧ e.get 28 = .int .i64 i ∧ l.length = (writeB x).length ∧ B.blk[bo]? = some ⟨bc l, .arr A2.blk.length 0⟩)
    ⟨_, rfl, rfl, rfl, rfl, rfl, hmF, rxF, y3, hnF, soleF, 0, writeB x, rfl, by omega, rfl, rfl, rF⟩ ?_
  rintro n e B ⟨h7, h6, h1, h5, h27, hmB, rxB, rnB, hnB, soleB, i, l, rfl, hi, h28, hl, rB⟩
  simp only [RS, xs_some, Option.bind_some, Option.map_some, if_true, if_false, decide_true, decide_false, true_and, and_true, Bool.not_true, Bool.not_false, Bool.false_eq_true, not_false_eq_true, not_true_eq_false, Nat.reduceLT, Nat.reduceBEq, Nat.reduceEqDiff, Nat.reduceAdd, Int.reduceEq, Int.reduceLT, Int.reduceLE, Int.reduceGT, Int.reduceGE, beq_self_eq_true, List.getElem?_toArray, List.getElem?_cons_zero, List.getElem?_cons_succ, List.append_nil, List.nil_append, List.cons_append, List.append_eq, h28, h27]
  refine condK_of (fun g1 => ?_) (fun g1 => ?_)
  · obtain ⟨y, hy⟩ := get_lt (l := l) (i := i) (by omega)
    have had : evIndexAddr Try.prog 38 (.sl bo 0 (writeB x).length 1) (.int .i64 (i : Int)) = some (.ptr bo i) := by
      have := sl_addr (P := Try.prog) (t := 38) (b := bo) (o := 0) (n := (writeB x).length) (k := .i64) (i := i) Try.underlying38 sz5 (by omega)
      simpa using this
    have hld : evLoad Try.prog 5 (.ptr bo i) B = some (.int .u8 y.toNat) := by rw [load_at ag5 rB, bc_get, hy]; rfl
    obtain ⟨z, hzz⟩ : ∃ z : UInt8, evBits .xor .u8 (y.toNat : Int) 255 = some (.int .u8 (z.toNat : Int)) := by
      refine ⟨UInt8.ofNat ((BitVec.ofInt 8 (y.toNat : Int) ^^^ BitVec.ofInt 8 255).toNat), ?_⟩
      show some (V.int .u8 (IntKind.u8.wrap ((BitVec.ofInt 8 (y.toNat : Int) ^^^ BitVec.ofInt 8 255).toNat : Int))) = _
      rw [u8wrap]
    obtain ⟨C, s1, s2, s3, s4⟩ := store_sole0 (P := Try.prog) (t := 5) (o := i) (x := .int .u8 (z.toNat : Int)) soleB rB rfl sz5 (by rw [bc_len]; simp; omega) rfl
    rw [putAt_bc (by omega)] at s3
    simp only [RS, xs_some, Option.bind_some, Option.map_some, if_true, if_false, decide_true, decide_false, true_and, and_true, Bool.not_true, Bool.not_false, Bool.false_eq_true, not_false_eq_true, not_true_eq_false, Nat.reduceLT, Nat.reduceBEq, Nat.reduceEqDiff, Nat.reduceAdd, Int.reduceEq, Int.reduceLT, Int.reduceLE, Int.reduceGT, Int.reduceGE, beq_self_eq_true, List.getElem?_toArray, List.getElem?_cons_zero, List.getElem?_cons_succ, List.append_nil, List.nil_append, List.cons_append, List.append_eq, h28, h5, had, hld, hzz, s1]
    have hq : arrHq D.blk.length B bo = none := by unfold arrHq; rw [if_neg (by omega)]
    exact ⟨(writeB x).length - (i + 1), by omega, h7, h6, h1, h27, hmB.row s2 hmbo, s2.rowNe rxB (fun q => ne1 q.symm), s2.rowNe rnB (fun q => ne2 q.symm), hnB.mono (arrHq_le s2 fun b q => by cases q; exact hq), s4, i + 1, l.set i z, rfl, by omega, by rw [wrapS (by omega)], by rw [List.length_set]; exact hl, s3⟩
  · have ldn := ldM rnB hnB.id
    have ldx := ldM rxB h.id
    -- both messages in one part of memory
    let m2 : Hp := fun b => match arrHq D.blk.length B b with | some cs => some cs | none => m b
    have hm2 : m2.on B := by
      intro b cs q
      simp only [m2] at q
      split at q
      · rename_i c hc; cases q; exact arrHq_on _ _ b _ hc
      · exact hmB b cs q
    have le1 : (arrHq D.blk.length B).le m2 := by
      intro b cs q
      simp only [m2, q]
    have le2 : m.le m2 := by
      intro b cs q
      have hb : b < A.blk.length := hm.lt q
      have : arrHq D.blk.length B b = none := by unfold arrHq; rw [if_neg (by have := fD.len; omega)]
      simp only [m2, this]; exact q
    obtain ⟨w, G, z1, z2, r, rfl, z3⟩ := same_spec hm2 (hnB.mono le1) (h.mono le2) hx1 hx2
    have hr : r = true := z3.2 rfl
    subst hr
    simp only [RS, xs_some, Option.bind_some, Option.map_some, if_true, if_false, decide_true, decide_false, true_and, and_true, Bool.not_true, Bool.not_false, Bool.false_eq_true, not_false_eq_true, not_true_eq_false, Nat.reduceLT, Nat.reduceBEq, Nat.reduceEqDiff, Nat.reduceAdd, Int.reduceEq, Int.reduceLT, Int.reduceLE, Int.reduceGT, Int.reduceGE, beq_self_eq_true, List.getElem?_toArray, List.getElem?_cons_zero, List.getElem?_cons_succ, List.append_nil, List.nil_append, List.cons_append, List.append_eq, h7, h6, h1, ldn, ldx]
    refine run_call1 z1 ?_
    simp only [RS, xs_some, Option.bind_some, Option.map_some, if_true, if_false, decide_true, decide_false, true_and, and_true, Bool.not_true, Bool.not_false, Bool.false_eq_true, not_false_eq_true, not_true_eq_false, Nat.reduceLT, Nat.reduceBEq, Nat.reduceEqDiff, Nat.reduceAdd, Int.reduceEq, Int.reduceLT, Int.reduceLE, Int.reduceGT, Int.reduceGE, beq_self_eq_true, List.getElem?_toArray, List.getElem?_cons_zero, List.getElem?_cons_succ, List.append_nil, List.nil_append, List.cons_append, List.append_eq]
end Go.Sv.Try
