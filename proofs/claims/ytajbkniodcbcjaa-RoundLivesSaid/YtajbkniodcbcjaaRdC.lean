/- Rounds in memory: what comes. -/
import Derived.Test.YtajbkniodcbcjaaRdB
import Derived.Test.YtajbkniodcbcjaaSv4
import Derived.Test.YtajbkniodcbcjaaRd0
namespace Go.Sv.Try
open Go Go.Proofs
set_option linter.unusedVariables false
set_option linter.unusedSimpArgs false
section
variable {A A' B : AS} {rp cp : Nat} {r r' : Rd} {vb : Nat → Nat} {fk fa fk' fa' : Option Nat} {kv av : V}
theorem RStep.wf (hw : WF A) (h : RStep A rp cp vb fk fa B r) : WF B := by obtain ⟨_, _, h1, _⟩ := h; exact h1.wf hw
theorem RStep.chain (hw : WF A) (h : RStep A rp cp vb fk fa B r) (k : ∀ fk' fa', IsRd B rp r cp vb fk' fa' → RStep B rp cp vb fk' fa' A' r') : RStep A rp cp vb fk fa A' r' := by
  obtain ⟨fk', fa', h1, h2, h3, h4⟩ := h
  exact (k fk' fa' h4).next hw h1 h2 h3
def RStepS (A : AS) (rp cp : Nat) (vb : Nat → Nat) (fk fa : Option Nat) (A' : AS) (r' : Rd) : Prop := ∃ fk', Fr (rdS A rp vb fk fa) A A' ∧ Gr A fk fk' ∧ IsRd A' rp r' cp vb fk' fa
theorem RStepS.toR (h : RStepS A rp cp vb fk fa B r) : RStep A rp cp vb fk fa B r := by
  obtain ⟨fk', h1, h2, h3⟩ := h
  exact ⟨fk', fa, h1, h2, .inl rfl, h3⟩
theorem RStepS.rfl' (h : IsRd A rp r cp vb fk fa) : RStepS A rp cp vb fk fa A r := ⟨fk, .refl _ _, .inl rfl, h⟩
theorem RStepS.of0 (h : IsRd A rp r cp vb fk fa) (hf : Fr S0 A B) : RStepS A rp cp vb fk fa B r := ⟨fk, hf.mono fun _ q => q.elim, .inl rfl, h.fr0 hf⟩
theorem RStepS.upd (hf : Fr (· = .row rp) A B) (h : IsRd B rp r' cp vb fk fa) : RStepS A rp cp vb fk fa B r' := ⟨fk, hf.mono fun _ q => .inl q, .inl rfl, h⟩
theorem RStepS.next (hw : WF A) (hf : Fr (rdS A rp vb fk fa) A B) (g1 : Gr A fk fk') (g2 : Gr A fa fa) (k : RStepS B rp cp vb fk' fa A' r') : RStepS A rp cp vb fk fa A' r' := by
  obtain ⟨fk2, k1, k2, k4⟩ := k
  exact ⟨fk2, hf.trans k1 fun x q => rdS_back hf g1 g2 hw (hf.wf hw) q, g1.trans k2 hf.len, k4⟩
theorem RStepS.next0 (hw : WF A) (hf : Fr S0 A B) (k : RStepS B rp cp vb fk fa A' r') : RStepS A rp cp vb fk fa A' r' := k.next hw (hf.mono fun _ q => q.elim) (.inl rfl) (.inl rfl)
theorem RStepS.then0 {C : AS} (h : RStepS A rp cp vb fk fa B r) (hf : Fr S0 B C) : RStepS A rp cp vb fk fa C r := by
  obtain ⟨fk', h1, h2, h4⟩ := h
  exact ⟨fk', h1.then0 hf, h2, h4.fr0 hf⟩
theorem RStepS.wf (hw : WF A) (h : RStepS A rp cp vb fk fa B r) : WF B := h.toR.wf hw
theorem bslId {x : Bts} (h : x.length = 32) : bsl Try.prog 26 1 (some [(0, .agg (bc x))]) = some (.newSl (bc x) 1 32) := bsl_one Try.underlying26 sz39 zc39 rfl (by rw [bc_len, h]) (by decide)
set_option maxRecDepth 10000 in
set_option maxHeartbeats 8000000 in
theorem remember_spec (hw : WF A) (h : IsRd A rp r cp vb fk fa) (hr : Rng r) {id : Bts} (hid : id.length = 32) : ∃ w A', EvF Try.prog HH 30 [.ptr rp 0, .agg (bc id)] A w A' ∧ RStepS A rp cp vb fk fa A' (r.Remember id) := by
  refine run_fn2 rfl Try.func30 (by unfold Try.f30; rfl) Try.ntmps30 (by unfold Try.f30; rfl) (by simp) ?_
  simp only [RT, Nat.reduceLT, Nat.reduceBEq, Nat.reduceEqDiff, Nat.reduceAdd, Int.reduceEq, Int.reduceLT, Int.reduceLE, Int.reduceGT, Int.reduceGE]
  obtain ⟨A1, e1, f1, r1, n1⟩ := new_var A (bc id)
  rw [← e1]
  have h1 := h.fr0 f1
  have w1 := f1.wf hw
  have hfa := faR rp
  unfold Rd.Remember
  by_cases q1 : id = z32
  · simp only [RT, Nat.reduceLT, Nat.reduceBEq, Nat.reduceEqDiff, Nat.reduceAdd, Int.reduceEq, Int.reduceLT, Int.reduceLE, Int.reduceGT, Int.reduceGE, ldId r1 hid, bldZ, eqZ hid z32_len, decide_eq_true q1]
    rw [if_neg (fun z => z.1 q1)]
    exact .of0 h f1
  obtain ⟨_, A2, k1, k2, rfl⟩ := has_spec w1 h1 hid (by have := hr.known; omega)
  have f2 := f1.then0 k2
  have h2 := h.fr0 f2
  have w2 := f2.wf hw
  simp only [RT, Nat.reduceLT, Nat.reduceBEq, Nat.reduceEqDiff, Nat.reduceAdd, Int.reduceEq, Int.reduceLT, Int.reduceLE, Int.reduceGT, Int.reduceGE, ldId r1 hid, bldZ, eqZ hid z32_len, decide_eq_false q1]
  refine run_call1 k1 ?_
  by_cases q2 : id ∈ r.known
  · simp only [RT, Nat.reduceLT, Nat.reduceBEq, Nat.reduceEqDiff, Nat.reduceAdd, Int.reduceEq, Int.reduceLT, Int.reduceLE, Int.reduceGT, Int.reduceGE, decide_eq_true q2]
    rw [if_neg (fun z => z.2.1 q2)]
    exact .of0 h f2
  obtain ⟨kv, av, b1, b2, b3⟩ := h2.box
  have ld := ldR b1 h2.ok
  have hln := fun B => b2.len (P := Try.prog) Try.underlying26 B
  simp only [RT, Nat.reduceLT, Nat.reduceBEq, Nat.reduceEqDiff, Nat.reduceAdd, Int.reduceEq, Int.reduceLT, Int.reduceLE, Int.reduceGT, Int.reduceGE, decide_eq_false q2, hfa, ld, hln]
  by_cases q3 : r.known.length < 32
  rotate_left
  · simp only [RT, Nat.reduceLT, Nat.reduceBEq, Nat.reduceEqDiff, Nat.reduceAdd, Int.reduceEq, Int.reduceLT, Int.reduceLE, Int.reduceGT, Int.reduceGE, decide_eq_false (show ¬ ((r.known.length : Int) < 32) by omega)]
    rw [if_neg (fun z => q3 z.2.2)]
    exact .of0 h f2
  simp only [RT, Nat.reduceLT, Nat.reduceBEq, Nat.reduceEqDiff, Nat.reduceAdd, Int.reduceEq, Int.reduceLT, Int.reduceLE, Int.reduceGT, Int.reduceGE, decide_eq_true (show ((r.known.length : Int) < 32) by omega)]
  rw [if_pos ⟨q1, q2, q3⟩]
  obtain ⟨v4, A3, fk', p1, p2, p3, p4⟩ := b2.push (P := Try.prog) (t := 26) (tx := 26) (n := 32) rfl sl26 Try.underlying26 w2 (y := id) (cs' := bc id) ⟨rfl, hid⟩ (by omega) (by omega)
  have b4 := p3.row _ _ b1 (inFamO_var b1)
  have k4 : Lst eAct Hp.emp A3 av r.acts fa := b3.fr p3 (by
    cases fk with
    | none => exact fun _ q => q.elim
    | some g => exact Off.fam fun q => h.ne1 g rfl q)
  obtain ⟨A4, s1, s2, s3⟩ := stKn b4 h1.ok p2.one (r.known ++ [id])
  rw [pl_30_2, run_plan_id (by rfl)]
  simp only [RT, Nat.reduceLT, Nat.reduceBEq, Nat.reduceEqDiff, Nat.reduceAdd, Int.reduceEq, Int.reduceLT, Int.reduceLE, Int.reduceGT, Int.reduceGE, hfa, ld, ldId (k2.row0 r1) hid, bslId hid, p1, s1]
  have hc3 : IsCnt A4 cp r.n r.v vb := by
    refine (h2.cnt.fr p3 (inFamO_var h2.cnt.box) fun j hj => ⟨?_, ?_⟩).fr s2 (fun q => h.rc (by injection q with q; exact q.symm)) fun j hj => ⟨fun q => h2.cnt.nevar hj b1 (by injection q), fun q => by cases q⟩
    · intro q
      cases fk with
      | none => exact q.elim
      | some g =>
        obtain ⟨k, base, z1, z2⟩ := q
        rw [h2.cnt.row j hj] at z1; cases z1; cases z2
        exact (h.ne2 j hj).1 rfl
    · intro q
      cases fk with
      | none => exact q.elim
      | some g => exact (h.ne2 j hj).1 (by rw [show vb j = g from q])
  refine RStepS.next0 hw f2 ⟨fk', (p3.mono (S' := rdS A2 rp vb fk fa) fun z q => .inr (.inr (.inl q))).trans s2 fun z q => .inl (.inl q), p4, ?_⟩
  refine { box := ⟨v4, av, s3, p2.fr s2 (.box b4), k4.fr s2 (.box b4)⟩, cnt := hc3, ok := { h.ok with }, rc := h.rc, ne1 := fun f q z => ?_, ne2 := fun j hj => ⟨fun q => ?_, (h.ne2 j hj).2⟩ }
  · rcases p4.or q with y | y
    · exact h.ne1 f y z
    · have := b3.famLt f z; omega
  · rcases p4.or q with y | y
    · exact (h.ne2 j hj).1 y
    · have := h2.cnt.lt hj; omega
theorem Rng.remember (h : Rng r) (id : Bts) : Rng (r.Remember id) ∧ (r.Remember id).acts = r.acts := by
  unfold Rd.Remember; split
  · exact ⟨{ h with known := by show (r.known ++ [id]).length ≤ _; rename_i q; rw [List.length_append]; have := q.2.2; simp; omega }, rfl⟩
  · exact ⟨h, rfl⟩
set_option maxRecDepth 10000 in
theorem know_spec (hw : WF A) (h : IsRd A rp r cp vb fk fa) (hr : Rng r) (hl : r.acts.length ≤ 1000000) {id : Bts} (hid : id.length = 32) : ∃ w A', EvF Try.prog HH 12 [.ptr rp 0, .agg (bc id)] A w A' ∧ GRes A rp cp vb fk fa A' (r.Know id) w := by
  refine run_fn2 rfl Try.func12 (by unfold Try.f12; rfl) Try.ntmps12 (by unfold Try.f12; rfl) (by simp) ?_
  simp only [RT, Nat.reduceLT, Nat.reduceBEq, Nat.reduceEqDiff, Nat.reduceAdd, Int.reduceEq, Int.reduceLT, Int.reduceLE, Int.reduceGT, Int.reduceGE]
  obtain ⟨A1, e1, f1, r1, n1⟩ := new_var A (bc id)
  rw [← e1]
  simp only [RT, Nat.reduceLT, Nat.reduceBEq, Nat.reduceEqDiff, Nat.reduceAdd, Int.reduceEq, Int.reduceLT, Int.reduceLE, Int.reduceGT, Int.reduceGE, ldId r1 hid]
  obtain ⟨w, A2, k1, k2⟩ := remember_spec (f1.wf hw) (h.fr0 f1) hr hid
  refine run_call1 k1 ?_
  obtain ⟨hr2, ha2⟩ := hr.remember id
  obtain ⟨fk2, fa2, j1, j2, j3, j4⟩ := k2.toR
  obtain ⟨w, A3, m1, m2⟩ := settle_spec (j1.wf (f1.wf hw)) j4 hr2 (by rw [ha2]; omega)
  simp only [RT, Nat.reduceLT, Nat.reduceBEq, Nat.reduceEqDiff, Nat.reduceAdd, Int.reduceEq, Int.reduceLT, Int.reduceLE, Int.reduceGT, Int.reduceGE]
  refine run_call1 m1 ?_
  simp only [RT, Nat.reduceLT, Nat.reduceBEq, Nat.reduceEqDiff, Nat.reduceAdd, Int.reduceEq, Int.reduceLT, Int.reduceLE, Int.reduceGT, Int.reduceGE]
  exact GRes.next0 hw f1 (m2.next (f1.wf hw) j1 j2 j3)
set_option maxRecDepth 10000 in
set_option maxHeartbeats 8000000 in
theorem begin1_spec (hw : WF A) (h : IsRd A rp r cp vb fk fa) (hr : Rng r) (hl : r.acts.length ≤ 100000) {id : Bts} (hid : id.length = 32) : ∃ w A', EvF Try.prog HH 15 [.ptr rp 0, .agg (bc id)] A w A' ∧ GRes A rp cp vb fk fa A' (r.Begin id) w := by
  refine run_fn2 rfl Try.func15 (by unfold Try.f15; rfl) Try.ntmps15 (by unfold Try.f15; rfl) (by simp) ?_
  simp only [RT, Nat.reduceLT, Nat.reduceBEq, Nat.reduceEqDiff, Nat.reduceAdd, Int.reduceEq, Int.reduceLT, Int.reduceLE, Int.reduceGT, Int.reduceGE]
  obtain ⟨A1, e1, f1, r1, n1⟩ := new_var A (bc id)
  rw [← e1]
  have h1 := h.fr0 f1
  have w1 := f1.wf hw
  have hfa := faR rp
  obtain ⟨kv, av, b1, b2, b3⟩ := h1.box
  have ld := ldR b1 h.ok
  unfold Rd.Begin
  by_cases q0 : r.now ≥ 0
  · rw [if_pos q0]
    simp only [RT, Nat.reduceLT, Nat.reduceBEq, Nat.reduceEqDiff, Nat.reduceAdd, Int.reduceEq, Int.reduceLT, Int.reduceLE, Int.reduceGT, Int.reduceGE, hfa, ld, decide_eq_true q0]
    obtain ⟨w, A3, m1, m2⟩ := settle_spec w1 h1 hr (by omega)
    refine run_call1 m1 ?_
    simp only [RT, Nat.reduceLT, Nat.reduceBEq, Nat.reduceEqDiff, Nat.reduceAdd, Int.reduceEq, Int.reduceLT, Int.reduceLE, Int.reduceGT, Int.reduceGE]
    exact GRes.next0 hw f1 m2
  rw [if_neg q0]
  have key : ∀ {B : AS} {r2 : Rd}, IsRd B rp r2 cp vb fk fa → WF B → Rng r2 → r2.acts.length ≤ 100000 → ∃ w1 C w2 D, EvF Try.prog HH 32 [.ptr rp 0, .int .i64 0] B w1 C ∧ EvF Try.prog HH 31 [.ptr rp 0] C w2 D ∧ GRes B rp cp vb fk fa D ((r2.begin 0).settle) w2 := by
    intro B r2 hB wB hr2 hl2
    obtain ⟨w, C, k1, fk2, fa2, j1, j2, j3, j4⟩ := begin_spec wB hB hr2 (R := 0) (by omega) (by omega) (by omega)
    obtain ⟨y1, y2⟩ := hr2.begin (R := 0) (by omega)
    obtain ⟨w', D, m1, m2⟩ := settle_spec (j1.wf wB) j4 y1 (by omega)
    exact ⟨w, C, w', D, k1, m1, m2.next wB j1 j2 j3⟩
  simp only [RT, Nat.reduceLT, Nat.reduceBEq, Nat.reduceEqDiff, Nat.reduceAdd, Int.reduceEq, Int.reduceLT, Int.reduceLE, Int.reduceGT, Int.reduceGE, hfa, ld, decide_eq_false q0, ldId r1 hid, bldZ, eqZ hid z32_len]
  by_cases q1 : id = z32
  · obtain ⟨_, C, w2, D, k1, k2, k3⟩ := key h1 w1 hr hl
    simp only [RT, Nat.reduceLT, Nat.reduceBEq, Nat.reduceEqDiff, Nat.reduceAdd, Int.reduceEq, Int.reduceLT, Int.reduceLE, Int.reduceGT, Int.reduceGE, decide_eq_true q1]
    refine run_call1 k1 ?_
    simp only [RT, Nat.reduceLT, Nat.reduceBEq, Nat.reduceEqDiff, Nat.reduceAdd, Int.reduceEq, Int.reduceLT, Int.reduceLE, Int.reduceGT, Int.reduceGE]
    refine run_call1 k2 ?_
    simp only [RT, Nat.reduceLT, Nat.reduceBEq, Nat.reduceEqDiff, Nat.reduceAdd, Int.reduceEq, Int.reduceLT, Int.reduceLE, Int.reduceGT, Int.reduceGE]
    rw [if_pos q1]
    exact GRes.next0 hw f1 k3
  · obtain ⟨A2, s1, s2, s3⟩ := (stId b1 h.ok hid).2.2
    have h2 : IsRd A2 rp { r with fresh := id } cp vb fk fa := h1.upd b1 b2 b3 s2 s3 rfl rfl rfl rfl { h.ok with fresh := hid }
    obtain ⟨_, C, w2, D, k1, k2, k3⟩ := key h2 (s2.wf w1) { hr with } hl
    simp only [RT, Nat.reduceLT, Nat.reduceBEq, Nat.reduceEqDiff, Nat.reduceAdd, Int.reduceEq, Int.reduceLT, Int.reduceLE, Int.reduceGT, Int.reduceGE, decide_eq_false q1, ldId r1 hid, hfa, s1]
    refine run_call1 k1 ?_
    simp only [RT, Nat.reduceLT, Nat.reduceBEq, Nat.reduceEqDiff, Nat.reduceAdd, Int.reduceEq, Int.reduceLT, Int.reduceLE, Int.reduceGT, Int.reduceGE]
    refine run_call1 k2 ?_
    simp only [RT, Nat.reduceLT, Nat.reduceBEq, Nat.reduceEqDiff, Nat.reduceAdd, Int.reduceEq, Int.reduceLT, Int.reduceLE, Int.reduceGT, Int.reduceGE]
    rw [if_neg q1]
    exact GRes.next0 hw f1 (k3.next w1 (s2.mono fun _ q => .inl q) (.inl rfl) (.inl rfl))
end
end Go.Sv.Try
namespace Go.Sv.Try
open Go Go.Proofs
set_option linter.unusedVariables false
set_option linter.unusedSimpArgs false
section
variable {A A' B : AS} {rp cp : Nat} {r r' : Rd} {vb : Nat → Nat} {fk fa fk' fa' : Option Nat} {kv av : V}
set_option maxRecDepth 10000 in
set_option maxHeartbeats 16000000 in
theorem offered_spec (hw : WF A) (h : IsRd A rp r cp vb fk fa) (hr : Rng r) (hl : r.acts.length ≤ 100000) {R val : Int} {id : Bts} (hid : id.length = 32) : ∃ w A', EvF Try.prog HH 17 [.ptr rp 0, .int .i64 R, .int .i64 val, .agg (bc id)] A w A' ∧ GRes A rp cp vb fk fa A' (r.Offered R val id) w := by
  refine run_fn2 rfl Try.func17 (by unfold Try.f17; rfl) Try.ntmps17 (by unfold Try.f17; rfl) (by simp) ?_
  simp only [RT, Nat.reduceLT, Nat.reduceBEq, Nat.reduceEqDiff, Nat.reduceAdd, Int.reduceEq, Int.reduceLT, Int.reduceLE, Int.reduceGT, Int.reduceGE]
  obtain ⟨A1, e1, f1, r1, n1⟩ := new_var A (bc id)
  rw [← e1]
  have h1 := h.fr0 f1
  have w1 := f1.wf hw
  have hfa := faR rp
  obtain ⟨kv, av, b1, b2, b3⟩ := h1.box
  obtain ⟨_, A2, n1, rfl, n2⟩ := nil_spec (A := A1)
  have ldI := ldId r1 hid
  have ldI2 := ldId (n2.row0 r1) hid
  unfold Rd.Offered
  refine run_cut1 (fun z e B => Is z .normal ∧ e.get 0 = .ptr rp 0 ∧ e.get 1 = .int .i64 R ∧ e.get 2 = .int .i64 val ∧ e.get 7 = .ptr A.blk.length 0 ∧ Fr S0 A1 B ∧ e.get 43 = .bool (decide (0 ≤ R ∧ R < 12 ∧ 0 ≤ val ∧ val ≤ R ∧ id ≠ z32 ∧ id ≠ n32 ∧ (r.offers R.toNat).there = false))) ?_ ?_
  · by_cases q1 : 0 ≤ R
    rotate_left
    · simp only [RT, Nat.reduceLT, Nat.reduceBEq, Nat.reduceEqDiff, Nat.reduceAdd, Int.reduceEq, Int.reduceLT, Int.reduceLE, Int.reduceGT, Int.reduceGE, pl_17_1, rc_nil, decide_eq_false (show ¬ R ≥ 0 from q1)]
      refine ⟨rc_skip rfl rfl rfl rfl rc_nil, rfl, .refl _ _, ?_⟩
      rw [decide_eq_false (fun z => q1 z.1)]
    by_cases q2 : R < 12
    rotate_left
    · simp only [RT, Nat.reduceLT, Nat.reduceBEq, Nat.reduceEqDiff, Nat.reduceAdd, Int.reduceEq, Int.reduceLT, Int.reduceLE, Int.reduceGT, Int.reduceGE, pl_17_1, rc_nil, decide_eq_true (show R ≥ 0 from q1), decide_eq_false q2]
      refine ⟨rc_skip rfl rfl rfl rfl rc_nil, rfl, .refl _ _, ?_⟩
      rw [decide_eq_false (fun z => q2 z.2.1)]
    by_cases q3 : 0 ≤ val
    rotate_left
    · simp only [RT, Nat.reduceLT, Nat.reduceBEq, Nat.reduceEqDiff, Nat.reduceAdd, Int.reduceEq, Int.reduceLT, Int.reduceLE, Int.reduceGT, Int.reduceGE, pl_17_1, rc_nil, decide_eq_true (show R ≥ 0 from q1), decide_eq_true q2, decide_eq_false (show ¬ val ≥ 0 from q3)]
      refine ⟨rc_skip rfl rfl rfl rfl rc_nil, rfl, .refl _ _, ?_⟩
      rw [decide_eq_false (fun z => q3 z.2.2.1)]
    by_cases q4 : val ≤ R
    rotate_left
    · simp only [RT, Nat.reduceLT, Nat.reduceBEq, Nat.reduceEqDiff, Nat.reduceAdd, Int.reduceEq, Int.reduceLT, Int.reduceLE, Int.reduceGT, Int.reduceGE, pl_17_1, rc_nil, decide_eq_true (show R ≥ 0 from q1), decide_eq_true q2, decide_eq_true (show val ≥ 0 from q3), decide_eq_false q4]
      refine ⟨rc_skip rfl rfl rfl rfl rc_nil, rfl, .refl _ _, ?_⟩
      rw [decide_eq_false (fun z => q4 z.2.2.2.1)]
    by_cases q5 : id = z32
    · simp only [RT, Nat.reduceLT, Nat.reduceBEq, Nat.reduceEqDiff, Nat.reduceAdd, Int.reduceEq, Int.reduceLT, Int.reduceLE, Int.reduceGT, Int.reduceGE, pl_17_1, rc_nil, decide_eq_true (show R ≥ 0 from q1), decide_eq_true q2, decide_eq_true (show val ≥ 0 from q3), decide_eq_true q4, ldI, bldZ, eqZ hid z32_len, decide_eq_true q5]
      refine ⟨rc_skip rfl rfl rfl rfl rc_nil, rfl, .refl _ _, ?_⟩
      rw [decide_eq_false (fun z => z.2.2.2.2.1 q5)]
    simp only [RT, Nat.reduceLT, Nat.reduceBEq, Nat.reduceEqDiff, Nat.reduceAdd, Int.reduceEq, Int.reduceLT, Int.reduceLE, Int.reduceGT, Int.reduceGE, pl_17_1, rc_nil, decide_eq_true (show R ≥ 0 from q1), decide_eq_true q2, decide_eq_true (show val ≥ 0 from q3), decide_eq_true q4, ldI, bldZ, eqZ hid z32_len, decide_eq_false q5]
    refine run_call1 n1 ?_
    by_cases q6 : id = n32
    · simp only [RT, Nat.reduceLT, Nat.reduceBEq, Nat.reduceEqDiff, Nat.reduceAdd, Int.reduceEq, Int.reduceLT, Int.reduceLE, Int.reduceGT, Int.reduceGE, rc_nil, eqZ hid n32_len, decide_eq_true q6]
      refine ⟨rc_gload rfl rfl rfl rfl rfl ldI2 rfl rc_nil, rfl, n2, ?_⟩
      rw [decide_eq_false (fun z => z.2.2.2.2.2.1 q6)]
    obtain ⟨i, rfl⟩ := Int.eq_ofNat_of_zero_le q1
    have hi12 : i < 12 := by omega
    have hof := ldOf (n2.row0 b1) h.ok hi12
    simp only [RT, Nat.reduceLT, Nat.reduceBEq, Nat.reduceEqDiff, Nat.reduceAdd, Int.reduceEq, Int.reduceLT, Int.reduceLE, Int.reduceGT, Int.reduceGE, rc_nil, eqZ hid n32_len, decide_eq_false q6, hfa, ixOf hi12, faOf rp (103 + i * 34), hof]
    refine ⟨rc_gload rfl rfl rfl rfl rfl ldI2 rfl rc_nil, rfl, n2, ?_⟩
    rw [show ((i : Int)).toNat = i from rfl]
    cases qt : (r.offers i).there with
    | true => rw [decide_eq_false (fun z => by simp at z)]; rfl
    | false => rw [decide_eq_true ⟨q1, q2, q3, q4, q5, q6, rfl⟩]; rfl
  · rintro z e B ⟨rfl, g0, g1, g2, g7, hB, g43⟩
    have fB := f1.then0 hB
    have wB := fB.wf hw
    have hBr := h.fr0 fB
    by_cases q : 0 ≤ R ∧ R < 12 ∧ 0 ≤ val ∧ val ≤ R ∧ id ≠ z32 ∧ id ≠ n32 ∧ (r.offers R.toNat).there = false
    rotate_left
    · rw [if_neg q]
      rw [decide_eq_false q] at g43
      obtain ⟨w, C, m1, m2⟩ := settle_spec wB hBr hr (by omega)
      simp only [RT, Nat.reduceLT, Nat.reduceBEq, Nat.reduceEqDiff, Nat.reduceAdd, Int.reduceEq, Int.reduceLT, Int.reduceLE, Int.reduceGT, Int.reduceGE, g43, g0]
      refine run_call1 m1 ?_
      simp only [RT, Nat.reduceLT, Nat.reduceBEq, Nat.reduceEqDiff, Nat.reduceAdd, Int.reduceEq, Int.reduceLT, Int.reduceLE, Int.reduceGT, Int.reduceGE]
      exact GRes.next0 hw fB m2
    rw [if_pos q]
    rw [decide_eq_true q] at g43
    obtain ⟨i, rfl⟩ := Int.eq_ofNat_of_zero_le q.1
    have hi12 : i < 12 := by omega
    rw [show ((i : Int)).toNat = i from rfl]
    obtain ⟨kvb, avb, c1, c2, c3⟩ := hBr.box
    obtain ⟨C, s1, s2, s3⟩ := stOf c1 h.ok (o := ⟨true, val, id⟩) hid hi12
    have hC : IsRd C rp { r with offers := set1 r.offers i ⟨true, val, id⟩ } cp vb fk fa := hBr.upd c1 c2 c3 s2 s3 rfl rfl rfl rfl { h.ok with offers := set1_len h.ok.offers hid }
    obtain ⟨w, D, m1, m2⟩ := settle_spec (s2.wf wB) hC { hr with offers := set1_valid hr.offers ⟨q.2.2.1, by show val ≤ 1000; omega⟩ } (by show r.acts.length ≤ _; omega)
    simp only [RT, Nat.reduceLT, Nat.reduceBEq, Nat.reduceEqDiff, Nat.reduceAdd, Int.reduceEq, Int.reduceLT, Int.reduceLE, Int.reduceGT, Int.reduceGE, g43]
    rw [pl_17_2, run_plan_id (by rfl)]
    simp only [RT, Nat.reduceLT, Nat.reduceBEq, Nat.reduceEqDiff, Nat.reduceAdd, Int.reduceEq, Int.reduceLT, Int.reduceLE, Int.reduceGT, Int.reduceGE, g0, g1, g2, g7, ldId (hB.row0 r1) hid, bldOf hid, hfa, ixOf hi12, s1]
    refine run_call1 m1 ?_
    simp only [RT, Nat.reduceLT, Nat.reduceBEq, Nat.reduceEqDiff, Nat.reduceAdd, Int.reduceEq, Int.reduceLT, Int.reduceLE, Int.reduceGT, Int.reduceGE]
    exact GRes.next0 hw fB (m2.next wB (s2.mono fun _ q => .inl q) (.inl rfl) (.inl rfl))
set_option maxRecDepth 10000 in
set_option maxHeartbeats 8000000 in
theorem voted_spec (hw : WF A) (h : IsRd A rp r cp vb fk fa) (hr : Rng r) (hl : r.acts.length ≤ 100000) {R K W : Int} {id : Bts} (hid : id.length = 32) : ∃ w A', EvF Try.prog HH 16 [.ptr rp 0, .int .i64 R, .int .i64 K, .int .i64 W, .agg (bc id)] A w A' ∧ GRes A rp cp vb fk fa A' (r.Voted R K W id) w := by
  refine run_fn2 rfl Try.func16 (by unfold Try.f16; rfl) Try.ntmps16 (by unfold Try.f16; rfl) (by simp) ?_
  simp only [RT, Nat.reduceLT, Nat.reduceBEq, Nat.reduceEqDiff, Nat.reduceAdd, Int.reduceEq, Int.reduceLT, Int.reduceLE, Int.reduceGT, Int.reduceGE]
  obtain ⟨A1, e1, f1, r1, n1⟩ := new_var A (bc id)
  rw [← e1]
  have h1 := h.fr0 f1
  have w1 := f1.wf hw
  have hfa := faR rp
  obtain ⟨kv, av, b1, b2, b3⟩ := h1.box
  have ld := ldR b1 h.ok
  unfold Rd.Voted
  by_cases q : W = r.me
  · simp only [RT, Nat.reduceLT, Nat.reduceBEq, Nat.reduceEqDiff, Nat.reduceAdd, Int.reduceEq, Int.reduceLT, Int.reduceLE, Int.reduceGT, Int.reduceGE, hfa, ld, decide_eq_false (show ¬ ¬ (W = (r.me : Int)) from fun z => z q)]
    rw [if_neg (fun z => z q)]
    obtain ⟨w, C, m1, m2⟩ := settle_spec w1 h1 hr (by omega)
    refine run_call1 m1 ?_
    simp only [RT, Nat.reduceLT, Nat.reduceBEq, Nat.reduceEqDiff, Nat.reduceAdd, Int.reduceEq, Int.reduceLT, Int.reduceLE, Int.reduceGT, Int.reduceGE]
    exact GRes.next0 hw f1 m2
  · obtain ⟨_, A2, p1, p2, rfl, p3⟩ := put_spec w1 h1.cnt R K W hid
    have h2 := h1.putv p2 p3
    obtain ⟨w, C, m1, m2⟩ := settle_spec (p2.wf w1) h2 { hr with } (by show r.acts.length ≤ _; omega)
    simp only [RT, Nat.reduceLT, Nat.reduceBEq, Nat.reduceEqDiff, Nat.reduceAdd, Int.reduceEq, Int.reduceLT, Int.reduceLE, Int.reduceGT, Int.reduceGE, hfa, ld, decide_eq_true (show ¬ (W = (r.me : Int)) from q)]
    rw [pl_16_2, run_plan_id (by rfl)]
    simp only [RT, Nat.reduceLT, Nat.reduceBEq, Nat.reduceEqDiff, Nat.reduceAdd, Int.reduceEq, Int.reduceLT, Int.reduceLE, Int.reduceGT, Int.reduceGE, hfa, ld, ldId r1 hid]
    refine run_call1 p1 ?_
    simp only [RT, Nat.reduceLT, Nat.reduceBEq, Nat.reduceEqDiff, Nat.reduceAdd, Int.reduceEq, Int.reduceLT, Int.reduceLE, Int.reduceGT, Int.reduceGE]
    refine run_call1 m1 ?_
    simp only [RT, Nat.reduceLT, Nat.reduceBEq, Nat.reduceEqDiff, Nat.reduceAdd, Int.reduceEq, Int.reduceLT, Int.reduceLE, Int.reduceGT, Int.reduceGE]
    rw [if_pos q]
    exact GRes.next0 hw f1 (m2.next w1 (p2.mono fun _ q => .inr (.inl q)) (.inl rfl) (.inl rfl))
end
end Go.Sv.Try
namespace Go.Sv.Try
open Go Go.Proofs
set_option linter.unusedVariables false
set_option linter.unusedSimpArgs false
section
variable {A A' B : AS} {rp cp : Nat} {r r' : Rd} {vb : Nat → Nat} {fk fa fk' fa' : Option Nat} {kv av : V}
theorem faAc0 (b : Nat) : evFieldAddr Try.prog 42 (.ptr b 0) 0 = some (.ptr b 0) ∧ evFieldAddr Try.prog 42 (.ptr b 0) 1 = some (.ptr b 1) ∧ evFieldAddr Try.prog 42 (.ptr b 0) 2 = some (.ptr b 2) ∧ evFieldAddr Try.prog 42 (.ptr b 0) 3 = some (.ptr b 3) ∧ evFieldAddr Try.prog 42 (.ptr b 0) 4 = some (.ptr b 4) := ⟨by kernel_rfl, by kernel_rfl, by kernel_rfl, by kernel_rfl, by kernel_rfl⟩
theorem ldA0 {A : AS} {b : Nat} {k : BK} {a : Act} (hb : A.blk[b]? = some ⟨actC a, k⟩) (h : a.id.length = 32) : evLoad Try.prog 3 (.ptr b 0) A = some (.int .i64 a.kind) ∧ evLoad Try.prog 3 (.ptr b 1) A = some (.int .i64 a.round) ∧ evLoad Try.prog 3 (.ptr b 2) A = some (.int .i64 a.num) ∧ evLoad Try.prog 3 (.ptr b 3) A = some (.int .i64 a.valid) ∧ evLoad Try.prog 39 (.ptr b 4) A = some (.agg (bc a.id)) :=
  ⟨by rw [load_at ag3 hb]; rfl, by rw [load_at ag3 hb]; rfl, by rw [load_at ag3 hb]; rfl, by rw [load_at ag3 hb]; rfl, At.load hb (o := 4) ⟨[.int .i64 a.kind, .int .i64 a.round, .int .i64 a.num, .int .i64 a.valid], [], by simp [actC], rfl⟩ ag39 sz39 (by rw [bc_len, h])⟩
theorem Rng.recall {r : Rd} (hr : Rng r) (a : Act) : Rng (r.Recall a) ∧ (r.Recall a).acts = r.acts := by
  unfold Rd.Recall
  split
  · exact ⟨hr, rfl⟩
  rename_i q
  have q1 : 0 ≤ a.round ∧ a.round < 12 := by
    refine ⟨Int.not_lt.1 fun w => q (.inl w), Int.not_le.1 fun w => q (.inr (.inl w))⟩
  split
  · split
    · rename_i w
      exact ⟨{ hr with offers := set1_valid hr.offers ⟨w.2.1, by show a.valid ≤ 1000; have := w.2.2; omega⟩ }, rfl⟩
    · exact ⟨hr, rfl⟩
  split
  · split
    · exact ⟨hr, rfl⟩
    · rename_i qp
      have qp : putC r.n r.v a.round a.num r.me a.id = 0 := Decidable.not_not.1 qp
      have hnum : a.num = 0 ∨ a.num = 1 := by
        unfold putC at qp
        split at qp
        · simp at qp
        · rename_i w
          have : right r.n a.round a.num r.me := Decidable.not_not.1 fun w3 => w (.inl w3)
          exact this.2.2.1
      simp only []
      split
      · exact ⟨{ hr with }, rfl⟩
      · have h1 : Rng { r with v := putV r.n r.v a.round a.num r.me a.id, now := a.round, step := 1 + a.num } := { hr with now := ⟨by show -1 ≤ a.round; omega, q1.2⟩, step := ⟨by show 0 ≤ 1 + a.num; omega, by show 1 + a.num ≤ 3; omega⟩ }
        split
        · exact ⟨{ h1 with locked := ⟨by show 0 ≤ a.round + 1; omega, by show a.round + 1 ≤ 1000; omega⟩, valid := ⟨by show 0 ≤ a.round + 1; omega, by show a.round + 1 ≤ 1000; omega⟩ }, rfl⟩
        · exact ⟨h1, rfl⟩
  · exact ⟨hr, rfl⟩
end
end Go.Sv.Try
namespace Go.Sv.Try
open Go Go.Proofs
set_option linter.unusedVariables false
set_option linter.unusedSimpArgs false
theorem bldRd (n me h : Int) (cp : Nat) : evBuild Try.prog 84 [(0, .int .i64 n), (1, .int .i64 me), (2, .int .i64 h), (3, .int .i64 (-1)), (4, .int .i64 3), (12, .ptr cp 0)] = some (.agg (.int .i64 n :: .int .i64 me :: .int .i64 h :: (encR (rd0 0 0 0) .snil .snil cp).drop 3)) := by kernel_rfl
theorem bldRd0 (n me : Nat) (h : Int) (cp : Nat) : evBuild Try.prog 84 [(0, .int .i64 n), (1, .int .i64 me), (2, .int .i64 h), (3, .int .i64 (-1)), (4, .int .i64 3), (12, .ptr cp 0)] = some (.agg (encR (rd0 n me h) .snil .snil cp)) := bldRd n me h cp
theorem rok0 (n me : Nat) (h : Int) : Rok (rd0 n me h) := ⟨z32_len, z32_len, z32_len, fun _ => z32_len, fun _ _ _ => z32_len⟩
theorem rng0 {n me : Nat} {h : Int} (hm : me < n) (h0 : 0 ≤ h) (h1 : h ≤ 9223372036854775807) : Rng (rd0 n me h) where
  me := hm
  now := ⟨by show (-1 : Int) ≤ -1; omega, by show (-1 : Int) < 12; omega⟩
  height := ⟨h0, h1⟩
  valid := ⟨by show (0 : Int) ≤ 0; omega, by show (0 : Int) ≤ 1000; omega⟩
  locked := ⟨by show (0 : Int) ≤ 0; omega, by show (0 : Int) ≤ 1000; omega⟩
  step := ⟨by show (0 : Int) ≤ 3; omega, by show (3 : Int) ≤ 3; omega⟩
  known := by show ([] : List Bts).length ≤ _; simp
  offers := fun _ => ⟨by show (0 : Int) ≤ 0; omega, by show (0 : Int) ≤ 1000; omega⟩
section
variable {A A' B : AS} {rp cp : Nat} {r r' : Rd} {vb : Nat → Nat} {fk fa fk' fa' : Option Nat} {kv av : V}
def NewR (A0 : AS) (rp : Nat) (vb : Nat → Nat) : Prop := A0.blk.length ≤ rp ∧ ∀ j, j < 24 → A0.blk.length ≤ vb j
theorem RStepS.s0 {A0 : AS} (hn : NewR A0 rp vb) (h : RStepS A0 rp cp vb none none A r) : Fr S0 A0 A := by
  obtain ⟨fk', h1, _⟩ := h
  refine (Fr.refl S0 A0).trans h1 fun x q => .inr ?_
  rcases q with rfl | ⟨j, hj, rfl⟩ | q | q
  · exact hn.1
  · exact hn.2 j hj
  · exact q.elim
  · exact q.elim
def KV (rp : Nat) (A A' : AS) : Prop := ∀ (b : Nat) (cs : List V), A.blk[b]? = some ⟨cs, .var⟩ → b ≠ rp → A'.blk[b]? = some ⟨cs, .var⟩
theorem KV.trans {C : AS} (h : KV rp A B) (k : KV rp B C) : KV rp A C := fun b cs q w => k b cs (h b cs q w) w
theorem KV.of0 (h : Fr S0 A B) : KV rp A B := fun b cs q _ => h.row0 q
theorem IsRd.keeps (h : IsRd A rp r cp vb fk fa) (hf : Fr (rdS A rp vb fk fa) A B) : KV rp A B := fun b cs hb hne => hf.row b _ hb (by
  rintro (q | ⟨j, hj, q⟩ | q | q)
  · injection q with q; exact hne q
  · injection q with q; exact h.cnt.nevar hj hb q.symm
  · exact inFamO_var hb q
  · exact inFamO_var hb q)
end
end Go.Sv.Try
namespace Go.Sv
set_option linter.unusedVariables false
section
variable {r : Rd}
end
end Go.Sv
namespace Go.Sv.Try
open Go Go.Proofs
set_option linter.unusedVariables false
set_option linter.unusedSimpArgs false
section
variable {A A' B : AS} {rp cp : Nat} {r r' : Rd} {vb : Nat → Nat} {fk fa fk' fa' : Option Nat} {kv av : V}
theorem Rng.give (h : Rng r) (ha : r.acts = []) (i : RIn) : Rng (r.give i).1 ∧ (r.give i).1.acts = [] := by
  unfold Rd.give
  split
  · unfold Rd.Begin
    split
    · exact ⟨h.settle, rfl⟩
    · have h1 : Rng { r with fresh := if i.id = z32 then r.fresh else i.id } := { h with }
      exact ⟨(h1.begin (R := 0) (by omega)).1.settle, rfl⟩
  split
  · exact ⟨(h.remember i.id).1.settle, rfl⟩
  split
  · unfold Rd.Offered
    refine ⟨Rng.settle ?_, rfl⟩
    split
    · rename_i q
      exact { h with offers := set1_valid h.offers ⟨q.2.2.1, by show i.valid ≤ 1000; have := q.2.1; have := q.2.2.2.1; omega⟩ }
    · exact h
  split
  · unfold Rd.Voted
    refine ⟨Rng.settle ?_, rfl⟩
    split
    · exact { h with }
    · exact h
  split
  · unfold Rd.Timeout
    refine ⟨Rng.settle ?_, rfl⟩
    split
    · rename_i q
      split
      · exact (h.vote (k := 0) (by omega) _).1
      split
      · exact (h.vote (k := 1) (by omega) _).1
      split
      · exact (h.begin (R := i.round + 1) (by have := h.now; omega)).1
      · exact h
    · exact h
  split
  · exact ⟨{ h with }, ha⟩
  split
  · exact ⟨(h.remember i.id).1, (h.remember i.id).2.trans ha⟩
  split
  · exact ⟨(h.recall _).1, (h.recall _).2.trans ha⟩
  · exact ⟨h, ha⟩
theorem Reads.bytes (n : Nat) (hn : 0 < n) : Reads (eB n hn) (.arr n (.int .u8) 1) (fun _ => True) (fun _ => 1) := by
  intro A d cs h
  cases h with
  | @arr n sz e l vs hl hv hh =>
    obtain ⟨r, h1, h2⟩ := choose_list (R := fun i (d : Dat) (x : UInt8) => cs[i]? = some (.int .u8 x.toNat)) l 0 fun i d q => by
      obtain ⟨x, q1, _⟩ := Reads.u8 A d _ (hh i d q)
      refine ⟨x, ?_⟩
      have q1 : (cs.drop (i * 1)).take 1 = [.int .u8 x.toNat] := q1
      rw [Nat.mul_one, List.take_one, List.head?_drop] at q1
      rw [Nat.zero_add]
      cases hc : cs[i]? with
      | none => rw [hc] at q1; simp at q1
      | some c => rw [hc] at q1; simpa using q1
    refine ⟨r, ⟨ext_take (by rw [bc_len]; omega) fun i x hx => ?_, by omega⟩, trivial, by simp [Dat.bulk]⟩
    rw [bc_get] at hx
    cases hr : r[i]? with
    | none => rw [hr] at hx; simp at hx
    | some y =>
      rw [hr] at hx; simp at hx; subst hx
      have hi := (List.getElem?_eq_some_iff.1 hr).1
      have := h2 i l[i] y (List.getElem?_eq_getElem (by omega)) hr
      rwa [Nat.zero_add] at this
theorem rules_len : ∀ (k : Nat) {r : Rd}, Rng r → (Rd.rules k r).acts.length ≤ r.acts.length + 2 * k
  | 0, r, h => by unfold Rd.rules; omega
  | k + 1, r, h => by
    obtain ⟨y1, y2⟩ := h.rule
    unfold Rd.rules; split
    · have := rules_len k y1; omega
    · omega
theorem settle_len (h : Rng r) : r.settle.2.length ≤ r.acts.length + 2000 := rules_len 1000 h
theorem give_len (h : Rng r) (ha : r.acts = []) (i : RIn) : (r.give i).2.length ≤ 2001 := by
  have hl : r.acts.length = 0 := by rw [ha]; rfl
  unfold Rd.give
  split
  · unfold Rd.Begin
    split
    · have := settle_len h; omega
    · have h1 : Rng { r with fresh := if i.id = z32 then r.fresh else i.id } := { h with }
      obtain ⟨y1, y2⟩ := h1.begin (R := 0) (by omega)
      have y2 : _ ≤ r.acts.length + 1 := y2
      have := settle_len y1; omega
  split
  · have := settle_len (h.remember i.id).1
    rw [(h.remember i.id).2] at this
    unfold Rd.Know; omega
  split
  · unfold Rd.Offered
    split
    · rename_i q
      have h1 : Rng { r with offers := set1 r.offers i.round.toNat ⟨true, i.valid, i.id⟩ } := { h with offers := set1_valid h.offers ⟨q.2.2.1, by show i.valid ≤ 1000; have := q.2.1; have := q.2.2.2.1; omega⟩ }
      exact Nat.le_trans (settle_len h1) (show r.acts.length + 2000 ≤ 2001 by omega)
    · have := settle_len h; omega
  split
  · unfold Rd.Voted
    split
    · have h1 : Rng { r with v := putV r.n r.v i.round i.num i.who i.id } := { h with }
      exact Nat.le_trans (settle_len h1) (show r.acts.length + 2000 ≤ 2001 by omega)
    · have := settle_len h; omega
  split
  · unfold Rd.Timeout
    split
    · rename_i q
      split
      · obtain ⟨y1, y2⟩ := h.vote (k := 0) (by omega) n32
        have := settle_len y1; omega
      split
      · obtain ⟨y1, y2⟩ := h.vote (k := 1) (by omega) n32
        have := settle_len y1; omega
      split
      · obtain ⟨y1, y2⟩ := h.begin (R := i.round + 1) (by have := h.now; omega)
        have := settle_len y1; omega
      · have := settle_len h; omega
    · have := settle_len h; omega
  split
  · simp
  split
  · simp
  split
  · simp
  · simp
theorem zcA : (zeroT Try.prog 42).bind V.cells = some (actC ⟨0, 0, 0, 0, z32⟩) := zc42
theorem actC_one (a : Act) : (actC a).all V.one = true := by simp only [actC, List.all_cons, bc_one]; rfl
theorem newAc {A : AS} {a : Act} (h : a.id.length = 32) : ∃ A', evStore Try.prog 42 (.ptr A.blk.length 0) (.agg (actC a)) (A.push ⟨actC ⟨0, 0, 0, 0, z32⟩, .var⟩) = some A' ∧ Fr S0 A A' ∧ A'.blk[A.blk.length]? = some ⟨actC a, .var⟩ := by
  obtain ⟨A2, s1, s2, s3, s4⟩ := new_set (P := Try.prog) A (z := actC ⟨0, 0, 0, 0, z32⟩) (t := 42) (x := .agg (actC a)) (cs := actC a) rfl (by rw [actC_len h]; exact sz42) (by rw [actC_len h, actC_len z32_len]) (actC_one a)
  exact ⟨A2, s1, s2, s3⟩
theorem pEqR (b : Nat) : evEq Try.prog 31 (.ptr b 0) .pnil = some false := by kernel_rfl
theorem ld3 {A : AS} {b : Nat} {k : BK} {x y z : Int} (h : A.blk[b]? = some ⟨[.int .i64 x, .int .i64 y, .int .i64 z], k⟩) : evLoad Try.prog 3 (.ptr b 0) A = some (.int .i64 x) ∧ evLoad Try.prog 3 (.ptr b 1) A = some (.int .i64 y) ∧ evLoad Try.prog 3 (.ptr b 2) A = some (.int .i64 z) :=
  ⟨by rw [load_at ag3 h]; rfl, by rw [load_at ag3 h]; rfl, by rw [load_at ag3 h]; rfl⟩
end
end Go.Sv.Try
