/- Rounds in memory: timers, votes. -/
import Derived.Test.YtajbkniodcbcjaaRdA
namespace Go.Sv.Try
open Go Go.Proofs
set_option linter.unusedVariables false
set_option linter.unusedSimpArgs false
section
variable {A A' B : AS} {rp cp : Nat} {r r' : Rd} {vb : Nat → Nat} {fk fa fk' fa' : Option Nat} {kv av : V}
theorem proposer_spec {n h k : Int} (hn : n ≤ 7) (hn0 : 0 ≤ n) (h0 : -9223372036854775808 ≤ h) (h1 : h ≤ 9223372036854775807) (k0 : -9223372036854775808 ≤ k) (k1 : k ≤ 9223372036854775807) :
    ∃ w A', EvF Try.prog HH 13 [.int .i64 n, .int .i64 h, .int .i64 k] A w A' ∧ A' = A ∧ w = .int .i64 (proposer n h k) := by
  refine run_fn2 rfl Try.func13 (by unfold Try.f13; rfl) Try.ntmps13 (by unfold Try.f13; rfl) (by simp) ?_
  unfold proposer
  simp only [RT, Nat.reduceLT, Nat.reduceBEq, Nat.reduceEqDiff, Nat.reduceAdd, Int.reduceEq, Int.reduceLT, Int.reduceLE, Int.reduceGT, Int.reduceGE]
  by_cases q1 : n < 1
  · simp only [RT, Nat.reduceLT, Nat.reduceBEq, Nat.reduceEqDiff, Nat.reduceAdd, Int.reduceEq, Int.reduceLT, Int.reduceLE, Int.reduceGT, Int.reduceGE, decide_eq_true q1]
    rw [if_pos (.inl q1)]
  by_cases q2 : h < 0
  · simp only [RT, Nat.reduceLT, Nat.reduceBEq, Nat.reduceEqDiff, Nat.reduceAdd, Int.reduceEq, Int.reduceLT, Int.reduceLE, Int.reduceGT, Int.reduceGE, decide_eq_false q1, decide_eq_true q2]
    rw [if_pos (.inr (.inl q2))]
  by_cases q3 : k < 0
  · simp only [RT, Nat.reduceLT, Nat.reduceBEq, Nat.reduceEqDiff, Nat.reduceAdd, Int.reduceEq, Int.reduceLT, Int.reduceLE, Int.reduceGT, Int.reduceGE, decide_eq_false q1, decide_eq_false q2, decide_eq_true q3]
    rw [if_pos (.inr (.inr q3))]
  rw [if_neg (by omega)]
  obtain ⟨n, rfl⟩ := Int.eq_ofNat_of_zero_le hn0
  obtain ⟨h, rfl⟩ := Int.eq_ofNat_of_zero_le (show 0 ≤ h by omega)
  obtain ⟨k, rfl⟩ := Int.eq_ofNat_of_zero_le (show 0 ≤ k by omega)
  have e1 : (h : Int).tmod n = ((h % n : Nat) : Int) := rfl
  have e2 : (k : Int).tmod n = ((k % n : Nat) : Int) := rfl
  have l1 : h % n < n := Nat.mod_lt _ (by omega)
  have l2 : k % n < n := Nat.mod_lt _ (by omega)
  have nz : ¬ ((n : Int) = 0) := by omega
  rw [e1, e2]
  simp only [RT, Nat.reduceLT, Nat.reduceBEq, Nat.reduceEqDiff, Nat.reduceAdd, Int.reduceEq, Int.reduceLT, Int.reduceLE, Int.reduceGT, Int.reduceGE, decide_eq_false q1, decide_eq_false q2, decide_eq_false q3]
  rw [pl_13_3, run_plan_id (by rfl)]
  simp only [RT, Nat.reduceLT, Nat.reduceBEq, Nat.reduceEqDiff, Nat.reduceAdd, Int.reduceEq, Int.reduceLT, Int.reduceLE, Int.reduceGT, Int.reduceGE, bi_rem, if_neg nz, e1, e2, evSubI (a := (n : Int)) (b := ((k % n : Nat) : Int)) (by omega) (by omega)]
  by_cases q : ((h % n : Nat) : Int) ≥ (n : Int) - ((k % n : Nat) : Int)
  · rw [if_pos q]
    simp only [RT, Nat.reduceLT, Nat.reduceBEq, Nat.reduceEqDiff, Nat.reduceAdd, Int.reduceEq, Int.reduceLT, Int.reduceLE, Int.reduceGT, Int.reduceGE, decide_eq_true q, evSubI (a := (n : Int)) (b := ((k % n : Nat) : Int)) (by omega) (by omega), evSubI (a := ((h % n : Nat) : Int)) (b := (n : Int) - ((k % n : Nat) : Int)) (by omega) (by omega)]
  · rw [if_neg q]
    simp only [RT, Nat.reduceLT, Nat.reduceBEq, Nat.reduceEqDiff, Nat.reduceAdd, Int.reduceEq, Int.reduceLT, Int.reduceLE, Int.reduceGT, Int.reduceGE, decide_eq_false q, wrapI (n := ((h % n : Nat) : Int) + ((k % n : Nat) : Int)) (by omega) (by omega)]
set_option maxRecDepth 10000 in
set_option maxHeartbeats 8000000 in
theorem timer_spec (hw : WF A) (h : IsRd A rp r cp vb fk fa) {k : Nat} (hk : k < 3) (h0 : 0 ≤ r.now) (h12 : r.now < 12) (hl : r.acts.length ≤ 100000000) : ∃ w A', EvF Try.prog HH 42 [.ptr rp 0, .int .i64 (k : Int)] A w A' ∧ RStep A rp cp vb fk fa A' (r.timer k) := by
  refine run_fn2 rfl Try.func42 (by unfold Try.f42; rfl) Try.ntmps42 (by unfold Try.f42; rfl) (by simp) ?_
  obtain ⟨kv, av, b1, b2, b3⟩ := h.box
  have ld := ldR b1 h.ok
  obtain ⟨i, hi⟩ := Int.eq_ofNat_of_zero_le h0
  have hi12 : i < 12 := by omega
  rw [hi] at ld
  have lt := ldTi b1 h.ok hi12 hk
  have hin : r.now.toNat = i := by rw [hi]; rfl
  unfold Rd.timer
  rw [hin]
  simp only [RT, Nat.reduceLT, Nat.reduceBEq, Nat.reduceEqDiff, Nat.reduceAdd, Int.reduceEq, Int.reduceLT, Int.reduceLE, Int.reduceGT, Int.reduceGE]
  rw [pl_42_0, run_plan_id (by rfl)]
  simp only [RT, Nat.reduceLT, Nat.reduceBEq, Nat.reduceEqDiff, Nat.reduceAdd, Int.reduceEq, Int.reduceLT, Int.reduceLE, Int.reduceGT, Int.reduceGE, (faR rp), ld, ixTi hi12, ixTj hk, lt]
  cases q : r.timed i k with
  | true =>
    simp only [RT, Nat.reduceLT, Nat.reduceBEq, Nat.reduceEqDiff, Nat.reduceAdd, Int.reduceEq, Int.reduceLT, Int.reduceLE, Int.reduceGT, Int.reduceGE]
    exact .rfl' h
  | false =>
    obtain ⟨A1, s1, s2, s3⟩ := stTi b1 h.ok hi12 hk
    have h1 : IsRd A1 rp { r with timed := set2 r.timed i k true } cp vb fk fa := h.upd b1 b2 b3 s2 s3 rfl rfl rfl rfl { h.ok with }
    have ld1 := ldR s3 h1.ok
    have ld1 : evLoad Try.prog 3 (.ptr rp 3) A1 = some (.int .i64 (i : Int)) := by rw [ld1.2.2.2.1, ← hi]
    simp only [RT, Nat.reduceLT, Nat.reduceBEq, Nat.reduceEqDiff, Nat.reduceAdd, Int.reduceEq, Int.reduceLT, Int.reduceLE, Int.reduceGT, Int.reduceGE]
    rw [pl_42_1, run_plan_id (by rfl)]
    simp only [RT, Nat.reduceLT, Nat.reduceBEq, Nat.reduceEqDiff, Nat.reduceAdd, Int.reduceEq, Int.reduceLT, Int.reduceLE, Int.reduceGT, Int.reduceGE, (faR rp), ld, ixTi hi12, ixTj hk, s1, ld1, bldA3]
    obtain ⟨w, A2, k1, k2⟩ := do_spec (s2.wf hw) h1 (a := ⟨3, r.now, k, 0, z32⟩) rfl hl
    rw [show (⟨3, r.now, k, 0, z32⟩ : Act) = ⟨3, i, k, 0, z32⟩ by rw [hi]] at k1
    refine run_call1 k1 ?_
    simp only [RT, Nat.reduceLT, Nat.reduceBEq, Nat.reduceEqDiff, Nat.reduceAdd, Int.reduceEq, Int.reduceLT, Int.reduceLE, Int.reduceGT, Int.reduceGE]
    exact k2.next hw (s2.mono fun _ q => .inl q) (.inl rfl) (.inl rfl)
theorem IsRd.putv (h : IsRd A rp r cp vb fk fa) (hf : Fr (vbS vb) A B) {v' : Vt} (hc : IsCnt B cp r.n v' vb) : IsRd B rp { r with v := v' } cp vb fk fa := by
  obtain ⟨kv, av, b1, b2, b3⟩ := h.box
  have hoff : ∀ fo : Option Nat, (∀ j, j < 24 → fo ≠ some (vb j)) → Off fo A (vbS vb) := by
    intro fo hfo b q f k base hf hk
    obtain ⟨j, hj, q⟩ := q
    injection q with q; subst q
    rw [h.cnt.row j hj] at hk; cases hk
    intro z
    injection z with z1 z2
    exact hfo j hj (by rw [hf, z1])
  exact { box := ⟨kv, av, hf.row _ _ b1 (fun ⟨j, hj, q⟩ => h.cnt.nevar hj b1 (by injection q with q; exact q.symm)), b2.fr hf (hoff _ fun j hj => (h.ne2 j hj).1), b3.fr hf (hoff _ fun j hj => (h.ne2 j hj).2)⟩
          cnt := hc, ok := { h.ok with v := hc.len }, rc := h.rc, ne1 := h.ne1, ne2 := h.ne2 }
set_option maxRecDepth 10000 in
set_option maxHeartbeats 8000000 in
theorem vote_spec (hw : WF A) (h : IsRd A rp r cp vb fk fa) {k : Nat} (hk : k < 2) {id : Bts} (hid : id.length = 32) (hl : r.acts.length ≤ 100000000) : ∃ w A', EvF Try.prog HH 33 [.ptr rp 0, .int .i64 (k : Int), .agg (bc id)] A w A' ∧ RStep A rp cp vb fk fa A' (r.vote k id) := by
  refine run_fn2 rfl Try.func33 (by unfold Try.f33; rfl) Try.ntmps33 (by unfold Try.f33; rfl) (by simp) ?_
  simp only [RT, Nat.reduceLT, Nat.reduceBEq, Nat.reduceEqDiff, Nat.reduceAdd, Int.reduceEq, Int.reduceLT, Int.reduceLE, Int.reduceGT, Int.reduceGE]
  obtain ⟨A1, e1, f1, r1, n1⟩ := new_var A (bc id)
  rw [← e1]
  have h1 := h.fr0 f1
  have w1 := f1.wf hw
  obtain ⟨kv, av, b1, b2, b3⟩ := h1.box
  have ld := ldR b1 h1.ok
  obtain ⟨_, A2, p1, p2, rfl, p3⟩ := put_spec w1 h1.cnt r.now k r.me hid
  rw [pl_33_1, run_plan_id (by rfl)]
  simp only [RT, Nat.reduceLT, Nat.reduceBEq, Nat.reduceEqDiff, Nat.reduceAdd, Int.reduceEq, Int.reduceLT, Int.reduceLE, Int.reduceGT, Int.reduceGE, (faR rp), ld, ldId r1 hid]
  refine run_call1 p1 ?_
  have h2 := h1.putv p2 p3
  have w2 := p2.wf w1
  have f2 : Fr (rdS A1 rp vb fk fa) A1 A2 := p2.mono fun _ q => .inr (.inl q)
  unfold Rd.vote
  have hw1 : IntKind.i64.wrap (1 + (k : Int)) = 1 + (k : Int) := wrapI (by omega) (by omega)
  by_cases q : putC r.n r.v r.now k r.me id = 0
  rotate_left
  · have ev : putV r.n r.v r.now k r.me id = r.v := by unfold putV; rw [if_neg q]
    rw [ev] at h2
    obtain ⟨kv2, av2, c1, c2, c3⟩ := h2.box
    obtain ⟨A3, s1, s2, s3⟩ := (stInt c1 h2.ok (1 + (k : Int))).2.1
    have h3 : IsRd A3 rp { r with step := 1 + (k : Int) } cp vb fk fa := h2.upd c1 c2 c3 s2 s3 rfl rfl rfl rfl { h2.ok with }
    simp only [RT, Nat.reduceLT, Nat.reduceBEq, Nat.reduceEqDiff, Nat.reduceAdd, Int.reduceEq, Int.reduceLT, Int.reduceLE, Int.reduceGT, Int.reduceGE, decide_eq_false q, (faR rp), hw1, s1]
    rw [if_neg q]
    exact RStep.next0 hw f1 (RStep.next w1 f2 (.inl rfl) (.inl rfl) (.upd s2 h3))
  · have r2 := p2.row _ _ r1 (fun ⟨j, hj, q⟩ => h1.cnt.nevar hj r1 (by injection q with q; exact q.symm))
    obtain ⟨kv2, av2, c1, c2, c3⟩ := h2.box
    have ld2 := ldR c1 h2.ok
    simp only [RT, Nat.reduceLT, Nat.reduceBEq, Nat.reduceEqDiff, Nat.reduceAdd, Int.reduceEq, Int.reduceLT, Int.reduceLE, Int.reduceGT, Int.reduceGE, decide_eq_true q]
    rw [pl_33_2, run_plan_id (by rfl)]
    simp only [RT, Nat.reduceLT, Nat.reduceBEq, Nat.reduceEqDiff, Nat.reduceAdd, Int.reduceEq, Int.reduceLT, Int.reduceLE, Int.reduceGT, Int.reduceGE, (faR rp), ld2, ldId r2 hid, bldA2 hid]
    obtain ⟨w, A3, k1, fk3, fa3, k2, k3, k4, k5⟩ := do_spec w2 h2 (a := ⟨2, r.now, k, 0, id⟩) hid hl
    refine run_call1 k1 ?_
    obtain ⟨kv3, av3, d1, d2, d3⟩ := k5.box
    obtain ⟨A4, s1, s2, s3⟩ := (stInt d1 k5.ok (1 + (k : Int))).2.1
    have h4 := k5.upd (r' := { (({ r with v := putV r.n r.v r.now k r.me id } : Rd).do_ ⟨2, r.now, k, 0, id⟩) with step := 1 + (k : Int) }) d1 d2 d3 s2 s3 rfl rfl rfl rfl { k5.ok with }
    simp only [RT, Nat.reduceLT, Nat.reduceBEq, Nat.reduceEqDiff, Nat.reduceAdd, Int.reduceEq, Int.reduceLT, Int.reduceLE, Int.reduceGT, Int.reduceGE, (faR rp), hw1, s1]
    rw [if_pos q]
    exact RStep.next0 hw f1 (RStep.next w1 f2 (.inl rfl) (.inl rfl) (RStep.next w2 k2 k3 k4 (.upd s2 h4)))
end
end Go.Sv.Try
namespace Go.Sv.Try
open Go Go.Proofs
set_option linter.unusedVariables false
set_option linter.unusedSimpArgs false
structure Rng (r : Rd) : Prop where
  me : r.me < r.n
  now : -1 ≤ r.now ∧ r.now < 12
  height : 0 ≤ r.height ∧ r.height ≤ 9223372036854775807
  valid : 0 ≤ r.valid ∧ r.valid ≤ 1000
  locked : 0 ≤ r.locked ∧ r.locked ≤ 1000
  step : 0 ≤ r.step ∧ r.step ≤ 3
  known : r.known.length ≤ 1000000
  offers : ∀ i, 0 ≤ (r.offers i).valid ∧ (r.offers i).valid ≤ 1000
theorem set1_len {f : Nat → Ofr} {i : Nat} {o : Ofr} (h : ∀ j, (f j).id.length = 32) (ho : o.id.length = 32) (j : Nat) : (set1 f i o j).id.length = 32 := by
  unfold set1; split
  · exact ho
  · exact h j
section
variable {A A' B : AS} {rp cp : Nat} {r r' : Rd} {vb : Nat → Nat} {fk fa fk' fa' : Option Nat} {kv av : V}
set_option maxRecDepth 10000 in
set_option maxHeartbeats 16000000 in
theorem begin_spec (hw : WF A) (h : IsRd A rp r cp vb fk fa) (hr : Rng r) {R : Int} (hR : 0 ≤ R) (hR2 : R ≤ 9223372036854775807) (hl : r.acts.length ≤ 10000000) : ∃ w A', EvF Try.prog HH 32 [.ptr rp 0, .int .i64 R] A w A' ∧ RStep A rp cp vb fk fa A' (r.begin R) := by
  refine run_fn2 rfl Try.func32 (by unfold Try.f32; rfl) Try.ntmps32 (by unfold Try.f32; rfl) (by simp) ?_
  simp only [RT, Nat.reduceLT, Nat.reduceBEq, Nat.reduceEqDiff, Nat.reduceAdd, Int.reduceEq, Int.reduceLT, Int.reduceLE, Int.reduceGT, Int.reduceGE]
  have hfa := faR rp
  obtain ⟨kv, av, b1, b2, b3⟩ := h.box
  unfold Rd.begin
  by_cases q12 : 12 ≤ R
  · obtain ⟨A1, s1, s2, s3⟩ := (stInt b1 h.ok 3).2.1
    have h1 : IsRd A1 rp { r with step := 3 } cp vb fk fa := h.upd b1 b2 b3 s2 s3 rfl rfl rfl rfl { h.ok with }
    simp only [RT, Nat.reduceLT, Nat.reduceBEq, Nat.reduceEqDiff, Nat.reduceAdd, Int.reduceEq, Int.reduceLT, Int.reduceLE, Int.reduceGT, Int.reduceGE, decide_eq_true (show R ≥ 12 from q12), hfa, s1]
    rw [if_pos q12]
    exact .upd s2 h1
  rw [if_neg q12]
  obtain ⟨i, rfl⟩ := Int.eq_ofNat_of_zero_le hR
  have hi12 : i < 12 := by omega
  obtain ⟨A1, s1, s2, s3⟩ := (stInt b1 h.ok (i : Int)).1
  have h1 : IsRd A1 rp { r with now := (i : Int) } cp vb fk fa := h.upd b1 b2 b3 s2 s3 rfl rfl rfl rfl { h.ok with }
  have b2' := b2.fr s2 (.box b1)
  have b3' := b3.fr s2 (.box b1)
  obtain ⟨A2, t1, t2, t3⟩ := (stInt s3 h1.ok 0).2.1
  have h2 : IsRd A2 rp { r with now := (i : Int), step := 0 } cp vb fk fa := h1.upd s3 b2' b3' t2 t3 rfl rfl rfl rfl { h.ok with }
  have w1 := s2.wf hw
  have w2 := t2.wf w1
  have step2 : ∀ {A' : AS} {r' : Rd}, RStep A2 rp cp vb fk fa A' r' → RStep A rp cp vb fk fa A' r' := fun k => RStep.next hw (s2.mono fun _ q => .inl q) (.inl rfl) (.inl rfl) (RStep.next w1 (t2.mono fun _ q => .inl q) (.inl rfl) (.inl rfl) k)
  have ld2 := ldR t3 h2.ok
  obtain ⟨r1, hr1⟩ : ∃ r1 : Rd, r1 = { r with now := (i : Int), step := 0 } := ⟨_, rfl⟩
  have en : r1.n = r.n ∧ r1.me = r.me ∧ r1.height = r.height ∧ r1.valid = r.valid ∧ r1.known = r.known ∧ r1.acts = r.acts ∧ r1.best = r.best ∧ r1.fresh = r.fresh ∧ r1.offers = r.offers ∧ r1.now = (i : Int) ∧ r1.step = 0 := by rw [hr1]; exact ⟨rfl, rfl, rfl, rfl, rfl, rfl, rfl, rfl, rfl, rfl, rfl⟩
  rw [← hr1] at h2 t3 ⊢
  have hsm := h.cnt.small
  obtain ⟨_, _, p1, hA, rfl⟩ := proposer_spec (A := A2) (n := r.n) (h := r.height) (k := (i : Int)) (by omega) (by omega) (by have := hr.height; omega) hr.height.2 (by omega) (by omega)
  rw [hA] at p1
  simp only [RT, Nat.reduceLT, Nat.reduceBEq, Nat.reduceEqDiff, Nat.reduceAdd, Int.reduceEq, Int.reduceLT, Int.reduceLE, Int.reduceGT, Int.reduceGE, decide_eq_false (show ¬ (i : Int) ≥ 12 from q12), hfa, s1, t1, pl_32_3, ld2, rc_nil]
  refine run_call1 p1 ?_
  simp only [RT, Nat.reduceLT, Nat.reduceBEq, Nat.reduceEqDiff, Nat.reduceAdd, Int.reduceEq, Int.reduceLT, Int.reduceLE, Int.reduceGT, Int.reduceGE, rc_nil]
  refine ⟨rc_load (ha := rfl) rfl ld2.2.1 rfl rc_nil, ?_⟩
  have tm : ∀ {B : AS} (hB : Fr S0 A2 B), ∃ w A', EvF Try.prog HH 42 [.ptr rp 0, .int .i64 0] B w A' ∧ RStep A rp cp vb fk fa A' (r1.timer 0) := by
    intro B hB
    obtain ⟨w, A', k1, k2⟩ := timer_spec (hB.wf w2) (h2.fr0 hB) (k := 0) (by omega) (by rw [en.2.2.2.2.2.2.2.2.2.1]; omega) (by rw [en.2.2.2.2.2.2.2.2.2.1]; omega) (by rw [en.2.2.2.2.2.1]; omega)
    exact ⟨w, A', k1, step2 (RStep.next0 w2 hB k2)⟩
  by_cases qp : proposer r.n r.height i = r.me
  rotate_left
  · obtain ⟨w, A3, k1, k2⟩ := tm (.refl _ _)
    simp only [RT, Nat.reduceLT, Nat.reduceBEq, Nat.reduceEqDiff, Nat.reduceAdd, Int.reduceEq, Int.reduceLT, Int.reduceLE, Int.reduceGT, Int.reduceGE, decide_eq_true (show ¬ (proposer (r.n : Int) r.height i = (r.me : Int)) from qp), rc_nil]
    refine run_call1 k1 ?_
    simp only [RT, Nat.reduceLT, Nat.reduceBEq, Nat.reduceEqDiff, Nat.reduceAdd, Int.reduceEq, Int.reduceLT, Int.reduceLE, Int.reduceGT, Int.reduceGE]
    rw [if_pos qp]
    exact k2
  simp only [RT, Nat.reduceLT, Nat.reduceBEq, Nat.reduceEqDiff, Nat.reduceAdd, Int.reduceEq, Int.reduceLT, Int.reduceLE, Int.reduceGT, Int.reduceGE, decide_eq_false (show ¬ ¬ (proposer (r.n : Int) r.height i = (r.me : Int)) from fun q => q qp), rc_nil, hfa, ld2, zcI]
  obtain ⟨A3, u1, u2, u3⟩ := newId (A := A2) h.ok.fresh
  simp only [RT, Nat.reduceLT, Nat.reduceBEq, Nat.reduceEqDiff, Nat.reduceAdd, Int.reduceEq, Int.reduceLT, Int.reduceLE, Int.reduceGT, Int.reduceGE, u1]
  have h3 := h2.fr0 u2
  have w3 := u2.wf w2
  have ld3 := ldR (u2.row0 t3) h3.ok
  rw [en.2.2.2.1, en.2.2.2.2.2.2.1] at ld3
  simp only [RT, Nat.reduceLT, Nat.reduceBEq, Nat.reduceEqDiff, Nat.reduceAdd, Int.reduceEq, Int.reduceLT, Int.reduceLE, Int.reduceGT, Int.reduceGE, hfa, ld3]
  obtain ⟨id, hid⟩ : ∃ id, id = if r.valid > 0 then r.best else r.fresh := ⟨_, rfl⟩
  have hidl : id.length = 32 := by rw [hid]; split; exact h.ok.best; exact h.ok.fresh
  rw [if_neg (show ¬ proposer r.n r.height i ≠ r.me from fun q => q qp), ← hid]
  refine condK_cut (fun z e B => Is z .normal ∧ e.get 0 = .ptr rp 0 ∧ e.get 1 = .int .i64 i ∧ e.get 4 = .ptr A2.blk.length 0 ∧ Fr S0 A2 B ∧ B.blk[A2.blk.length]? = some ⟨bc id, .var⟩) ?_ ?_
  · refine condK_of (fun q => ?_) (fun q => ?_)
    · rw [if_pos q] at hid
      obtain ⟨A4, y1, y2, y3⟩ := setId u3 h.ok.fresh h.ok.best
      simp only [RT, Nat.reduceLT, Nat.reduceBEq, Nat.reduceEqDiff, Nat.reduceAdd, Int.reduceEq, Int.reduceLT, Int.reduceLE, Int.reduceGT, Int.reduceGE, hfa, ld3, y1]
      exact ⟨rfl, u2.row_ y2 (Nat.le_refl _), by rw [hid]; exact y3⟩
    · rw [if_neg q] at hid
      simp only [RT, Nat.reduceLT, Nat.reduceBEq, Nat.reduceEqDiff, Nat.reduceAdd, Int.reduceEq, Int.reduceLT, Int.reduceLE, Int.reduceGT, Int.reduceGE]
      exact ⟨rfl, u2, by rw [hid]; exact u3⟩
  rintro z e B ⟨rfl, g0, g1, g4, hB, gB⟩
  have h4 := h2.fr0 hB
  have w4 := hB.wf w2
  have b4 := hB.row0 t3
  have hof := ldOf b4 h4.ok hi12
  have fof := faOf rp (103 + i * 34)
  rw [en.2.2.2.2.2.2.2.2.1] at hof
  simp only [RT, Nat.reduceLT, Nat.reduceBEq, Nat.reduceEqDiff, Nat.reduceAdd, Int.reduceEq, Int.reduceLT, Int.reduceLE, Int.reduceGT, Int.reduceGE, g0, g1, hfa, ixOf hi12, fof, hof]
  rw [show ((i : Int)).toNat = i from rfl]
  cases qt : (r.offers i).there with
  | true =>
    simp only [RT, Nat.reduceLT, Nat.reduceBEq, Nat.reduceEqDiff, Nat.reduceAdd, Int.reduceEq, Int.reduceLT, Int.reduceLE, Int.reduceGT, Int.reduceGE]
    exact step2 (.of0 h2 hB)
  | false =>
    simp only [RT, Nat.reduceLT, Nat.reduceBEq, Nat.reduceEqDiff, Nat.reduceAdd, Int.reduceEq, Int.reduceLT, Int.reduceLE, Int.reduceGT, Int.reduceGE, g4, ldId gB hidl, bldZ, eqZ hidl z32_len]
    by_cases qz : id = z32
    · obtain ⟨w, A5, k1, k2⟩ := tm hB
      simp only [RT, Nat.reduceLT, Nat.reduceBEq, Nat.reduceEqDiff, Nat.reduceAdd, Int.reduceEq, Int.reduceLT, Int.reduceLE, Int.reduceGT, Int.reduceGE, decide_eq_true qz, g0]
      refine run_call1 k1 ?_
      simp only [RT, Nat.reduceLT, Nat.reduceBEq, Nat.reduceEqDiff, Nat.reduceAdd, Int.reduceEq, Int.reduceLT, Int.reduceLE, Int.reduceGT, Int.reduceGE]
      rw [if_pos (.inl qz)]
      exact k2
    have ld4 := ldR b4 h4.ok
    rw [en.2.2.2.1] at ld4
    have last : ∀ {C : AS}, Fr S0 A2 C → C.blk[A2.blk.length]? = some ⟨bc id, .var⟩ → ∃ D E w, evStore Try.prog 79 (.ptr rp (103 + i * 34)) (.agg (offC ⟨true, r.valid, id⟩)) C = some D ∧ evLoad Try.prog 3 (.ptr rp 6) C = some (.int .i64 r.valid) ∧ evLoad Try.prog 39 (.ptr A2.blk.length 0) C = some (.agg (bc id)) ∧ evLoad Try.prog 3 (.ptr rp 6) D = some (.int .i64 r.valid) ∧ evLoad Try.prog 39 (.ptr A2.blk.length 0) D = some (.agg (bc id))
        ∧ EvF Try.prog HH 43 [.ptr rp 0, .agg (actC ⟨1, i, 0, r.valid, id⟩)] D w E ∧ RStep A rp cp vb fk fa E (({ r1 with offers := set1 r1.offers i ⟨true, r.valid, id⟩ } : Rd).do_ ⟨1, i, 0, r.valid, id⟩) := by
      intro C hC gC
      have hc := h2.fr0 hC
      have wC := hC.wf w2
      obtain ⟨kv5, av5, c1, c2, c3⟩ := hc.box
      have ldc := ldR c1 hc.ok
      rw [en.2.2.2.1] at ldc
      obtain ⟨D, x1, x2, x3⟩ := stOf c1 hc.ok (o := ⟨true, r.valid, id⟩) hidl hi12
      have hD := hc.upd (r' := { r1 with offers := set1 r1.offers i ⟨true, r.valid, id⟩ }) c1 c2 c3 x2 x3 rfl rfl rfl rfl { hc.ok with offers := set1_len hc.ok.offers hidl }
      have ldd := ldR x3 hD.ok
      have hne : A2.blk.length ≠ rp := by have := row_lt t3; omega
      have gD := x2.rowNe gC hne
      obtain ⟨w, E, k1, k2⟩ := do_spec (x2.wf wC) hD (a := ⟨1, i, 0, r.valid, id⟩) hidl (by show r1.acts.length ≤ _; rw [en.2.2.2.2.2.1]; omega)
      refine ⟨D, E, w, x1, ldc.2.2.2.2.2.2.1, ldId gC hidl, ?_, ldId gD hidl, k1, step2 (RStep.next0 w2 hC (RStep.next wC (x2.mono fun _ q => .inl q) (.inl rfl) (.inl rfl) k2))⟩
      rw [ldd.2.2.2.2.2.2.1]; show some (V.int .i64 r1.valid) = _; rw [en.2.2.2.1]
    simp only [RT, Nat.reduceLT, Nat.reduceBEq, Nat.reduceEqDiff, Nat.reduceAdd, Int.reduceEq, Int.reduceLT, Int.reduceLE, Int.reduceGT, Int.reduceGE, decide_eq_false qz, g0, hfa, ld4]
    by_cases qv : r.valid > 0
    rotate_left
    · obtain ⟨D, E, w, x1, x2, x3, x4, x5, x6, x7⟩ := last hB gB
      simp only [RT, Nat.reduceLT, Nat.reduceBEq, Nat.reduceEqDiff, Nat.reduceAdd, Int.reduceEq, Int.reduceLT, Int.reduceLE, Int.reduceGT, Int.reduceGE, decide_eq_false qv]
      rw [pl_32_8, run_plan_id (by rfl)]
      simp only [RT, Nat.reduceLT, Nat.reduceBEq, Nat.reduceEqDiff, Nat.reduceAdd, Int.reduceEq, Int.reduceLT, Int.reduceLE, Int.reduceGT, Int.reduceGE, g0, g1, hfa, x2, g4, x3, bldOf hidl, ixOf hi12, x1]
      rw [pl_32_9, run_plan_id (by rfl)]
      simp only [RT, Nat.reduceLT, Nat.reduceBEq, Nat.reduceEqDiff, Nat.reduceAdd, Int.reduceEq, Int.reduceLT, Int.reduceLE, Int.reduceGT, Int.reduceGE, g0, g1, hfa, x4, g4, x5, bldA1 hidl]
      refine run_call1 x6 ?_
      simp only [RT, Nat.reduceLT, Nat.reduceBEq, Nat.reduceEqDiff, Nat.reduceAdd, Int.reduceEq, Int.reduceLT, Int.reduceLE, Int.reduceGT, Int.reduceGE]
      rw [if_neg (by rintro (z | z); exact qz z; exact qv z.1)]
      exact x7
    obtain ⟨_, C, m1, m2, rfl⟩ := has_spec w4 h4 hidl (by rw [en.2.2.2.2.1]; have := hr.known; omega)
    simp only [RT, Nat.reduceLT, Nat.reduceBEq, Nat.reduceEqDiff, Nat.reduceAdd, Int.reduceEq, Int.reduceLT, Int.reduceLE, Int.reduceGT, Int.reduceGE, decide_eq_true qv, g0, g4, ldId gB hidl]
    rw [en.2.2.2.2.1] at m1
    refine run_call1 m1 ?_
    have hC := hB.then0 m2
    have gC := m2.row0 gB
    by_cases qk : id ∈ r.known
    · obtain ⟨D, E, w, x1, x2, x3, x4, x5, x6, x7⟩ := last hC gC
      simp only [RT, Nat.reduceLT, Nat.reduceBEq, Nat.reduceEqDiff, Nat.reduceAdd, Int.reduceEq, Int.reduceLT, Int.reduceLE, Int.reduceGT, Int.reduceGE, decide_eq_true qk]
      rw [pl_32_8, run_plan_id (by rfl)]
      simp only [RT, Nat.reduceLT, Nat.reduceBEq, Nat.reduceEqDiff, Nat.reduceAdd, Int.reduceEq, Int.reduceLT, Int.reduceLE, Int.reduceGT, Int.reduceGE, g0, g1, hfa, x2, g4, x3, bldOf hidl, ixOf hi12, x1]
      rw [pl_32_9, run_plan_id (by rfl)]
      simp only [RT, Nat.reduceLT, Nat.reduceBEq, Nat.reduceEqDiff, Nat.reduceAdd, Int.reduceEq, Int.reduceLT, Int.reduceLE, Int.reduceGT, Int.reduceGE, g0, g1, hfa, x4, g4, x5, bldA1 hidl]
      refine run_call1 x6 ?_
      simp only [RT, Nat.reduceLT, Nat.reduceBEq, Nat.reduceEqDiff, Nat.reduceAdd, Int.reduceEq, Int.reduceLT, Int.reduceLE, Int.reduceGT, Int.reduceGE]
      rw [if_neg (by rintro (z | z); exact qz z; exact z.2 qk)]
      exact x7
    · obtain ⟨w, A5, k1, k2⟩ := tm hC
      simp only [RT, Nat.reduceLT, Nat.reduceBEq, Nat.reduceEqDiff, Nat.reduceAdd, Int.reduceEq, Int.reduceLT, Int.reduceLE, Int.reduceGT, Int.reduceGE, decide_eq_false qk, g0]
      refine run_call1 k1 ?_
      simp only [RT, Nat.reduceLT, Nat.reduceBEq, Nat.reduceEqDiff, Nat.reduceAdd, Int.reduceEq, Int.reduceLT, Int.reduceLE, Int.reduceGT, Int.reduceGE]
      rw [if_pos (.inr ⟨qv, qk⟩)]
      exact k2
end
end Go.Sv.Try
namespace Go.Sv
open Go
theorem run_cut1 {P : Program} {H : Hints} {f : FuncId} {nt : Nat} {a : Kt} {k2 : List Kt} {x : Ex} {e : Env} {A : AS} {Q : Ex → Env → AS → Prop} (R : Ex → Env → AS → Prop) (h : Run P H f nt [a] x e A R) (hk : ∀ x e A, R x e A → Run P H f nt k2 x e A Q) : Run P H f nt (a :: k2) x e A Q := run_app (k1 := [a]) h hk
end Go.Sv
namespace Go.Sv.Try
open Go Go.Proofs
set_option linter.unusedVariables false
set_option linter.unusedSimpArgs false
def rest2 (r : Rd) : Rd × Bool :=
  if r.step = 1 ∧ need r.n ≤ forI r.n r.v r.now 0 n32 then (r.vote 1 n32, true) else
  let r1 := if r.step = 1 ∧ need r.n ≤ allI r.n r.v r.now 0 then r.timer 1 else r
  (if need r.n ≤ allI r.n r.v r.now 1 then r1.timer 2 else r1, false)
def newSure (r : Rd) (id : Bts) : Prop := r.sure r.now 0 = some id ∧ id ∈ r.known ∧ r.step ≥ 1 ∧ r.valid ≠ r.now + 1
theorem rest_yes {r : Rd} {id : Bts} (h : newSure r id) : r.rest = (if r.step = 1 then ({ r with valid := r.now + 1, best := id, locked := r.now + 1, lock := id } : Rd).vote 1 id else { r with valid := r.now + 1, best := id }, true) := by
  unfold Rd.rest; simp only []; rw [h.1]; simp only []; rw [if_pos h.2]
theorem rest_no {r : Rd} (h : ∀ id, ¬ newSure r id) : r.rest = rest2 r := by
  unfold Rd.rest; simp only []
  cases q : r.sure r.now 0 with
  | none => rfl
  | some id => simp only []; rw [if_neg (fun w => h id ⟨q, w⟩)]; rfl
section
variable {A A' B : AS} {rp cp : Nat} {r r' : Rd} {vb : Nat → Nat} {fk fa fk' fa' : Option Nat} {kv av : V}
set_option maxRecDepth 10000 in
set_option maxHeartbeats 16000000 in
theorem rest_spec (hw : WF A) (h : IsRd A rp r cp vb fk fa) (hr : Rng r) (h0 : 0 ≤ r.now) (hl : r.acts.length ≤ 10000000) : ∃ w A', EvF Try.prog HH 48 [.ptr rp 0] A w A' ∧ RStep A rp cp vb fk fa A' r.rest.1 ∧ w = .bool r.rest.2 := by
  refine run_fn2 rfl Try.func48 (by unfold Try.f48; rfl) Try.ntmps48 (by unfold Try.f48; rfl) (by simp) ?_
  simp only [RT, Nat.reduceLT, Nat.reduceBEq, Nat.reduceEqDiff, Nat.reduceAdd, Int.reduceEq, Int.reduceLT, Int.reduceLE, Int.reduceGT, Int.reduceGE]
  have hfa := faR rp
  have hsm := h.cnt.small
  have hnow := hr.now
  have ldA := fun {B : AS} (hB : Fr S0 A B) => (by obtain ⟨kv, av, b1, _⟩ := (h.fr0 hB).box; exact ⟨kv, av, b1, ldR b1 h.ok⟩ : ∃ kv av, B.blk[rp]? = some ⟨encR r kv av cp, .var⟩ ∧ _)
  obtain ⟨kv, av, b1, b2, b3⟩ := h.box
  have ld := ldR b1 h.ok
  simp only [RT, Nat.reduceLT, Nat.reduceBEq, Nat.reduceEqDiff, Nat.reduceAdd, Int.reduceEq, Int.reduceLT, Int.reduceLE, Int.reduceGT, Int.reduceGE, hfa, ld]
  obtain ⟨_, A1, k1, k2, x, hx, rfl, hsx⟩ := sure_spec hw h r.now 0
  refine run_call1 k1 ?_
  obtain ⟨A2, t1, t2, t3⟩ := newId (A := A1) hx
  simp only [RT, Nat.reduceLT, Nat.reduceBEq, Nat.reduceEqDiff, Nat.reduceAdd, Int.reduceEq, Int.reduceLT, Int.reduceLE, Int.reduceGT, Int.reduceGE, zcI, t1]
  have f2 := k2.then0 t2
  have w2 := f2.wf hw
  have h2 := h.fr0 f2
  obtain ⟨xb, hxb⟩ : ∃ b, b = A1.blk.length := ⟨_, rfl⟩
  rw [← hxb] at t3 ⊢
  have bx := f2.row0 b1
  have ld2 := ldR bx h2.ok
  have wn1 : IntKind.i64.wrap (r.now + 1) = r.now + 1 := wrapI (by omega) (by omega)
  rw [pl_48_2, run_plan_id (by rfl)]
  refine run_cut1 (fun z e B => Is z .normal ∧ e.get 0 = .ptr rp 0 ∧ e.get 3 = .ptr xb 0 ∧ Fr S0 A2 B ∧ ∃ c : Bool, e.get 14 = .bool c ∧ (c = true → newSure r x) ∧ (c = false → ∀ id, ¬ newSure r id)) ?_ ?_
  · cases hs : r.sure r.now 0 with
    | none =>
      simp only [RT, Nat.reduceLT, Nat.reduceBEq, Nat.reduceEqDiff, Nat.reduceAdd, Int.reduceEq, Int.reduceLT, Int.reduceLE, Int.reduceGT, Int.reduceGE, Option.isSome_none]
      exact ⟨rfl, .refl _ _, false, rfl, (fun q => by simp at q), fun _ id q => by have := q.1; rw [hs] at this; simp at this⟩
    | some id =>
      obtain rfl := hsx id hs
      simp only [RT, Nat.reduceLT, Nat.reduceBEq, Nat.reduceEqDiff, Nat.reduceAdd, Int.reduceEq, Int.reduceLT, Int.reduceLE, Int.reduceGT, Int.reduceGE, Option.isSome_some, ldId t3 hx]
      obtain ⟨_, A3, m1, m2, rfl⟩ := has_spec w2 h2 hx (by have := hr.known; omega)
      refine run_call1 m1 ?_
      have ld3 := ldR (m2.row0 bx) h2.ok
      by_cases q1 : x ∈ r.known
      rotate_left
      · simp only [RT, Nat.reduceLT, Nat.reduceBEq, Nat.reduceEqDiff, Nat.reduceAdd, Int.reduceEq, Int.reduceLT, Int.reduceLE, Int.reduceGT, Int.reduceGE, decide_eq_false q1]
        exact ⟨rfl, m2, false, rfl, (fun q => by simp at q), fun _ id q => by have := q.1; rw [hs] at this; cases this; exact q1 q.2.1⟩
      by_cases q2 : r.step ≥ 1
      rotate_left
      · simp only [RT, Nat.reduceLT, Nat.reduceBEq, Nat.reduceEqDiff, Nat.reduceAdd, Int.reduceEq, Int.reduceLT, Int.reduceLE, Int.reduceGT, Int.reduceGE, decide_eq_true q1, hfa, ld3, decide_eq_false q2]
        exact ⟨rfl, m2, false, rfl, (fun q => by simp at q), fun _ id q => q2 q.2.2.1⟩
      simp only [RT, Nat.reduceLT, Nat.reduceBEq, Nat.reduceEqDiff, Nat.reduceAdd, Int.reduceEq, Int.reduceLT, Int.reduceLE, Int.reduceGT, Int.reduceGE, decide_eq_true q1, hfa, ld3, decide_eq_true q2, wn1]
      refine ⟨rfl, m2, decide (¬ r.valid = r.now + 1), rfl, fun q => ⟨hs, q1, q2, of_decide_eq_true q⟩, fun q id z => of_decide_eq_false q z.2.2.2⟩
  rintro z e B ⟨rfl, g0, g3, hB, c, g14, hc1, hc2⟩
  have fB := f2.then0 hB
  have wB := fB.wf hw
  have hBr := h.fr0 fB
  have bB := fB.row0 b1
  have ldB := ldR bB hBr.ok
  have gx := hB.row0 t3
  have bk := b2.fr0 fB
  have ba := b3.fr0 fB
  cases c with
  | true =>
    have hns := hc1 rfl
    rw [rest_yes hns]
    obtain ⟨C, s1, s2, s3⟩ := (stInt bB hBr.ok (r.now + 1)).2.2.2
    have hC : IsRd C rp { r with valid := r.now + 1 } cp vb fk fa := hBr.upd bB bk ba s2 s3 rfl rfl rfl rfl { h.ok with }
    have nexr : xb ≠ rp := by have := row_lt b1; have := k2.len; omega
    have gC := s2.rowNe gx nexr
    obtain ⟨D, y1, y2, y3⟩ := (stId s3 hC.ok hx).2.1
    have hD : IsRd D rp { r with valid := r.now + 1, best := x } cp vb fk fa := hC.upd s3 (bk.fr s2 (.box bB)) (ba.fr s2 (.box bB)) y2 y3 rfl rfl rfl rfl { h.ok with best := hx }
    have gD := y2.rowNe gC nexr
    have ldD := ldR y3 hD.ok
    have stepD : ∀ {A' : AS} {r' : Rd}, RStep D rp cp vb fk fa A' r' → RStep A rp cp vb fk fa A' r' := fun k => RStep.next0 hw fB (RStep.next wB (s2.mono fun _ q => .inl q) (.inl rfl) (.inl rfl) (RStep.next (s2.wf wB) (y2.mono fun _ q => .inl q) (.inl rfl) (.inl rfl) k))
    simp only [RT, Nat.reduceLT, Nat.reduceBEq, Nat.reduceEqDiff, Nat.reduceAdd, Int.reduceEq, Int.reduceLT, Int.reduceLE, Int.reduceGT, Int.reduceGE, g14, pl_48_3, g0, hfa, ldB, wn1, g3, ldId gx hx, s1, rc_nil]
    refine ⟨rc_load (ha := rfl) rfl (by show evLoad _ _ (e.get 3) _ = _; rw [g3]; exact ldId gC hx) rfl rc_nil, ?_⟩
    simp only [RT, Nat.reduceLT, Nat.reduceBEq, Nat.reduceEqDiff, Nat.reduceAdd, Int.reduceEq, Int.reduceLT, Int.reduceLE, Int.reduceGT, Int.reduceGE, hfa, y1, rc_nil, g0, ldD]
    by_cases q : r.step = 1
    · obtain ⟨E, z1, z2, z3⟩ := (stInt y3 hD.ok (r.now + 1)).2.2.1
      have hE : IsRd E rp { r with valid := r.now + 1, best := x, locked := r.now + 1 } cp vb fk fa := hD.upd y3 ((bk.fr s2 (.box bB)).fr y2 (.box s3)) ((ba.fr s2 (.box bB)).fr y2 (.box s3)) z2 z3 rfl rfl rfl rfl { hD.ok with }
      have gE := z2.rowNe gD nexr
      obtain ⟨G, u1, u2, u3⟩ := (stId z3 hE.ok hx).1
      have hG : IsRd G rp { r with valid := r.now + 1, best := x, locked := r.now + 1, lock := x } cp vb fk fa := hE.upd z3 (((bk.fr s2 (.box bB)).fr y2 (.box s3)).fr z2 (.box y3)) (((ba.fr s2 (.box bB)).fr y2 (.box s3)).fr z2 (.box y3)) u2 u3 rfl rfl rfl rfl { hE.ok with lock := hx }
      have gG := u2.rowNe gE nexr
      have wD := y2.wf (s2.wf wB)
      obtain ⟨w, I, i1, i2⟩ := vote_spec (k := 1) (u2.wf (z2.wf wD)) hG (by omega) hx (by show r.acts.length ≤ _; omega)
      have i1 : EvF Try.prog HH 33 [.ptr rp 0, .int .i64 1, .agg (bc x)] G w I := i1
      simp only [RT, Nat.reduceLT, Nat.reduceBEq, Nat.reduceEqDiff, Nat.reduceAdd, Int.reduceEq, Int.reduceLT, Int.reduceLE, Int.reduceGT, Int.reduceGE, decide_eq_true q, pl_48_5, g0, hfa, ldD, wn1, g3, ldId gD hx, z1, rc_nil]
      refine ⟨rc_load (ha := rfl) rfl (by show evLoad _ _ (e.get 3) _ = _; rw [g3]; exact ldId gE hx) rfl rc_nil, ?_⟩
      simp only [RT, Nat.reduceLT, Nat.reduceBEq, Nat.reduceEqDiff, Nat.reduceAdd, Int.reduceEq, Int.reduceLT, Int.reduceLE, Int.reduceGT, Int.reduceGE, hfa, u1, rc_nil, g0, g3, ldId gG hx]
      refine run_call1 i1 ?_
      simp only [RT, Nat.reduceLT, Nat.reduceBEq, Nat.reduceEqDiff, Nat.reduceAdd, Int.reduceEq, Int.reduceLT, Int.reduceLE, Int.reduceGT, Int.reduceGE]
      rw [if_pos q]
      exact stepD (RStep.next wD (z2.mono fun _ q => .inl q) (.inl rfl) (.inl rfl) (RStep.next (z2.wf wD) (u2.mono fun _ q => .inl q) (.inl rfl) (.inl rfl) i2))
    · simp only [RT, Nat.reduceLT, Nat.reduceBEq, Nat.reduceEqDiff, Nat.reduceAdd, Int.reduceEq, Int.reduceLT, Int.reduceLE, Int.reduceGT, Int.reduceGE, decide_eq_false q]
      rw [if_neg q]
      exact stepD (.rfl' hD)
  | false =>
    rw [rest_no (hc2 rfl)]
    simp only [RT, Nat.reduceLT, Nat.reduceBEq, Nat.reduceEqDiff, Nat.reduceAdd, Int.reduceEq, Int.reduceLT, Int.reduceLE, Int.reduceGT, Int.reduceGE, g14]
    refine run_cut1 (fun z e C => Is z .normal ∧ e.get 0 = .ptr rp 0 ∧ Fr S0 B C ∧ e.get 72 = .bool (decide (r.step = 1 ∧ need r.n ≤ forI r.n r.v r.now 0 n32))) ?_ ?_
    · simp only [RT, Nat.reduceLT, Nat.reduceBEq, Nat.reduceEqDiff, Nat.reduceAdd, Int.reduceEq, Int.reduceLT, Int.reduceLE, Int.reduceGT, Int.reduceGE, pl_48_8, g0, hfa, ldB, rc_nil]
      by_cases q : r.step = 1
      rotate_left
      · simp only [RT, Nat.reduceLT, Nat.reduceBEq, Nat.reduceEqDiff, Nat.reduceAdd, Int.reduceEq, Int.reduceLT, Int.reduceLE, Int.reduceGT, Int.reduceGE, decide_eq_false q, rc_nil]
        refine ⟨rc_skip rfl rfl rfl rfl <| rc_skip rfl rfl rfl rfl <| rc_skip rfl rfl rfl rfl rc_nil, rc_skip rfl rfl rfl rfl rc_nil, ?_⟩
        exact ⟨rfl, g0, .refl _ _, by rw [decide_eq_false (fun z => q z.1)]⟩
      obtain ⟨_, C1, m1, rfl, m2⟩ := nil_spec (A := B)
      have ldC1 := ldR (m2.row0 bB) hBr.ok
      obtain ⟨_, C2, p1, p2, rfl⟩ := for_spec (r := r.now) (k := 0) (m2.wf wB) (hBr.fr0 m2).cnt n32_len
      have ldC2 := ldR (p2.row0 (m2.row0 bB)) hBr.ok
      obtain ⟨_, _, y1, hC, rfl⟩ := need_spec (A := C2) h.cnt.ok
      rw [hC] at y1
      simp only [RT, Nat.reduceLT, Nat.reduceBEq, Nat.reduceEqDiff, Nat.reduceAdd, Int.reduceEq, Int.reduceLT, Int.reduceLE, Int.reduceGT, Int.reduceGE, decide_eq_true q, g0, hfa, ldB, rc_nil]
      refine run_call1 m1 ?_
      simp only [RT, Nat.reduceLT, Nat.reduceBEq, Nat.reduceEqDiff, Nat.reduceAdd, Int.reduceEq, Int.reduceLT, Int.reduceLE, Int.reduceGT, Int.reduceGE]
      refine ⟨rc_gload rfl rfl rfl rfl rfl ldC1.2.2.2.2.2.2.2.2.2.2.2.1 rfl <| rc_gload rfl rfl rfl rfl rfl ldC1.2.2.2.1 rfl <| rc_gload rfl rfl rfl rfl rfl ldC1.1 rfl rc_nil, ?_⟩
      refine run_call1 p1 ?_
      simp only [RT, Nat.reduceLT, Nat.reduceBEq, Nat.reduceEqDiff, Nat.reduceAdd, Int.reduceEq, Int.reduceLT, Int.reduceLE, Int.reduceGT, Int.reduceGE]
      refine ⟨rc_gload rfl rfl rfl rfl rfl ldC2.1 rfl rc_nil, ?_⟩
      refine run_call1 y1 ?_
      simp only [RT, Nat.reduceLT, Nat.reduceBEq, Nat.reduceEqDiff, Nat.reduceAdd, Int.reduceEq, Int.reduceLT, Int.reduceLE, Int.reduceGT, Int.reduceGE, rc_nil]
      refine ⟨rfl, g0, m2.then0 p2, ?_⟩
      congr 1
      rw [decide_eq_decide]
      constructor
      · intro z; exact ⟨q, by omega⟩
      · intro z; have := z.2; omega
    clear g0 g3 g14
    rintro z e C ⟨rfl, g0, hC, g72⟩
    have fC := fB.then0 hC
    have wC := fC.wf hw
    have hCr := h.fr0 fC
    have bC := fC.row0 b1
    have ldC := ldR bC hCr.ok
    unfold rest2
    by_cases qv : r.step = 1 ∧ need r.n ≤ forI r.n r.v r.now 0 n32
    · rw [if_pos qv]
      obtain ⟨_, C1, m1, rfl, m2⟩ := nil_spec (A := C)
      obtain ⟨w, I, i1, i2⟩ := vote_spec (k := 1) (m2.wf wC) (hCr.fr0 m2) (by omega) n32_len (by omega)
      have i1 : EvF Try.prog HH 33 [.ptr rp 0, .int .i64 1, .agg (bc n32)] C1 w I := i1
      rw [decide_eq_true qv] at g72
      simp only [RT, Nat.reduceLT, Nat.reduceBEq, Nat.reduceEqDiff, Nat.reduceAdd, Int.reduceEq, Int.reduceLT, Int.reduceLE, Int.reduceGT, Int.reduceGE, g72, g0]
      refine run_call1 m1 ?_
      simp only [RT, Nat.reduceLT, Nat.reduceBEq, Nat.reduceEqDiff, Nat.reduceAdd, Int.reduceEq, Int.reduceLT, Int.reduceLE, Int.reduceGT, Int.reduceGE]
      refine run_call1 i1 ?_
      simp only [RT, Nat.reduceLT, Nat.reduceBEq, Nat.reduceEqDiff, Nat.reduceAdd, Int.reduceEq, Int.reduceLT, Int.reduceLE, Int.reduceGT, Int.reduceGE]
      exact RStep.next0 hw (fC.then0 m2) i2
    rw [if_neg qv]
    rw [decide_eq_false qv] at g72
    simp only [RT, Nat.reduceLT, Nat.reduceBEq, Nat.reduceEqDiff, Nat.reduceAdd, Int.reduceEq, Int.reduceLT, Int.reduceLE, Int.reduceGT, Int.reduceGE, g72]
    refine run_cut1 (fun z e D => Is z .normal ∧ e.get 0 = .ptr rp 0 ∧ Fr S0 C D ∧ e.get 120 = .bool (decide (r.step = 1 ∧ need r.n ≤ allI r.n r.v r.now 0))) ?_ ?_
    · simp only [RT, Nat.reduceLT, Nat.reduceBEq, Nat.reduceEqDiff, Nat.reduceAdd, Int.reduceEq, Int.reduceLT, Int.reduceLE, Int.reduceGT, Int.reduceGE, pl_48_11, g0, hfa, ldC, rc_nil]
      by_cases q : r.step = 1
      rotate_left
      · simp only [RT, Nat.reduceLT, Nat.reduceBEq, Nat.reduceEqDiff, Nat.reduceAdd, Int.reduceEq, Int.reduceLT, Int.reduceLE, Int.reduceGT, Int.reduceGE, decide_eq_false q, rc_nil]
        refine ⟨rc_skip rfl rfl rfl rfl rc_nil, ?_⟩
        exact ⟨rfl, g0, .refl _ _, by rw [decide_eq_false (fun z => q z.1)]⟩
      obtain ⟨_, C2, p1, p2, rfl⟩ := all_spec (r := r.now) (k := 0) wC hCr.cnt
      have ldC2 := ldR (p2.row0 bC) hBr.ok
      obtain ⟨_, _, y1, hC, rfl⟩ := need_spec (A := C2) h.cnt.ok
      rw [hC] at y1
      simp only [RT, Nat.reduceLT, Nat.reduceBEq, Nat.reduceEqDiff, Nat.reduceAdd, Int.reduceEq, Int.reduceLT, Int.reduceLE, Int.reduceGT, Int.reduceGE, decide_eq_true q, g0, hfa, ldC, rc_nil]
      refine run_call1 p1 ?_
      simp only [RT, Nat.reduceLT, Nat.reduceBEq, Nat.reduceEqDiff, Nat.reduceAdd, Int.reduceEq, Int.reduceLT, Int.reduceLE, Int.reduceGT, Int.reduceGE]
      refine ⟨rc_gload rfl rfl rfl rfl rfl ldC2.1 rfl rc_nil, ?_⟩
      refine run_call1 y1 ?_
      simp only [RT, Nat.reduceLT, Nat.reduceBEq, Nat.reduceEqDiff, Nat.reduceAdd, Int.reduceEq, Int.reduceLT, Int.reduceLE, Int.reduceGT, Int.reduceGE, rc_nil]
      refine ⟨rfl, g0, p2, ?_⟩
      congr 1
      rw [decide_eq_decide]
      constructor
      · intro z; exact ⟨q, by omega⟩
      · intro z; have := z.2; omega
    clear g0 g72
    rintro z e D ⟨rfl, g0, hD, g120⟩
    have fD := fC.then0 hD
    have wD := fD.wf hw
    have hDr := h.fr0 fD
    obtain ⟨r1, hr1⟩ : ∃ r1 : Rd, r1 = if r.step = 1 ∧ need r.n ≤ allI r.n r.v r.now 0 then r.timer 1 else r := ⟨_, rfl⟩
    have hkeep : r1.n = r.n ∧ r1.v = r.v ∧ r1.now = r.now ∧ r1.acts.length ≤ r.acts.length + 1 := by
      rw [hr1]; split
      · unfold Rd.timer; split
        · exact ⟨rfl, rfl, rfl, by omega⟩
        · exact ⟨rfl, rfl, rfl, by simp [Rd.do_]⟩
      · exact ⟨rfl, rfl, rfl, by omega⟩
    rw [← hr1]
    refine run_cut1 (fun z e G => Is z .normal ∧ e.get 0 = .ptr rp 0 ∧ ∃ fk1 fa1, Fr (rdS A rp vb fk fa) A G ∧ Gr A fk fk1 ∧ Gr A fa fa1 ∧ IsRd G rp r1 cp vb fk1 fa1) ?_ ?_
    · by_cases q : r.step = 1 ∧ need r.n ≤ allI r.n r.v r.now 0
      · rw [if_pos q] at hr1
        rw [decide_eq_true q] at g120
        obtain ⟨w, I, i1, i2⟩ := timer_spec (k := 1) wD hDr (by omega) h0 hr.now.2 (by omega)
        have i1 : EvF Try.prog HH 42 [.ptr rp 0, .int .i64 1] D w I := i1
        obtain ⟨fk1, fa1, j1, j2, j3, j4⟩ := RStep.next0 hw fD i2
        simp only [RT, Nat.reduceLT, Nat.reduceBEq, Nat.reduceEqDiff, Nat.reduceAdd, Int.reduceEq, Int.reduceLT, Int.reduceLE, Int.reduceGT, Int.reduceGE, g120, g0]
        refine run_call1 i1 ?_
        simp only [RT, Nat.reduceLT, Nat.reduceBEq, Nat.reduceEqDiff, Nat.reduceAdd, Int.reduceEq, Int.reduceLT, Int.reduceLE, Int.reduceGT, Int.reduceGE]
        exact ⟨rfl, g0, fk1, fa1, j1, j2, j3, by rw [hr1]; exact j4⟩
      · rw [if_neg q] at hr1
        rw [decide_eq_false q] at g120
        simp only [RT, Nat.reduceLT, Nat.reduceBEq, Nat.reduceEqDiff, Nat.reduceAdd, Int.reduceEq, Int.reduceLT, Int.reduceLE, Int.reduceGT, Int.reduceGE, g120]
        exact ⟨rfl, g0, fk, fa, fD.mono fun _ q => q.elim, .inl rfl, .inl rfl, by rw [hr1]; exact hDr⟩
    clear g0 g120
    rintro z e G ⟨rfl, g0, fk1, fa1, j1, j2, j3, j4⟩
    have wG := j1.wf hw
    obtain ⟨kvg, avg, c1, c2, c3⟩ := j4.box
    have ldG := ldR c1 j4.ok
    rw [hkeep.1, hkeep.2.2.1] at ldG
    simp only [RT, Nat.reduceLT, Nat.reduceBEq, Nat.reduceEqDiff, Nat.reduceAdd, Int.reduceEq, Int.reduceLT, Int.reduceLE, Int.reduceGT, Int.reduceGE]
    refine run_cut1 (fun z e H => Is z .normal ∧ e.get 0 = .ptr rp 0 ∧ Fr S0 G H ∧ e.get 137 = .bool (decide (need r.n ≤ allI r.n r.v r.now 1))) ?_ ?_
    · simp only [RT, Nat.reduceLT, Nat.reduceBEq, Nat.reduceEqDiff, Nat.reduceAdd, Int.reduceEq, Int.reduceLT, Int.reduceLE, Int.reduceGT, Int.reduceGE, pl_48_13, g0, hfa, ldG, rc_nil]
      obtain ⟨_, C2, p1, p2, rfl⟩ := all_spec (r := r.now) (k := 1) wG j4.cnt
      rw [hkeep.1, hkeep.2.1] at p1
      have ldC2 := ldR (p2.row0 c1) j4.ok
      rw [hkeep.1, hkeep.2.2.1] at ldC2
      obtain ⟨_, _, y1, hC, rfl⟩ := need_spec (A := C2) h.cnt.ok
      rw [hC] at y1
      refine run_call1 p1 ?_
      simp only [RT, Nat.reduceLT, Nat.reduceBEq, Nat.reduceEqDiff, Nat.reduceAdd, Int.reduceEq, Int.reduceLT, Int.reduceLE, Int.reduceGT, Int.reduceGE]
      refine ⟨rc_load (ha := rfl) rfl ldC2.1 rfl rc_nil, ?_⟩
      refine run_call1 y1 ?_
      simp only [RT, Nat.reduceLT, Nat.reduceBEq, Nat.reduceEqDiff, Nat.reduceAdd, Int.reduceEq, Int.reduceLT, Int.reduceLE, Int.reduceGT, Int.reduceGE, rc_nil]
      refine ⟨rfl, g0, p2, ?_⟩
      congr 1
      rw [decide_eq_decide]; omega
    clear g0
    rintro z e H ⟨rfl, g0, hH, g137⟩
    have hHr := j4.fr0 hH
    by_cases q : need r.n ≤ allI r.n r.v r.now 1
    · rw [decide_eq_true q] at g137
      obtain ⟨w, I, i1, i2⟩ := timer_spec (k := 2) (hH.wf wG) hHr (by omega) (by rw [hkeep.2.2.1]; exact h0) (by rw [hkeep.2.2.1]; exact hr.now.2) (by omega)
      have i1 : EvF Try.prog HH 42 [.ptr rp 0, .int .i64 2] H w I := i1
      simp only [RT, Nat.reduceLT, Nat.reduceBEq, Nat.reduceEqDiff, Nat.reduceAdd, Int.reduceEq, Int.reduceLT, Int.reduceLE, Int.reduceGT, Int.reduceGE, g137, g0]
      refine run_call1 i1 ?_
      simp only [RT, Nat.reduceLT, Nat.reduceBEq, Nat.reduceEqDiff, Nat.reduceAdd, Int.reduceEq, Int.reduceLT, Int.reduceLE, Int.reduceGT, Int.reduceGE]
      rw [if_pos q]
      exact RStep.next hw j1 j2 j3 (RStep.next0 wG hH i2)
    · rw [decide_eq_false q] at g137
      simp only [RT, Nat.reduceLT, Nat.reduceBEq, Nat.reduceEqDiff, Nat.reduceAdd, Int.reduceEq, Int.reduceLT, Int.reduceLE, Int.reduceGT, Int.reduceGE, g137]
      rw [if_neg q]
      exact RStep.next hw j1 j2 j3 (.of0 j4 hH)
end
end Go.Sv.Try
namespace Go.Sv
open Go
theorem run_cut3 {P : Program} {H : Hints} {f : FuncId} {nt : Nat} {a b c : Kt} {k2 : List Kt} {x : Ex} {e : Env} {A : AS} {Q : Ex → Env → AS → Prop} (R : Ex → Env → AS → Prop) (h : Run P H f nt [a, b, c] x e A R) (hk : ∀ x e A, R x e A → Run P H f nt k2 x e A Q) : Run P H f nt (a :: b :: c :: k2) x e A Q := run_app (k1 := [a, b, c]) h hk
end Go.Sv
namespace Go.Sv.Try
open Go Go.Proofs
set_option linter.unusedVariables false
set_option linter.unusedSimpArgs false
theorem agreed_at {r : Rd} {k : Nat} {id : Bts} (hk : k < 12) (h1 : r.sure k 1 = some id) (h2 : id ∈ r.known) (hb : ∀ j : Nat, j < k → ∀ id, r.sure j 1 = some id → ¬ id ∈ r.known) : r.agreed = some (k, id) := by
  unfold Rd.agreed
  have key : ∀ m, m ≤ 12 → k < m → (List.range m).findSome? (fun (k : Nat) => match r.sure (k : Int) 1 with
    | some id => if id ∈ r.known then some (k, id) else none
    | none => none) = some (k, id) := by
    intro m
    induction m with
    | zero => intro _ q; omega
    | succ m ih =>
      intro hm hkm
      rw [List.range_succ, List.findSome?_append]
      rcases Nat.lt_or_ge k m with q | q
      · rw [ih (by omega) q]; rfl
      · have e : k = m := by omega
        subst e
        have e0 : (List.range k).findSome? (fun (k : Nat) => match r.sure (k : Int) 1 with
          | some id => if id ∈ r.known then some (k, id) else none
          | none => none) = none := by
          rw [List.findSome?_eq_none_iff]
          intro j hj
          have hj := List.mem_range.1 hj
          cases q : r.sure (j : Int) 1 with
          | none => rfl
          | some y => simp only []; rw [if_neg (hb j hj y q)]
        rw [e0]
        simp only [List.findSome?_cons, h1, if_pos h2]; rfl
  exact key 12 (by omega) hk
theorem agreed_no {r : Rd} (hb : ∀ j : Nat, j < 12 → ∀ id, r.sure j 1 = some id → ¬ id ∈ r.known) : r.agreed = none := by
  unfold Rd.agreed
  rw [List.findSome?_eq_none_iff]
  intro j hj
  have hj := List.mem_range.1 hj
  cases q : r.sure (j : Int) 1 with
  | none => rfl
  | some y => simp only []; rw [if_neg (hb j hj y q)]
section
variable {r : Rd} (h0 : ¬ r.now < 0) (h3 : ¬ r.step = 3)
include h0 h3
theorem rule_agreed {k : Nat} {id : Bts} (h : r.agreed = some (k, id)) : r.rule = (({ r with step := 3 } : Rd).do_ ⟨4, k, 0, 0, id⟩, true) := by
  unfold Rd.rule; rw [if_neg (by rintro (z | z); exact h0 z; exact h3 z), h]
theorem rule_ahead {k : Nat} (h : r.agreed = none) (h' : aheadI r.n r.v r.now = some k) : r.rule = (r.begin k, true) := by
  unfold Rd.rule; rw [if_neg (by rintro (z | z); exact h0 z; exact h3 z), h, h']
def offered (r : Rd) : Prop := r.step = 0 ∧ (r.offers r.now.toNat).there = true ∧ (r.offers r.now.toNat).id ∈ r.known
theorem rule_vote {id : Bts} (h : r.agreed = none) (h' : aheadI r.n r.v r.now = none) (c : offered r) (hc : r.choice (r.offers r.now.toNat) = some id) : r.rule = (r.vote 0 id, true) := by
  unfold Rd.rule; rw [if_neg (by rintro (z | z); exact h0 z; exact h3 z), h, h']; simp only []; unfold offered at c; rw [if_pos c, hc]
theorem rule_wait (h : r.agreed = none) (h' : aheadI r.n r.v r.now = none) (c : offered r) (hc : r.choice (r.offers r.now.toNat) = none) : r.rule = r.rest := by
  unfold Rd.rule; rw [if_neg (by rintro (z | z); exact h0 z; exact h3 z), h, h']; simp only []; unfold offered at c; rw [if_pos c, hc]
theorem rule_rest (h : r.agreed = none) (h' : aheadI r.n r.v r.now = none) (c : ¬ offered r) : r.rule = r.rest := by
  unfold Rd.rule; rw [if_neg (by rintro (z | z); exact h0 z; exact h3 z), h, h']; simp only []; unfold offered at c; rw [if_neg c]
end
section
variable {A A' B : AS} {rp cp : Nat} {r r' : Rd} {vb : Nat → Nat} {fk fa fk' fa' : Option Nat} {kv av : V}
theorem newOf {A : AS} {o : Ofr} (h : o.id.length = 32) : ∃ A', evStore Try.prog 79 (.ptr A.blk.length 0) (.agg (offC o)) (A.push ⟨offC off0, .var⟩) = some A' ∧ Fr S0 A A' ∧ A'.blk[A.blk.length]? = some ⟨offC o, .var⟩ := by
  obtain ⟨A2, s1, s2, s3, s4⟩ := new_set (P := Try.prog) A (z := offC off0) (t := 79) (x := .agg (offC o)) (cs := offC o) rfl (by rw [offC_len h]; exact sz79) (by rw [offC_len h]; rfl) (offC_one o)
  exact ⟨A2, s1, s2, s3⟩
theorem zcOf : (zeroT Try.prog 79).bind V.cells = some (offC off0) := by kernel_rfl
theorem ldO1 {A : AS} {b : Nat} {k : BK} {o : Ofr} (hb : A.blk[b]? = some ⟨offC o, k⟩) (h : o.id.length = 32) : evLoad Try.prog 4 (.ptr b 0) A = some (.bool o.there) ∧ evLoad Try.prog 3 (.ptr b 1) A = some (.int .i64 o.valid) ∧ evLoad Try.prog 39 (.ptr b 2) A = some (.agg (bc o.id)) :=
  ⟨At.load1 hb (o := 0) ⟨[], .int .i64 o.valid :: bc o.id, rfl, rfl⟩ ag4, At.load1 hb (o := 1) ⟨[.bool o.there], bc o.id, rfl, rfl⟩ ag3, At.load hb (o := 2) ⟨[.bool o.there, .int .i64 o.valid], [], by simp [offC], rfl⟩ ag39 sz39 (by rw [bc_len, h])⟩
theorem faO0 (b : Nat) : evFieldAddr Try.prog 79 (.ptr b 0) 0 = some (.ptr b 0) ∧ evFieldAddr Try.prog 79 (.ptr b 0) 1 = some (.ptr b 1) ∧ evFieldAddr Try.prog 79 (.ptr b 0) 2 = some (.ptr b 2) := ⟨by kernel_rfl, by kernel_rfl, by kernel_rfl⟩
set_option maxRecDepth 10000 in
set_option maxHeartbeats 16000000 in
theorem rule_spec (hw : WF A) (h : IsRd A rp r cp vb fk fa) (hr : Rng r) (hl : r.acts.length ≤ 9000000) : ∃ w A', EvF Try.prog HH 41 [.ptr rp 0] A w A' ∧ RStep A rp cp vb fk fa A' r.rule.1 ∧ w = .bool r.rule.2 := by
  refine run_fn2 rfl Try.func41 (by unfold Try.f41; rfl) Try.ntmps41 (by unfold Try.f41; rfl) (by simp) ?_
  simp only [RT, Nat.reduceLT, Nat.reduceBEq, Nat.reduceEqDiff, Nat.reduceAdd, Int.reduceEq, Int.reduceLT, Int.reduceLE, Int.reduceGT, Int.reduceGE]
  have hfa := faR rp
  have hsm := h.cnt.small
  have hnow := hr.now
  obtain ⟨kv, av, b1, b2, b3⟩ := h.box
  have ld := ldR b1 h.ok
  by_cases q0 : r.now < 0
  · have e : r.rule = (r, false) := by unfold Rd.rule; rw [if_pos (.inl q0)]
    simp only [RT, Nat.reduceLT, Nat.reduceBEq, Nat.reduceEqDiff, Nat.reduceAdd, Int.reduceEq, Int.reduceLT, Int.reduceLE, Int.reduceGT, Int.reduceGE, hfa, ld, decide_eq_true q0]
    rw [e]; exact ⟨.rfl' h, rfl⟩
  by_cases q3 : r.step = 3
  · have e : r.rule = (r, false) := by unfold Rd.rule; rw [if_pos (.inr q3)]
    simp only [RT, Nat.reduceLT, Nat.reduceBEq, Nat.reduceEqDiff, Nat.reduceAdd, Int.reduceEq, Int.reduceLT, Int.reduceLE, Int.reduceGT, Int.reduceGE, hfa, ld, decide_eq_false q0, decide_eq_true q3]
    rw [e]; exact ⟨.rfl' h, rfl⟩
  simp only [RT, Nat.reduceLT, Nat.reduceBEq, Nat.reduceEqDiff, Nat.reduceAdd, Int.reduceEq, Int.reduceLT, Int.reduceLE, Int.reduceGT, Int.reduceGE, hfa, ld, decide_eq_false q0, decide_eq_false q3]
  refine run_loop_j (fun z e B => Fr S0 A B ∧ e.get 0 = .ptr rp 0 ∧ ∃ k : Nat, z = 12 - k ∧ k ≤ 12 ∧ e.get 24 = .int .i64 k ∧ ∀ j : Nat, j < k → ∀ id, r.sure j 1 = some id → ¬ id ∈ r.known)
    (fun z e B => (Is z (.exit 0) ∧ Fr S0 A B ∧ e.get 0 = .ptr rp 0 ∧ r.agreed = none) ∨ (Is z .ret ∧ e.get 2 = .bool r.rule.2 ∧ RStep A rp cp vb fk fa B r.rule.1))
    ⟨_, .refl _ _, rfl, 0, rfl, by omega, rfl, fun j hj => by omega⟩ ?_ ?_
  · rintro z e B ⟨hB, g0, k, rfl, hk, g24, hno⟩
    simp only [RT, Nat.reduceLT, Nat.reduceBEq, Nat.reduceEqDiff, Nat.reduceAdd, Int.reduceEq, Int.reduceLT, Int.reduceLE, Int.reduceGT, Int.reduceGE, g24]
    refine condK_of (fun g => ?_) (fun g => ?_)
    rotate_left
    · have : k = 12 := by omega
      subst this
      simp only [RT, Nat.reduceLT, Nat.reduceBEq, Nat.reduceEqDiff, Nat.reduceAdd, Int.reduceEq, Int.reduceLT, Int.reduceLE, Int.reduceGT, Int.reduceGE]
      exact .inl ⟨rfl, hB, g0, agreed_no hno⟩
    have hBr := h.fr0 hB
    have wB := hB.wf hw
    obtain ⟨_, C, k1, k2, x, hx, rfl, hsx⟩ := sure_spec wB hBr (k : Int) 1
    simp only [RT, Nat.reduceLT, Nat.reduceBEq, Nat.reduceEqDiff, Nat.reduceAdd, Int.reduceEq, Int.reduceLT, Int.reduceLE, Int.reduceGT, Int.reduceGE, g0, g24]
    refine run_call1 k1 ?_
    obtain ⟨D, t1, t2, t3⟩ := newId (A := C) hx
    have hD := (hB.then0 k2).then0 t2
    simp only [RT, Nat.reduceLT, Nat.reduceBEq, Nat.reduceEqDiff, Nat.reduceAdd, Int.reduceEq, Int.reduceLT, Int.reduceLE, Int.reduceGT, Int.reduceGE, zcI, t1]
    have nxt : (∀ id, r.sure k 1 = some id → ¬ id ∈ r.known) → ∀ j : Nat, j < k + 1 → ∀ id, r.sure j 1 = some id → ¬ id ∈ r.known := fun q j hj => by
      rcases Nat.lt_or_ge j k with z | z
      · exact hno j z
      · have : j = k := by omega
        subst this; exact q
    cases hs : r.sure (k : Int) 1 with
    | none =>
      simp only [RT, Nat.reduceLT, Nat.reduceBEq, Nat.reduceEqDiff, Nat.reduceAdd, Int.reduceEq, Int.reduceLT, Int.reduceLE, Int.reduceGT, Int.reduceGE, Option.isSome_none, g24]
      exact ⟨12 - (k + 1), by omega, hD, g0, k + 1, rfl, by omega, by rw [wrapS (by omega)], nxt fun id q => by rw [hs] at q; cases q⟩
    | some id =>
      obtain rfl := hsx id hs
      have hDr := h.fr0 hD
      obtain ⟨_, E, m1, m2, rfl⟩ := has_spec (hD.wf hw) hDr hx (by have := hr.known; omega)
      simp only [RT, Nat.reduceLT, Nat.reduceBEq, Nat.reduceEqDiff, Nat.reduceAdd, Int.reduceEq, Int.reduceLT, Int.reduceLE, Int.reduceGT, Int.reduceGE, Option.isSome_some, g0, ldId t3 hx]
      refine run_call1 m1 ?_
      have hE := hD.then0 m2
      by_cases qk : x ∈ r.known
      rotate_left
      · simp only [RT, Nat.reduceLT, Nat.reduceBEq, Nat.reduceEqDiff, Nat.reduceAdd, Int.reduceEq, Int.reduceLT, Int.reduceLE, Int.reduceGT, Int.reduceGE, decide_eq_false qk, g24]
        exact ⟨12 - (k + 1), by omega, hE, g0, k + 1, rfl, by omega, by rw [wrapS (by omega)], nxt fun id q => by rw [hs] at q; cases q; exact qk⟩
      have hag := agreed_at (show k < 12 by omega) hs qk hno
      have hEr := h.fr0 hE
      have wE := hE.wf hw
      have bE := hE.row0 b1
      obtain ⟨G, s1, s2, s3⟩ := (stInt bE hEr.ok 3).2.1
      have hG : IsRd G rp { r with step := 3 } cp vb fk fa := hEr.upd bE (b2.fr0 hE) (b3.fr0 hE) s2 s3 rfl rfl rfl rfl { h.ok with }
      have xr : C.blk.length ≠ rp := by have := row_lt b1; have := hB.len; have := k2.len; omega
      have gG := s2.rowNe (m2.row0 t3) xr
      obtain ⟨w, I, i1, i2⟩ := do_spec (s2.wf wE) hG (a := ⟨4, k, 0, 0, x⟩) hx (by show r.acts.length ≤ _; omega)
      simp only [RT, Nat.reduceLT, Nat.reduceBEq, Nat.reduceEqDiff, Nat.reduceAdd, Int.reduceEq, Int.reduceLT, Int.reduceLE, Int.reduceGT, Int.reduceGE, decide_eq_true qk, g0, hfa, s1, ldId gG hx, bldA4 hx]
      refine run_call1 i1 ?_
      simp only [RT, Nat.reduceLT, Nat.reduceBEq, Nat.reduceEqDiff, Nat.reduceAdd, Int.reduceEq, Int.reduceLT, Int.reduceLE, Int.reduceGT, Int.reduceGE]
      rw [rule_agreed q0 q3 hag]
      exact .inr ⟨rfl, rfl, RStep.next0 hw hE (RStep.next wE (s2.mono fun _ q => .inl q) (.inl rfl) (.inl rfl) i2)⟩
  rintro z e B hz (⟨rfl, hB, g0, hag⟩ | ⟨rfl, g2, hst⟩)
  rotate_left
  · simp only [RT, Nat.reduceLT, Nat.reduceBEq, Nat.reduceEqDiff, Nat.reduceAdd, Int.reduceEq, Int.reduceLT, Int.reduceLE, Int.reduceGT, Int.reduceGE, g2]
    exact hst
  have hBr := h.fr0 hB
  have wB := hB.wf hw
  have bB := hB.row0 b1
  have ldB := ldR bB hBr.ok
  simp only [RT, Nat.reduceLT, Nat.reduceBEq, Nat.reduceEqDiff, Nat.reduceAdd, Int.reduceEq, Int.reduceLT, Int.reduceLE, Int.reduceGT, Int.reduceGE]
  rw [pl_41_12, run_plan_id (by rfl)]
  obtain ⟨_, _, k1, hA, rfl⟩ := ahead_spec (now := r.now) hBr.cnt hnow.1
  rw [hA] at k1
  simp only [RT, Nat.reduceLT, Nat.reduceBEq, Nat.reduceEqDiff, Nat.reduceAdd, Int.reduceEq, Int.reduceLT, Int.reduceLE, Int.reduceGT, Int.reduceGE, g0, hfa, ldB]
  refine run_call1 k1 ?_
  cases qa : aheadI r.n r.v r.now with
  | some k =>
    obtain ⟨w, I, i1, i2⟩ := begin_spec wB hBr hr (R := (k : Int)) (by omega) (by have := (aheadR_some qa).2; omega) (by omega)
    simp only [RT, Nat.reduceLT, Nat.reduceBEq, Nat.reduceEqDiff, Nat.reduceAdd, Int.reduceEq, Int.reduceLT, Int.reduceLE, Int.reduceGT, Int.reduceGE, Option.isSome_some, Option.getD_some, g0]
    refine run_call1 i1 ?_
    simp only [RT, Nat.reduceLT, Nat.reduceBEq, Nat.reduceEqDiff, Nat.reduceAdd, Int.reduceEq, Int.reduceLT, Int.reduceLE, Int.reduceGT, Int.reduceGE]
    rw [rule_ahead q0 q3 hag qa]
    exact ⟨RStep.next0 hw hB i2, rfl⟩
  | none =>
  obtain ⟨i, hi⟩ := Int.eq_ofNat_of_zero_le (show 0 ≤ r.now by omega)
  have hi12 : i < 12 := by omega
  have hin : r.now.toNat = i := by rw [hi]; rfl
  obtain ⟨o, ho⟩ : ∃ o, o = r.offers i := ⟨_, rfl⟩
  have hoff : offered r ↔ (r.step = 0 ∧ o.there = true ∧ o.id ∈ r.known) := by unfold offered; rw [hin, ← ho]
  have hol : o.id.length = 32 := by rw [ho]; exact h.ok.offers i
  have hov : 0 ≤ o.valid ∧ o.valid ≤ 1000 := by rw [ho]; exact hr.offers i
  have hofl := (ldOf bB hBr.ok hi12).1
  rw [← ho] at hofl
  have ldB3 : evLoad Try.prog 3 (.ptr rp 3) B = some (.int .i64 (i : Int)) := by rw [ldB.2.2.2.1, hi]
  obtain ⟨C, t1, t2, t3⟩ := newOf (A := B) hol
  obtain ⟨ob, hob⟩ : ∃ b, b = B.blk.length := ⟨_, rfl⟩
  have hC := hB.then0 t2
  have hCr := h.fr0 hC
  have wC := hC.wf hw
  have bC := hC.row0 b1
  have ldC := ldR bC hCr.ok
  have ldo := ldO1 t3 hol
  rw [← hob] at ldo t3
  have fo := faO0 ob
  simp only [RT, Nat.reduceLT, Nat.reduceBEq, Nat.reduceEqDiff, Nat.reduceAdd, Int.reduceEq, Int.reduceLT, Int.reduceLE, Int.reduceGT, Int.reduceGE, Option.isSome_none, Option.getD_none]
  rw [pl_41_16, run_plan_id (by rfl)]
  simp only [RT, Nat.reduceLT, Nat.reduceBEq, Nat.reduceEqDiff, Nat.reduceAdd, Int.reduceEq, Int.reduceLT, Int.reduceLE, Int.reduceGT, Int.reduceGE, g0, hfa, ldB3, ixOf hi12, hofl, zcOf, t1]
  rw [← hob]
  simp only [RT, Nat.reduceLT, Nat.reduceBEq, Nat.reduceEqDiff, Nat.reduceAdd, Int.reduceEq, Int.reduceLT, Int.reduceLE, Int.reduceGT, Int.reduceGE, g0, hfa, ldC]
  have restL : ∀ {D : AS}, Fr S0 A D → ∃ w A', EvF Try.prog HH 48 [.ptr rp 0] D w A' ∧ RStep A rp cp vb fk fa A' r.rest.1 ∧ w = .bool r.rest.2 := by
    intro D hD
    obtain ⟨w, A', k1, k2, k3⟩ := rest_spec (hD.wf hw) (h.fr0 hD) hr (by omega) (by omega)
    exact ⟨w, A', k1, RStep.next0 hw hD k2, k3⟩
  by_cases c1 : r.step = 0
  rotate_left
  · have erule := rule_rest q0 q3 hag qa (fun z => c1 (hoff.1 z).1)
    obtain ⟨_, A', i1, i2, rfl⟩ := restL hC
    simp only [RT, Nat.reduceLT, Nat.reduceBEq, Nat.reduceEqDiff, Nat.reduceAdd, Int.reduceEq, Int.reduceLT, Int.reduceLE, Int.reduceGT, Int.reduceGE, decide_eq_false c1, g0]
    refine run_call1 i1 ?_
    simp only [RT, Nat.reduceLT, Nat.reduceBEq, Nat.reduceEqDiff, Nat.reduceAdd, Int.reduceEq, Int.reduceLT, Int.reduceLE, Int.reduceGT, Int.reduceGE]
    rw [erule]; exact ⟨i2, rfl⟩
  cases c2 : o.there with
  | false =>
    have erule := rule_rest q0 q3 hag qa (fun z => by have := (hoff.1 z).2.1; rw [c2] at this; simp at this)
    obtain ⟨_, A', i1, i2, rfl⟩ := restL hC
    rw [c2] at ldo
    simp only [RT, Nat.reduceLT, Nat.reduceBEq, Nat.reduceEqDiff, Nat.reduceAdd, Int.reduceEq, Int.reduceLT, Int.reduceLE, Int.reduceGT, Int.reduceGE, decide_eq_true c1, fo, ldo, g0]
    refine run_call1 i1 ?_
    simp only [RT, Nat.reduceLT, Nat.reduceBEq, Nat.reduceEqDiff, Nat.reduceAdd, Int.reduceEq, Int.reduceLT, Int.reduceLE, Int.reduceGT, Int.reduceGE]
    rw [erule]; exact ⟨i2, rfl⟩
  | true =>
  rw [c2] at ldo
  obtain ⟨_, D, m1, m2, rfl⟩ := has_spec wC hCr hol (by have := hr.known; omega)
  have hD := hC.then0 m2
  simp only [RT, Nat.reduceLT, Nat.reduceBEq, Nat.reduceEqDiff, Nat.reduceAdd, Int.reduceEq, Int.reduceLT, Int.reduceLE, Int.reduceGT, Int.reduceGE, decide_eq_true c1, fo, ldo, g0]
  refine run_call1 m1 ?_
  by_cases c3 : o.id ∈ r.known
  rotate_left
  · have erule := rule_rest q0 q3 hag qa (fun z => c3 (hoff.1 z).2.2)
    obtain ⟨_, A', i1, i2, rfl⟩ := restL hD
    simp only [RT, Nat.reduceLT, Nat.reduceBEq, Nat.reduceEqDiff, Nat.reduceAdd, Int.reduceEq, Int.reduceLT, Int.reduceLE, Int.reduceGT, Int.reduceGE, decide_eq_false c3, g0]
    refine run_call1 i1 ?_
    simp only [RT, Nat.reduceLT, Nat.reduceBEq, Nat.reduceEqDiff, Nat.reduceAdd, Int.reduceEq, Int.reduceLT, Int.reduceLE, Int.reduceGT, Int.reduceGE]
    rw [erule]; exact ⟨i2, rfl⟩
  have hoffd := hoff.2 ⟨c1, c2, c3⟩
  obtain ⟨_, E, n1, rfl, n2⟩ := nil_spec (A := D)
  simp only [RT, Nat.reduceLT, Nat.reduceBEq, Nat.reduceEqDiff, Nat.reduceAdd, Int.reduceEq, Int.reduceLT, Int.reduceLE, Int.reduceGT, Int.reduceGE, decide_eq_true c3]
  refine run_call1 n1 ?_
  obtain ⟨G, u1, u2, u3⟩ := newId (A := E) n32_len
  obtain ⟨nb, hnb⟩ : ∃ b, b = E.blk.length := ⟨_, rfl⟩
  have hG := (hD.then0 n2).then0 u2
  have hGr := h.fr0 hG
  have oG := u2.row0 (n2.row0 (m2.row0 t3))
  have ldoG := ldO1 oG hol
  have wov : IntKind.i64.wrap (o.valid - 1) = o.valid - 1 := wrapI (by omega) (by omega)
  simp only [RT, Nat.reduceLT, Nat.reduceBEq, Nat.reduceEqDiff, Nat.reduceAdd, Int.reduceEq, Int.reduceLT, Int.reduceLE, Int.reduceGT, Int.reduceGE, zcI, u1]
  rw [← hnb] at u3 ⊢
  simp only [RT, Nat.reduceLT, Nat.reduceBEq, Nat.reduceEqDiff, Nat.reduceAdd, Int.reduceEq, Int.reduceLT, Int.reduceLE, Int.reduceGT, Int.reduceGE, g0, fo, ldoG, wov]
  obtain ⟨_, I, j1, j2, x, hx, rfl, hsx⟩ := sure_spec (hG.wf hw) hGr (o.valid - 1) 0
  refine run_call1 j1 ?_
  obtain ⟨J, v1, v2, v3⟩ := newId (A := I) hx
  have hJ := (hG.then0 j2).then0 v2
  have hJr := h.fr0 hJ
  have wJ := hJ.wf hw
  have bJ := hJ.row0 b1
  have ldJ := ldR bJ hJr.ok
  have oJ := v2.row0 (j2.row0 oG)
  have ldoJ := ldO1 oJ hol
  have nJ := v2.row0 (j2.row0 u3)
  have len1 := hB.len
  have len2 := (n2.len)
  have len3 := u2.len
  have len4 := j2.len
  simp only [RT, Nat.reduceLT, Nat.reduceBEq, Nat.reduceEqDiff, Nat.reduceAdd, Int.reduceEq, Int.reduceLT, Int.reduceLE, Int.reduceGT, Int.reduceGE, zcI, v1]
  rw [pl_41_20, run_plan_id (by rfl)]
  have hch : r.offers r.now.toNat = o := by rw [hin, ho]
  have fin : ∀ {K : AS} {y : Bts}, Fr S0 A K → r.choice o = some y → K.blk[nb]? = some ⟨bc y, .var⟩ → y.length = 32 → ∃ w A', EvF Try.prog HH 33 [.ptr rp 0, .int .i64 0, .agg (bc y)] K w A' ∧ evLoad Try.prog 39 (.ptr nb 0) K = some (.agg (bc y)) ∧ RStep A rp cp vb fk fa A' r.rule.1 ∧ r.rule.2 = true := by
    intro K y hK hy gy yl
    have er := rule_vote q0 q3 hag qa hoffd (by rw [hch]; exact hy)
    obtain ⟨w, A', k1, k2⟩ := vote_spec (k := 0) (hK.wf hw) (h.fr0 hK) (by omega) yl (by omega)
    exact ⟨w, A', k1, ldId gy yl, by rw [er]; exact RStep.next0 hw hK k2, by rw [er]⟩
  have wait : r.choice o = none → r.rule = r.rest := fun hy => rule_wait q0 q3 hag qa hoffd (by rw [hch]; exact hy)
  refine run_cut3 (fun z e K => (Is z .normal ∧ e.get 0 = .ptr rp 0 ∧ e.get 9 = .ptr nb 0 ∧ Fr S0 A K ∧ ∃ y, y.length = 32 ∧ K.blk[nb]? = some ⟨bc y, .var⟩ ∧ r.choice o = some y) ∨ (Is z .ret ∧ r.choice o = none ∧ e.get 2 = .bool r.rest.2 ∧ RStep A rp cp vb fk fa K r.rest.1)) ?_ ?_
  rotate_left
  · clear g0
    rintro z e K (⟨rfl, g0, g9, hK, y, yl, gy, hy⟩ | ⟨rfl, hy, g2, hst⟩)
    · obtain ⟨w, A', k1, k2, k3, k4⟩ := fin hK hy gy yl
      simp only [RT, Nat.reduceLT, Nat.reduceBEq, Nat.reduceEqDiff, Nat.reduceAdd, Int.reduceEq, Int.reduceLT, Int.reduceLE, Int.reduceGT, Int.reduceGE, g0, g9, k2]
      refine run_call1 k1 ?_
      simp only [RT, Nat.reduceLT, Nat.reduceBEq, Nat.reduceEqDiff, Nat.reduceAdd, Int.reduceEq, Int.reduceLT, Int.reduceLE, Int.reduceGT, Int.reduceGE]
      exact ⟨k3, by rw [k4]⟩
    · have er := wait hy
      rw [er]
      simp only [RT, Nat.reduceLT, Nat.reduceBEq, Nat.reduceEqDiff, Nat.reduceAdd, Int.reduceEq, Int.reduceLT, Int.reduceLE, Int.reduceGT, Int.reduceGE, g2]
      exact hst
  have fo1 := fo
  obtain ⟨K, z1, z2, z3⟩ := setId nJ n32_len hol
  have hK : Fr S0 A K := hJ.row_ z2 (by have l1 := hC.len; have l2 := m2.len; have l3 := n2.len; rw [hnb]; omega)
  have pl22 := pl_41_22
  by_cases d0 : o.valid = 0
  · have dgt : ¬ o.valid > 0 := by omega
    by_cases d1 : r.locked = 0
    · have hc : r.choice o = some o.id := by unfold Rd.choice; rw [if_pos ⟨d0, .inl d1⟩]
      simp only [RT, Nat.reduceLT, Nat.reduceBEq, Nat.reduceEqDiff, Nat.reduceAdd, Int.reduceEq, Int.reduceLT, Int.reduceLE, Int.reduceGT, Int.reduceGE, fo, ldoJ, decide_eq_true d0, g0, hfa, ldJ, decide_eq_true d1, z1]
      exact .inl ⟨rfl, hK, _, hol, z3, hc⟩
    by_cases d2 : r.lock = o.id
    · have hc : r.choice o = some o.id := by unfold Rd.choice; rw [if_pos ⟨d0, .inr d2⟩]
      simp only [RT, Nat.reduceLT, Nat.reduceBEq, Nat.reduceEqDiff, Nat.reduceAdd, Int.reduceEq, Int.reduceLT, Int.reduceLE, Int.reduceGT, Int.reduceGE, fo, ldoJ, decide_eq_true d0, g0, hfa, ldJ, decide_eq_false d1, eqZ h.ok.lock hol, decide_eq_true d2, z1]
      exact .inl ⟨rfl, hK, _, hol, z3, hc⟩
    have hc : r.choice o = some n32 := by
      unfold Rd.choice
      rw [if_neg (fun z => z.2.elim d1 d2), if_neg (fun z => dgt z.1)]
    simp only [RT, Nat.reduceLT, Nat.reduceBEq, Nat.reduceEqDiff, Nat.reduceAdd, Int.reduceEq, Int.reduceLT, Int.reduceLE, Int.reduceGT, Int.reduceGE, fo, ldoJ, decide_eq_true d0, g0, hfa, ldJ, decide_eq_false d1, eqZ h.ok.lock hol, decide_eq_false d2]
    rw [pl_41_22, run_plan_id (by rfl)]
    simp only [RT, Nat.reduceLT, Nat.reduceBEq, Nat.reduceEqDiff, Nat.reduceAdd, Int.reduceEq, Int.reduceLT, Int.reduceLE, Int.reduceGT, Int.reduceGE, fo, ldoJ, decide_eq_false dgt]
    rw [pl_41_24, run_plan_id (by rfl)]
    simp only [RT, Nat.reduceLT, Nat.reduceBEq, Nat.reduceEqDiff, Nat.reduceAdd, Int.reduceEq, Int.reduceLT, Int.reduceLE, Int.reduceGT, Int.reduceGE, fo, ldoJ, decide_eq_false dgt]
    exact .inl ⟨rfl, g0, hJ, _, n32_len, nJ, hc⟩
  have dgt : o.valid > 0 := by omega
  simp only [RT, Nat.reduceLT, Nat.reduceBEq, Nat.reduceEqDiff, Nat.reduceAdd, Int.reduceEq, Int.reduceLT, Int.reduceLE, Int.reduceGT, Int.reduceGE, fo, ldoJ, decide_eq_false d0]
  rw [pl_41_22, run_plan_id (by rfl)]
  by_cases d1 : o.valid ≤ r.now
  rotate_left
  · have hc : r.choice o = some n32 := by
      unfold Rd.choice
      rw [if_neg (fun z => d0 z.1), if_neg (fun z => d1 z.2)]
    simp only [RT, Nat.reduceLT, Nat.reduceBEq, Nat.reduceEqDiff, Nat.reduceAdd, Int.reduceEq, Int.reduceLT, Int.reduceLE, Int.reduceGT, Int.reduceGE, fo, ldoJ, decide_eq_true dgt, g0, hfa, ldJ, decide_eq_false d1]
    rw [pl_41_24, run_plan_id (by rfl)]
    simp only [RT, Nat.reduceLT, Nat.reduceBEq, Nat.reduceEqDiff, Nat.reduceAdd, Int.reduceEq, Int.reduceLT, Int.reduceLE, Int.reduceGT, Int.reduceGE, fo, ldoJ, decide_eq_true dgt, g0, hfa, ldJ, decide_eq_false d1]
    exact .inl ⟨rfl, hJ, _, n32_len, nJ, hc⟩
  obtain ⟨_, A', i1, i2, rfl⟩ := restL hJ
  by_cases d2 : r.sure (o.valid - 1) 0 = some o.id
  rotate_left
  · have hc : r.choice o = none := by
      unfold Rd.choice
      rw [if_neg (fun z => d0 z.1), if_pos ⟨dgt, d1⟩, if_pos d2]
    cases hs : r.sure (o.valid - 1) 0 with
    | none =>
      simp only [RT, Nat.reduceLT, Nat.reduceBEq, Nat.reduceEqDiff, Nat.reduceAdd, Int.reduceEq, Int.reduceLT, Int.reduceLE, Int.reduceGT, Int.reduceGE, fo, ldoJ, decide_eq_true dgt, g0, hfa, ldJ, decide_eq_true d1, Option.isSome_none]
      refine run_call1 i1 ?_
      simp only [RT, Nat.reduceLT, Nat.reduceBEq, Nat.reduceEqDiff, Nat.reduceAdd, Int.reduceEq, Int.reduceLT, Int.reduceLE, Int.reduceGT, Int.reduceGE]
      exact .inr ⟨rfl, hc, i2⟩
    | some id =>
      have hxi := hsx id hs
      have hxo : ¬ x = o.id := fun q => d2 (by rw [hs, ← hxi, q])
      simp only [RT, Nat.reduceLT, Nat.reduceBEq, Nat.reduceEqDiff, Nat.reduceAdd, Int.reduceEq, Int.reduceLT, Int.reduceLE, Int.reduceGT, Int.reduceGE, fo, ldoJ, decide_eq_true dgt, g0, hfa, ldJ, decide_eq_true d1, Option.isSome_some, ldId v3 hx, eqZ hx hol, decide_eq_false hxo]
      refine run_call1 i1 ?_
      simp only [RT, Nat.reduceLT, Nat.reduceBEq, Nat.reduceEqDiff, Nat.reduceAdd, Int.reduceEq, Int.reduceLT, Int.reduceLE, Int.reduceGT, Int.reduceGE]
      exact .inr ⟨rfl, hc, i2⟩
  have hxo : x = o.id := hsx _ d2
  simp only [RT, Nat.reduceLT, Nat.reduceBEq, Nat.reduceEqDiff, Nat.reduceAdd, Int.reduceEq, Int.reduceLT, Int.reduceLE, Int.reduceGT, Int.reduceGE, fo, ldoJ, decide_eq_true dgt, g0, hfa, ldJ, decide_eq_true d1, d2, Option.isSome_some, ldId v3 hx, eqZ hx hol, decide_eq_true hxo]
  rw [pl_41_24, run_plan_id (by rfl)]
  by_cases d3 : r.locked ≤ o.valid
  · have hc : r.choice o = some o.id := by
      unfold Rd.choice
      rw [if_neg (fun z => d0 z.1), if_pos ⟨dgt, d1⟩, if_neg (fun z => z d2), if_pos (.inl d3)]
    simp only [RT, Nat.reduceLT, Nat.reduceBEq, Nat.reduceEqDiff, Nat.reduceAdd, Int.reduceEq, Int.reduceLT, Int.reduceLE, Int.reduceGT, Int.reduceGE, fo, ldoJ, decide_eq_true dgt, g0, hfa, ldJ, decide_eq_true d1, decide_eq_true d3, z1]
    exact .inl ⟨rfl, hK, _, hol, z3, hc⟩
  by_cases d4 : r.lock = o.id
  · have hc : r.choice o = some o.id := by
      unfold Rd.choice
      rw [if_neg (fun z => d0 z.1), if_pos ⟨dgt, d1⟩, if_neg (fun z => z d2), if_pos (.inr d4)]
    simp only [RT, Nat.reduceLT, Nat.reduceBEq, Nat.reduceEqDiff, Nat.reduceAdd, Int.reduceEq, Int.reduceLT, Int.reduceLE, Int.reduceGT, Int.reduceGE, fo, ldoJ, decide_eq_true dgt, g0, hfa, ldJ, decide_eq_true d1, decide_eq_false d3, eqZ h.ok.lock hol, decide_eq_true d4, z1]
    exact .inl ⟨rfl, hK, _, hol, z3, hc⟩
  have hc : r.choice o = some n32 := by
    unfold Rd.choice
    rw [if_neg (fun z => d0 z.1), if_pos ⟨dgt, d1⟩, if_neg (fun z => z d2), if_neg (fun z => z.elim d3 d4)]
  simp only [RT, Nat.reduceLT, Nat.reduceBEq, Nat.reduceEqDiff, Nat.reduceAdd, Int.reduceEq, Int.reduceLT, Int.reduceLE, Int.reduceGT, Int.reduceGE, fo, ldoJ, decide_eq_true dgt, g0, hfa, ldJ, decide_eq_true d1, decide_eq_false d3, eqZ h.ok.lock hol, decide_eq_false d4]
  exact .inl ⟨rfl, hJ, _, n32_len, nJ, hc⟩
end
end Go.Sv.Try
namespace Go.Sv.Try
open Go Go.Proofs
set_option linter.unusedVariables false
set_option linter.unusedSimpArgs false
section
variable {r : Rd}
theorem Rng.timer (h : Rng r) (k : Nat) : Rng (r.timer k) ∧ (r.timer k).acts.length ≤ r.acts.length + 1 := by
  unfold Rd.timer; split
  · exact ⟨h, by omega⟩
  · exact ⟨{ h with }, by simp [Rd.do_]⟩
theorem Rng.vote (h : Rng r) {k : Nat} (hk : k < 2) (id : Bts) : Rng (r.vote k id) ∧ (r.vote k id).acts.length ≤ r.acts.length + 1 := by
  unfold Rd.vote; simp only []; split
  · exact ⟨{ h with step := ⟨by show (0 : Int) ≤ 1 + k; omega, by show (1 : Int) + k ≤ 3; omega⟩ }, by simp [Rd.do_]⟩
  · exact ⟨{ h with step := ⟨by show (0 : Int) ≤ 1 + k; omega, by show (1 : Int) + k ≤ 3; omega⟩ }, by simp⟩
theorem set1_valid {f : Nat → Ofr} {i : Nat} {o : Ofr} (h : ∀ j, 0 ≤ (f j).valid ∧ (f j).valid ≤ 1000) (ho : 0 ≤ o.valid ∧ o.valid ≤ 1000) (j : Nat) : 0 ≤ (set1 f i o j).valid ∧ (set1 f i o j).valid ≤ 1000 := by
  unfold set1; split
  · exact ho
  · exact h j
theorem Rng.begin (h : Rng r) {R : Int} (hR : 0 ≤ R) : Rng (r.begin R) ∧ (r.begin R).acts.length ≤ r.acts.length + 1 := by
  unfold Rd.begin; split
  · exact ⟨{ h with step := ⟨by show (0 : Int) ≤ 3; omega, by show (3 : Int) ≤ 3; omega⟩ }, by simp⟩
  · have h1 : Rng { r with now := R, step := 0 } := { h with now := ⟨by show -1 ≤ R; omega, by show R < 12; omega⟩, step := ⟨by show (0 : Int) ≤ 0; omega, by show (0 : Int) ≤ 3; omega⟩ }
    simp only []
    generalize (if r.valid > 0 then r.best else r.fresh) = id
    split
    · exact h1.timer 0
    split
    · exact ⟨h1, by simp⟩
    split
    · exact h1.timer 0
    · exact ⟨{ h1 with offers := set1_valid h.offers h.valid }, by simp [Rd.do_]⟩
theorem Rng.rest (h : Rng r) : Rng r.rest.1 ∧ r.rest.1.acts.length ≤ r.acts.length + 2 := by
  by_cases q : ∃ id, newSure r id
  · obtain ⟨id, q⟩ := q
    rw [rest_yes q]
    have hn := h.now
    simp only []
    split
    · have h1 : Rng { r with valid := r.now + 1, best := id, locked := r.now + 1, lock := id } := { h with valid := ⟨by show 0 ≤ r.now + 1; omega, by show r.now + 1 ≤ 1000; omega⟩, locked := ⟨by show 0 ≤ r.now + 1; omega, by show r.now + 1 ≤ 1000; omega⟩ }
      obtain ⟨k1, k2⟩ := h1.vote (k := 1) (by omega) id
      exact ⟨k1, by have k2 : _ ≤ r.acts.length + 1 := k2; omega⟩
    · exact ⟨{ h with valid := ⟨by show 0 ≤ r.now + 1; omega, by show r.now + 1 ≤ 1000; omega⟩ }, by simp⟩
  · rw [rest_no fun id w => q ⟨id, w⟩]
    unfold rest2
    split
    · obtain ⟨k1, k2⟩ := h.vote (k := 1) (by omega) n32
      exact ⟨k1, Nat.le_trans k2 (by omega)⟩
    · simp only []
      have h1 : Rng (if r.step = 1 ∧ need r.n ≤ allI r.n r.v r.now 0 then r.timer 1 else r) ∧ (if r.step = 1 ∧ need r.n ≤ allI r.n r.v r.now 0 then r.timer 1 else r).acts.length ≤ r.acts.length + 1 := by
        split
        · exact h.timer 1
        · exact ⟨h, by omega⟩
      split
      · obtain ⟨k1, k2⟩ := h1.1.timer 2
        exact ⟨k1, Nat.le_trans k2 (by have := h1.2; omega)⟩
      · exact ⟨h1.1, Nat.le_trans h1.2 (by omega)⟩
theorem Rng.rule (h : Rng r) : Rng r.rule.1 ∧ r.rule.1.acts.length ≤ r.acts.length + 2 := by
  unfold Rd.rule; split
  · exact ⟨h, by simp⟩
  split
  · exact ⟨{ h with step := ⟨by show (0 : Int) ≤ 3; omega, by show (3 : Int) ≤ 3; omega⟩ }, by simp [Rd.do_]⟩
  split
  · obtain ⟨k1, k2⟩ := h.begin (R := (_ : Nat)) (Int.natCast_nonneg _)
    exact ⟨k1, Nat.le_trans k2 (by omega)⟩
  split
  · split
    · obtain ⟨k1, k2⟩ := h.vote (k := 0) (by omega) _
      exact ⟨k1, Nat.le_trans k2 (by omega)⟩
    · exact h.rest
  · exact h.rest
theorem Rng.rules : ∀ {k : Nat} {r : Rd}, Rng r → Rng (Rd.rules k r)
  | 0, r, h => h
  | k + 1, r, h => by
    unfold Rd.rules; split
    · exact Rng.rules h.rule.1
    · exact h.rule.1
theorem Rng.settle (h : Rng r) : Rng r.settle.1 := by
  have := h.rules (k := 1000)
  unfold Rd.settle
  exact { this with }
end
section
variable {A A' B : AS} {rp cp : Nat} {r r' : Rd} {vb : Nat → Nat} {fk fa fk' fa' : Option Nat} {kv av : V}
def GRes (A : AS) (rp cp : Nat) (vb : Nat → Nat) (fk fa : Option Nat) (A' : AS) (x : Rd × List Act) (w : V) : Prop :=
  ∃ fk' fo, Fr (rdS A rp vb fk fa) A A' ∧ Gr A fk fk' ∧ Gr A fa fo ∧ IsRd A' rp x.1 cp vb fk' none ∧ Lst eAct Hp.emp A' w x.2 fo ∧ (∀ f, fo = some f → fk' ≠ some f) ∧ ∀ j, j < 24 → fo ≠ some (vb j)
theorem GRes.next {x : Rd × List Act} {w : V} (hw : WF A) (hf : Fr (rdS A rp vb fk fa) A B) (g1 : Gr A fk fk') (g2 : Gr A fa fa') (k : GRes B rp cp vb fk' fa' A' x w) : GRes A rp cp vb fk fa A' x w := by
  obtain ⟨fk2, fo, k1, k2, k3, k4, k5, k6, k7⟩ := k
  exact ⟨fk2, fo, hf.trans k1 fun x q => rdS_back hf g1 g2 hw (hf.wf hw) q, g1.trans k2 hf.len, g2.trans k3 hf.len, k4, k5, k6, k7⟩
theorem GRes.next0 {x : Rd × List Act} {w : V} (hw : WF A) (hf : Fr S0 A B) (k : GRes B rp cp vb fk fa A' x w) : GRes A rp cp vb fk fa A' x w := k.next hw (hf.mono fun _ q => q.elim) (.inl rfl) (.inl rfl)
set_option maxRecDepth 10000 in
set_option maxHeartbeats 16000000 in
theorem settle_spec (hw : WF A) (h : IsRd A rp r cp vb fk fa) (hr : Rng r) (hl : r.acts.length ≤ 1000000) : ∃ w A', EvF Try.prog HH 31 [.ptr rp 0] A w A' ∧ GRes A rp cp vb fk fa A' r.settle w := by
  refine run_fn2 rfl Try.func31 (by unfold Try.f31; rfl) Try.ntmps31 (by unfold Try.f31; rfl) (by simp) ?_
  simp only [RT, Nat.reduceLT, Nat.reduceBEq, Nat.reduceEqDiff, Nat.reduceAdd, Int.reduceEq, Int.reduceLT, Int.reduceLE, Int.reduceGT, Int.reduceGE]
  have hfa := faR rp
  refine run_loop_j (fun z e B => e.get 0 = .ptr rp 0 ∧ ∃ (i : Nat) (ri : Rd), z = 1000 - i ∧ i ≤ 1000 ∧ e.get 3 = .int .i64 i ∧ RStep A rp cp vb fk fa B ri ∧ Rng ri ∧ ri.acts.length ≤ r.acts.length + 2 * i ∧ Rd.rules 1000 r = Rd.rules (1000 - i) ri)
    (fun z e B => Is z (.exit 0) ∧ e.get 0 = .ptr rp 0 ∧ RStep A rp cp vb fk fa B (Rd.rules 1000 r))
    ⟨_, rfl, 0, r, rfl, by omega, rfl, .rfl' h, hr, by omega, rfl⟩ ?_ ?_
  · rintro z e B ⟨g0, i, ri, rfl, hi, g3, hst, hri, hla, hru⟩
    obtain ⟨fk1, fa1, j1, j2, j3, j4⟩ := hst
    simp only [RT, Nat.reduceLT, Nat.reduceBEq, Nat.reduceEqDiff, Nat.reduceAdd, Int.reduceEq, Int.reduceLT, Int.reduceLE, Int.reduceGT, Int.reduceGE, g3]
    by_cases q : i < 1000
    rotate_left
    · have : i = 1000 := by omega
      subst this
      simp only [RT, Nat.reduceLT, Nat.reduceBEq, Nat.reduceEqDiff, Nat.reduceAdd, Int.reduceEq, Int.reduceLT, Int.reduceLE, Int.reduceGT, Int.reduceGE, decide_eq_false (show ¬ (((1000 : Nat) : Int) < 1000) by omega)]
      rw [hru]
      exact ⟨rfl, g0, fk1, fa1, j1, j2, j3, j4⟩
    have wB := j1.wf hw
    obtain ⟨_, C, k1, k2, rfl⟩ := rule_spec wB j4 hri (by omega)
    simp only [RT, Nat.reduceLT, Nat.reduceBEq, Nat.reduceEqDiff, Nat.reduceAdd, Int.reduceEq, Int.reduceLT, Int.reduceLE, Int.reduceGT, Int.reduceGE, decide_eq_true (show (i : Int) < 1000 by omega), g0]
    refine run_call1 k1 ?_
    have hst2 := RStep.next hw j1 j2 j3 k2
    obtain ⟨d, hd⟩ : ∃ d, 1000 - i = d + 1 := ⟨999 - i, by omega⟩
    have e1 : Rd.rules (1000 - i) ri = if ri.rule.2 = true then Rd.rules (1000 - (i + 1)) ri.rule.1 else ri.rule.1 := by
      rw [hd, show 1000 - (i + 1) = d by omega]; rfl
    rw [e1] at hru
    obtain ⟨y1, y2⟩ := hri.rule
    cases qb : ri.rule.2 with
    | true =>
      rw [if_pos qb] at hru
      simp only [RT, Nat.reduceLT, Nat.reduceBEq, Nat.reduceEqDiff, Nat.reduceAdd, Int.reduceEq, Int.reduceLT, Int.reduceLE, Int.reduceGT, Int.reduceGE, g3]
      exact ⟨1000 - (i + 1), by omega, g0, i + 1, ri.rule.1, rfl, by omega, by rw [wrapS (by omega)], hst2, y1, by omega, hru⟩
    | false =>
      rw [if_neg (by rw [qb]; simp)] at hru
      simp only [RT, Nat.reduceLT, Nat.reduceBEq, Nat.reduceEqDiff, Nat.reduceAdd, Int.reduceEq, Int.reduceLT, Int.reduceLE, Int.reduceGT, Int.reduceGE]
      rw [hru]
      exact ⟨rfl, g0, hst2⟩
  · rintro z e B hz ⟨rfl, g0, fk1, fa1, j1, j2, j3, j4⟩
    obtain ⟨kv, av, b1, b2, b3⟩ := j4.box
    have ld := ldR b1 j4.ok
    obtain ⟨C, s1, s2, s3⟩ := stAc b1 j4.ok (w := .snil) rfl []
    simp only [RT, Nat.reduceLT, Nat.reduceBEq, Nat.reduceEqDiff, Nat.reduceAdd, Int.reduceEq, Int.reduceLT, Int.reduceLE, Int.reduceGT, Int.reduceGE, g0, hfa, ld, s1]
    have hC : IsRd C rp { Rd.rules 1000 r with acts := [] } cp vb fk1 none := by
      refine { box := ⟨kv, .snil, s3, b2.fr s2 (.box b1), .nil⟩, cnt := ?_, ok := { j4.ok with }, rc := j4.rc, ne1 := fun f _ q => (by cases q), ne2 := fun j hj => ⟨(j4.ne2 j hj).1, fun q => by cases q⟩ }
      exact j4.cnt.fr s2 (fun q => j4.rc (by injection q with q; exact q.symm)) fun j hj => ⟨fun q => j4.cnt.nevar hj b1 (by injection q), fun q => by cases q⟩
    exact ⟨fk1, fa1, j1.trans s2 fun z q => .inl (.inl q), j2, j3, hC, b3.fr s2 (.box b1), fun f q z => j4.ne1 f z q, fun j hj => (j4.ne2 j hj).2⟩
end
end Go.Sv.Try
