/- Two rounds in memory; what one's own votes are, and what one is locked on. -/
import Derived.Test.YtajbkniodcbcjaaRdD
import Derived.Test.YtajbkniodcbcjaaRd0
namespace Go.Sv.Try
open Go Go.Proofs
set_option linter.unusedVariables false
set_option linter.unusedSimpArgs false
section
variable {A B C : AS} {rp cp : Nat} {r r' : Rd} {vb : Nat → Nat} {fk fa : Option Nat} {rp2 cp2 : Nat} {vb2 : Nat → Nat} {r2 : Rd} {fk2 : Option Nat}
theorem bldOwG (g k : Nat → V) : evBuild Try.prog 75 [(0, .agg ((List.range 32).map g)), (1, .agg ((List.range 32).map k))] = some (.agg ((List.range 32).map g ++ (List.range 32).map k)) := by kernel_rfl
theorem bldOw {x y : Bts} (hx : x.length = 32) (hy : y.length = 32) : evBuild Try.prog 75 [(0, .agg (bc x)), (1, .agg (bc y))] = some (.agg (bc (x ++ y))) := by
  obtain ⟨g, hg⟩ := cells_fun (l := bc x) (n := 32) (by rw [bc_len, hx])
  obtain ⟨k, hk⟩ := cells_fun (l := bc y) (n := 32) (by rw [bc_len, hy])
  rw [bc_app, hg, hk]; exact bldOwG g k
theorem zcOw : (zeroT Try.prog 75).bind V.cells = some (bc (z32 ++ z32)) := zc75
theorem newOw {A : AS} {x : Bts} (hx : x.length = 64) : ∃ A', evStore Try.prog 75 (.ptr A.blk.length 0) (.agg (bc x)) (A.push ⟨bc (z32 ++ z32), .var⟩) = some A' ∧ Fr S0 A A' ∧ A'.blk[A.blk.length]? = some ⟨bc x, .var⟩ := by
  obtain ⟨A2, s1, s2, s3, s4⟩ := new_set (P := Try.prog) A (z := bc (z32 ++ z32)) (t := 75) (x := .agg (bc x)) (cs := bc x) rfl (by rw [bc_len, hx]; exact sz75) (by rw [bc_len, bc_len, hx]; rfl) (bc_one _)
  exact ⟨A2, s1, s2, s3⟩
theorem setOw {A : AS} {b : Nat} {x y : Bts} (h : A.blk[b]? = some ⟨bc x, .var⟩) (hx : x.length = 64) (hy : y.length = 64) : ∃ A', evStore Try.prog 75 (.ptr b 0) (.agg (bc y)) A = some A' ∧ Fr (· = .row b) A A' ∧ A'.blk[b]? = some ⟨bc y, .var⟩ := by
  obtain ⟨A', s1, s2, s3, s4⟩ := store_var (P := Try.prog) (t := 75) (o := 0) (x := .agg (bc y)) (cs := bc y) h rfl (by rw [bc_len, hy]; exact sz75) (by rw [bc_len, bc_len]; omega) (bc_one _)
  exact ⟨A', s1, s2, by rw [s3, putAt_all (by rw [bc_len, bc_len, hx, hy])]⟩
theorem ldOw {A : AS} {b : Nat} {k : BK} {x : Bts} (h : A.blk[b]? = some ⟨bc x, k⟩) (hx : x.length = 64) : evLoad Try.prog 75 (.ptr b 0) A = some (.agg (bc x)) := At.load h (At.all _) ag75 sz75 (by rw [bc_len, hx])
theorem eqOw {x y : Bts} (hx : x.length = 64) (hy : y.length = 64) : evEq Try.prog 75 (.agg (bc x)) (.agg (bc y)) = some (decide (x = y)) :=
  eq_bytes (n := 64) (by kernel_rfl) ag75 (by kernel_rfl) hx hy
theorem ixOw (b : Nat) : evIndexAddr Try.prog 75 (.ptr b 0) (.int .i64 0) = some (.ptr b 0) ∧ evIndexAddr Try.prog 75 (.ptr b 0) (.int .i64 1) = some (.ptr b 32) := ⟨by kernel_rfl, by kernel_rfl⟩
theorem ldOw2 {A : AS} {b : Nat} {k : BK} {x y : Bts} (h : A.blk[b]? = some ⟨bc (x ++ y), k⟩) (hx : x.length = 32) (hy : y.length = 32) : evLoad Try.prog 39 (.ptr b 0) A = some (.agg (bc x)) ∧ evLoad Try.prog 39 (.ptr b 32) A = some (.agg (bc y)) := by
  rw [bc_app] at h
  exact ⟨At.load h (o := 0) ⟨[], bc y, by simp, rfl⟩ ag39 sz39 (by rw [bc_len, hx]),
    At.load h (o := 32) ⟨bc x, [], by simp, by rw [bc_len, hx]⟩ ag39 sz39 (by rw [bc_len, hy])⟩
def own (r : Rd) (R : Int) : Bts := getV r.n r.v R 0 r.me ++ getV r.n r.v R 1 r.me
theorem own_len (hl : ∀ a b c, (r.v a b c).length = 32) (R : Int) : (own r R).length = 64 := by
  unfold own; rw [List.length_append, getV_len hl, getV_len hl]
set_option maxRecDepth 10000 in
theorem lock_spec (h : IsRd A rp r cp vb fk fa) : ∃ w A', EvF Try.prog HH 28 [.ptr rp 0] A w A' ∧ Fr S0 A A' ∧ w = .tup [.int .i64 r.locked, .agg (bc r.lock)] := by
  refine run_fn2 rfl Try.func28 (by unfold Try.f28; rfl) Try.ntmps28 (by unfold Try.f28; rfl) (by simp) ?_
  simp only [RT, Nat.reduceLT, Nat.reduceBEq, Nat.reduceEqDiff, Nat.reduceAdd, Int.reduceEq, Int.reduceLT, Int.reduceLE, Int.reduceGT, Int.reduceGE, zcI]
  obtain ⟨A1, e1, f1, r1, n1⟩ := new_var A (bc z32)
  rw [← e1]
  obtain ⟨kv, av, b1, b2, b3⟩ := (h.fr0 f1).box
  have ld := ldR b1 h.ok
  obtain ⟨A2, s1, s2, s3⟩ := setId r1 z32_len h.ok.lock
  rw [pl_28_1, run_plan_id (by rfl)]
  simp only [RT, Nat.reduceLT, Nat.reduceBEq, Nat.reduceEqDiff, Nat.reduceAdd, Int.reduceEq, Int.reduceLT, Int.reduceLE, Int.reduceGT, Int.reduceGE, faR rp, ld, s1, ldId s3 h.ok.lock]
  exact f1.row_ s2 (Nat.le_refl _)
set_option maxRecDepth 10000 in
set_option maxHeartbeats 8000000 in
theorem own_spec (hw : WF A) (h : IsRd A rp r cp vb fk fa) (R : Int) : ∃ w A', EvF Try.prog HH 29 [.ptr rp 0, .int .i64 R] A w A' ∧ Fr S0 A A' ∧ w = .agg (bc (own r R)) := by
  refine run_fn2 rfl Try.func29 (by unfold Try.f29; rfl) Try.ntmps29 (by unfold Try.f29; rfl) (by simp) ?_
  simp only [RT, Nat.reduceLT, Nat.reduceBEq, Nat.reduceEqDiff, Nat.reduceAdd, Int.reduceEq, Int.reduceLT, Int.reduceLE, Int.reduceGT, Int.reduceGE, zcOw]
  obtain ⟨A1, e1, f1, r1, n1⟩ := new_var A (bc (z32 ++ z32))
  rw [← e1]
  have h1 := h.fr0 f1
  obtain ⟨kv, av, b1, b2, b3⟩ := h1.box
  have ld := ldR b1 h.ok
  obtain ⟨_, A2, k1, k2, rfl⟩ := get_spec h1.cnt R 0 r.me
  have h2 := h1.fr0 k2
  obtain ⟨_, _, c1, _⟩ := h2.box
  have ld2 := ldR c1 h.ok
  obtain ⟨_, A3, m1, m2, rfl⟩ := get_spec h2.cnt R 1 r.me
  have l0 := getV_len (n := r.n) h.cnt.len R 0 r.me
  have l1 := getV_len (n := r.n) h.cnt.len R 1 r.me
  obtain ⟨A4, s1, s2, s3⟩ := setOw (m2.row0 (k2.row0 r1)) (by decide) (y := getV r.n r.v R 0 r.me ++ getV r.n r.v R 1 r.me) (by rw [List.length_append, l0, l1])
  simp only [RT, Nat.reduceLT, Nat.reduceBEq, Nat.reduceEqDiff, Nat.reduceAdd, Int.reduceEq, Int.reduceLT, Int.reduceLE, Int.reduceGT, Int.reduceGE, pl_29_1, faR rp, ld, rc_nil]
  refine run_call1 k1 ?_
  simp only [RT, Nat.reduceLT, Nat.reduceBEq, Nat.reduceEqDiff, Nat.reduceAdd, Int.reduceEq, Int.reduceLT, Int.reduceLE, Int.reduceGT, Int.reduceGE, rc_nil]
  refine ⟨rc_load (ha := rfl) rfl (ld2.2.2.2.2.2.2.2.2.2.2.2.1) rfl <| rc_load (ha := rfl) rfl ld2.2.1 rfl rc_nil, ?_⟩
  refine run_call1 m1 ?_
  simp only [RT, Nat.reduceLT, Nat.reduceBEq, Nat.reduceEqDiff, Nat.reduceAdd, Int.reduceEq, Int.reduceLT, Int.reduceLE, Int.reduceGT, Int.reduceGE, bldOw l0 l1, s1, ldOw s3 (by rw [List.length_append, l0, l1]), rc_nil]
  exact ⟨((f1.then0 k2).then0 m2).row_ s2 (Nat.le_refl _), rfl⟩
structure JR (A B : AS) (rp cp : Nat) (vb : Nat → Nat) (r : Rd) (fk : Option Nat) (rp2 cp2 : Nat) (vb2 : Nat → Nat) (r2 : Rd) (fk2 : Option Nat) : Prop where
  fr : Fr S0 A B
  gk : Gr A none fk
  gk2 : Gr A none fk2
  rd : IsRd B rp r cp vb fk none
  rd2 : IsRd B rp2 r2 cp2 vb2 fk2 none
  nr : NewR A rp vb
  nr2 : NewR A rp2 vb2
  ne : ∀ i j, i < 24 → j < 24 → vb i ≠ vb2 j
  nf : ∀ j, j < 24 → fk ≠ some (vb2 j)
  nf2 : ∀ j, j < 24 → fk2 ≠ some (vb j)
  nk : ∀ f, fk = some f → fk2 ≠ some f
  nc : rp ≠ rp2
  nc1 : rp ≠ cp2
  nc2 : rp2 ≠ cp
theorem JR.symm (h : JR A B rp cp vb r fk rp2 cp2 vb2 r2 fk2) : JR A B rp2 cp2 vb2 r2 fk2 rp cp vb r fk :=
  ⟨h.fr, h.gk2, h.gk, h.rd2, h.rd, h.nr2, h.nr, fun i j hi hj q => h.ne j i hj hi q.symm, h.nf2, h.nf, fun f q w => h.nk f w q, fun q => h.nc q.symm, h.nc2, h.nc1⟩
theorem JR.s0 (h : JR A B rp cp vb r fk rp2 cp2 vb2 r2 fk2) (hf : Fr S0 B C) : JR A C rp cp vb r fk rp2 cp2 vb2 r2 fk2 :=
  { h with fr := h.fr.then0 hf, rd := h.rd.fr0 hf, rd2 := h.rd2.fr0 hf }
theorem offRd {fo : Option Nat} (hR : IsRd B rp r cp vb fk none) (h1 : ∀ j, j < 24 → fo ≠ some (vb j)) (h2 : ∀ f, fo = some f → fk ≠ some f) : Off fo B (rdS B rp vb fk none) := by
  intro b q f k base hf hk
  rcases q with q | ⟨j, hj, q⟩ | q | q
  · injection q with q; subst q
    obtain ⟨_, _, b, _⟩ := hR.box
    rw [b] at hk; cases hk; simp
  · injection q with q; subst q
    rw [hR.cnt.row j hj] at hk; cases hk
    intro z; injection z with z1 z2
    exact h1 j hj (by rw [hf, z1])
  · cases hfk : fk with
    | none => rw [hfk] at q; exact q.elim
    | some g =>
      rw [hfk] at q
      obtain ⟨k', base', z1, z2⟩ := q
      rw [z1] at hk; cases hk
      rw [z2]
      intro z; injection z with z3 z4
      exact h2 f hf (by rw [hfk, z3])
  · exact q.elim
theorem JR.give (hw : WF A) (h : JR A B rp cp vb r fk rp2 cp2 vb2 r2 fk2) {x : Rd × List Act} {w : V} (k : GRes B rp cp vb fk none C x w) :
    ∃ fk' fo, JR A C rp cp vb x.1 fk' rp2 cp2 vb2 r2 fk2 ∧ Lst eAct Hp.emp C w x.2 fo ∧ (∀ j, j < 24 → fo ≠ some (vb2 j)) ∧ (∀ f, fo = some f → fk2 ≠ some f) ∧ (∀ j, j < 24 → fo ≠ some (vb j)) ∧ (∀ f, fo = some f → fk' ≠ some f) ∧ Fr (rdS B rp vb fk none) B C ∧ Gr B fk fk' := by
  obtain ⟨fk', fo, k1, k2, k3, k4, k5, k6, k7⟩ := k
  have lt2 : ∀ j, j < 24 → vb2 j < B.blk.length := fun j hj => h.rd2.cnt.lt hj
  obtain ⟨kv2, av2, bx2, bk2, _⟩ := h.rd2.box
  have ltk : ∀ f, fk2 = some f → f < B.blk.length := fun f q => bk2.famLt f q
  have off : ∀ j, j < 24 → ¬ rdS B rp vb fk none (.row (vb2 j)) ∧ ¬ rdS B rp vb fk none (.fam (vb2 j)) := by
    intro j hj
    have hr := h.rd2.cnt.row j hj
    constructor
    · rintro (q | ⟨i, hi, q⟩ | q | q)
      · injection q with q
        obtain ⟨_, _, b, _⟩ := h.rd.box
        rw [q, b] at hr; simp at hr
      · injection q with q; exact h.ne i j hi hj q.symm
      · cases hfk : fk with
        | none => rw [hfk] at q; exact q
        | some f =>
          rw [hfk] at q
          obtain ⟨k, base, z1, z2⟩ := q
          rw [hr] at z1; cases z1; cases z2
          exact h.nf j hj hfk
      · exact q
    · rintro (q | ⟨i, hi, q⟩ | q | q)
      · cases q
      · cases q
      · cases hfk : fk with
        | none => rw [hfk] at q; exact q
        | some f =>
          rw [hfk] at q
          exact h.nf j hj (by rw [hfk]; exact congrArg some (show f = vb2 j from (show vb2 j = f from q).symm))
      · exact q
  refine ⟨fk', fo, { fr := frNew h.fr k1 fun x q => rdS_new hw h.fr h.nr h.gk q, gk := h.gk.trans k2 h.fr.len, gk2 := h.gk2, rd := k4, rd2 := ?_, nr := h.nr, nr2 := h.nr2, ne := h.ne, nf := ?_, nf2 := h.nf2, nk := ?_, nc := h.nc, nc1 := h.nc1, nc2 := h.nc2 }, k5, ?_, ?_, k7, k6, k1, k2⟩
  · refine h.rd2.fr k1 ?_ ?_ off (offRd h.rd h.nf2 fun f q w => h.nk f w q) fun b q f k base hf => by cases hf
    · rintro (q | ⟨j, hj, q⟩ | q | q)
      · injection q with q; exact h.nc q.symm
      · injection q with q; exact h.rd.cnt.nevar hj bx2 q.symm
      · exact inFamO_var bx2 q
      · exact q
    · rintro (q | ⟨j, hj, q⟩ | q | q)
      · injection q with q; exact h.nc1 q.symm
      · injection q with q; exact h.rd.cnt.nevar hj h.rd2.cnt.box q.symm
      · exact inFamO_var h.rd2.cnt.box q
      · exact q
  · intro j hj q
    rcases k2.or q with y | y
    · exact h.nf j hj y
    · have := lt2 j hj; omega
  · intro f q w
    rcases k2.or q with y | y
    · exact h.nk f y w
    · have := ltk f w; omega
  · intro j hj q
    rcases k3.or q with y | y
    · cases y
    · have := lt2 j hj; omega
  · intro f q w
    rcases k3.or q with y | y
    · cases y
    · have := ltk f w; omega
theorem JR.new {A2 : AS} (hA : Fr S0 A A2) (hR : IsRd A2 rp r cp vb none none) (hN : NewR A rp vb) (hf : Fr S0 A2 B) (hR2 : IsRd B rp2 r2 cp2 vb2 none none) (hN2 : NewR A2 rp2 vb2) (hc2 : A2.blk.length ≤ cp2) : JR A B rp cp vb r none rp2 cp2 vb2 r2 none := by
  have hl := hA.len
  obtain ⟨_, _, b, _⟩ := hR.box
  have l1 := row_lt b
  have l2 := row_lt hR.cnt.box
  refine ⟨hA.then0 hf, .inl rfl, .inl rfl, hR.fr0 hf, hR2, hN, ⟨by have := hN2.1; omega, fun j hj => by have := hN2.2 j hj; omega⟩, fun i j hi hj q => ?_, fun j _ q => (by cases q), fun j _ q => (by cases q), fun f q => (by cases q), fun q => ?_, fun q => ?_, fun q => ?_⟩
  · have := hR.cnt.lt hi; have := hN2.2 j hj; omega
  · have := hN2.1; omega
  · omega
  · have := hN2.1; omega
end
end Go.Sv.Try
namespace Go.Sv.Try
open Go Go.Proofs
set_option linter.unusedVariables false
set_option linter.unusedSimpArgs false
section
set_option maxRecDepth 10000 in
set_option maxHeartbeats 32000000 in
theorem roundRecalls_spec {m : Hp} {A : AS} {v vv : V} {l ll : List InP} (hw : WF A) (hm : m.on A) (h : Slc eIn m v l) (h' : Slc eIn m vv ll) {n me ht : Int} (h1 : IntIn .i64 n) (h3 : IntIn .i64 ht) : ∃ w A', EvF Try.prog HH 8 [.agg [.int .i64 n, .int .i64 me, .int .i64 ht], v, vv] A w A' ∧ w = .bool true := by
  refine run_fn2 rfl Try.func8 (by unfold Try.f8; rfl) Try.ntmps8 (by unfold Try.f8; rfl) (by simp) ?_
  simp only [RT, Nat.reduceLT, Nat.reduceBEq, Nat.reduceEqDiff, Nat.reduceAdd, Int.reduceEq, Int.reduceLT, Int.reduceLE, Int.reduceGT, Int.reduceGE]
  obtain ⟨A1, e1, f1, r1, n1⟩ := new_var A [.int .i64 n, .int .i64 me, .int .i64 ht]
  rw [← e1]
  refine run_call1 (evF_ground rfl) ?_
  have hlen := fun B => h.len (P := Try.prog) Try.underlying58 B
  have hlen' := fun B => h'.len (P := Try.prog) Try.underlying58 B
  have w1 := f1.wf hw
  simp only [RT, Nat.reduceLT, Nat.reduceBEq, Nat.reduceEqDiff, Nat.reduceAdd, Int.reduceEq, Int.reduceLT, Int.reduceLE, Int.reduceGT, Int.reduceGE, ix3, ld3 r1]
  obtain ⟨w, A2, k1, f2, k2⟩ := newR_spec (me := me) w1 h1 h3
  refine run_call1 k1 ?_
  simp only [RT, Nat.reduceLT, Nat.reduceBEq, Nat.reduceEqDiff, Nat.reduceAdd, Int.reduceEq, Int.reduceLT, Int.reduceLE, Int.reduceGT, Int.reduceGE, ix3, ld3 (f2.row0 r1)]
  obtain ⟨w', A3, k3, f3, k4⟩ := newR_spec (me := me) (f2.wf w1) h1 h3
  rcases k2 with ⟨er, he, rfl⟩ | ⟨n, me, rp, cp, vb, rfl, rfl, hn, hme, ht0, ht1, rfl, hR, hN, hcpl⟩
  · simp only [RT, Nat.reduceLT, Nat.reduceBEq, Nat.reduceEqDiff, Nat.reduceAdd, Int.reduceEq, Int.reduceLT, Int.reduceLE, Int.reduceGT, Int.reduceGE, ix3, ld3 (f2.row0 r1)]
    refine run_call1 k3 ?_
    rcases k4 with ⟨er', he', rfl⟩ | ⟨_, _, _, _, _, _, _, _, _, _, _, rfl, _⟩
    · simp only [RT, Nat.reduceLT, Nat.reduceBEq, Nat.reduceEqDiff, Nat.reduceAdd, Int.reduceEq, Int.reduceLT, Int.reduceLE, Int.reduceGT, Int.reduceGE, decide_eq_true (show ¬ (er = 0) from he)]
    · simp only [RT, Nat.reduceLT, Nat.reduceBEq, Nat.reduceEqDiff, Nat.reduceAdd, Int.reduceEq, Int.reduceLT, Int.reduceLE, Int.reduceGT, Int.reduceGE, decide_eq_true (show ¬ (er = 0) from he)]
  simp only [RT, Nat.reduceLT, Nat.reduceBEq, Nat.reduceEqDiff, Nat.reduceAdd, Int.reduceEq, Int.reduceLT, Int.reduceLE, Int.reduceGT, Int.reduceGE, ix3, ld3 (f2.row0 r1)]
  refine run_call1 k3 ?_
  rcases k4 with ⟨er, he, rfl⟩ | ⟨n', me', rp2, cp2, vb2, qn, qm, hn', hme', _, _, rfl, hR2, hN2, hcpl2⟩
  · simp only [RT, Nat.reduceLT, Nat.reduceBEq, Nat.reduceEqDiff, Nat.reduceAdd, Int.reduceEq, Int.reduceLT, Int.reduceLE, Int.reduceGT, Int.reduceGE, decide_eq_true (show ¬ (er = 0) from he)]
  obtain rfl : n' = n := by omega
  obtain rfl : me' = me := by omega
  have hJ3 := JR.new f2 hR hN f3 hR2 hN2 hcpl2
  simp only [RT, Nat.reduceLT, Nat.reduceBEq, Nat.reduceEqDiff, Nat.reduceAdd, Int.reduceEq, Int.reduceLT, Int.reduceLE, Int.reduceGT, Int.reduceGE, pEqR, hlen, hlen']
  by_cases g1 : (l.length : Int) > 60
  · simp only [RT, Nat.reduceLT, Nat.reduceBEq, Nat.reduceEqDiff, Nat.reduceAdd, Int.reduceEq, Int.reduceLT, Int.reduceLE, Int.reduceGT, Int.reduceGE, decide_eq_true g1]
  by_cases g2 : (ll.length : Int) > 60
  · simp only [RT, Nat.reduceLT, Nat.reduceBEq, Nat.reduceEqDiff, Nat.reduceAdd, Int.reduceEq, Int.reduceLT, Int.reduceLE, Int.reduceGT, Int.reduceGE, decide_eq_false g1, decide_eq_true g2, hlen']
  simp only [RT, Nat.reduceLT, Nat.reduceBEq, Nat.reduceEqDiff, Nat.reduceAdd, Int.reduceEq, Int.reduceLT, Int.reduceLE, Int.reduceGT, Int.reduceGE, decide_eq_false g1, decide_eq_false g2, hlen, hlen']
  refine run_loop_j (fun z e B => ∃ (i : Nat) (r r2 : Rd) (s : Led) (fk fk2 : Option Nat), z = l.length - i ∧ i ≤ l.length ∧ e.get 73 = .int .i64 i ∧ e.get 7 = .ptr rp 0 ∧ e.get 9 = .ptr rp2 0 ∧ e.get 2 = vv ∧ e.get 71 = v ∧ e.get 72 = .int .i64 l.length ∧ JR A1 B rp cp vb r fk rp2 cp2 vb2 r2 fk2 ∧ Rng r ∧ r.acts = [] ∧ Mt s r ∧ r.n = n' ∧ r.me = me' ∧ Rng r2 ∧ r2.acts = [] ∧ Rc n' me' s r2)
    (fun z e B => Is z (.exit 0) ∧ ∃ (r r2 : Rd) (s : Led) (fk fk2 : Option Nat), e.get 7 = .ptr rp 0 ∧ e.get 9 = .ptr rp2 0 ∧ e.get 2 = vv ∧ JR A1 B rp cp vb r fk rp2 cp2 vb2 r2 fk2 ∧ Mt s r ∧ r.n = n' ∧ r.me = me' ∧ Rng r2 ∧ r2.acts = [] ∧ Rc n' me' s r2)
    ⟨_, 0, rd0 n' me' ht, rd0 n' me' ht, led0, none, none, rfl, by omega, rfl, rfl, rfl, rfl, rfl, rfl, hJ3, rng0 hme ht0 ht1, rfl, mt0 hn hme, rfl, rfl, rng0 hme ht0 ht1, rfl, ⟨rfl, rfl, fun _ _ => rfl, rfl, rfl⟩⟩ ?_ ?_
  · rintro z e B ⟨i, r, r2, s, fk, fk2, rfl, hi, h73, h7, h9, h2, h71, h72, hJ, hr, ha, hM, hrn, hrm, hr2, ha2, hRc⟩
    simp only [RT, Nat.reduceLT, Nat.reduceBEq, Nat.reduceEqDiff, Nat.reduceAdd, Int.reduceEq, Int.reduceLT, Int.reduceLE, Int.reduceGT, Int.reduceGE, h72, h73]
    refine condK_of (fun g => ?_) (fun g => ?_)
    rotate_left
    · simp only [RT, Nat.reduceLT, Nat.reduceBEq, Nat.reduceEqDiff, Nat.reduceAdd, Int.reduceEq, Int.reduceLT, Int.reduceLE, Int.reduceGT, Int.reduceGE]
      refine ⟨rfl, r, r2, s, fk, fk2, ?_⟩
      and_intros <;> assumption
    obtain ⟨x, hx⟩ := get_lt (l := l) (i := i) (by omega)
    obtain ⟨b, o, c, g3, g4, g5⟩ := h.at (P := Try.prog) (k := .i64) (hm.fr0 (f1.then0 hJ.fr)) Try.underlying58 sz65 ag65 hx
    obtain ⟨rfl, hid⟩ := eIn_W g5
    obtain ⟨C, t1, t2, t3⟩ := newIn (A := B) hid
    have fI := faIn B.blk.length
    have la := ldIn t3 hid
    have hJC := hJ.s0 t2
    simp only [RT, Nat.reduceLT, Nat.reduceBEq, Nat.reduceEqDiff, Nat.reduceAdd, Int.reduceEq, Int.reduceLT, Int.reduceLE, Int.reduceGT, Int.reduceGE, h71, h73, g3, g4, zcIn, t1, fI, la]
    by_cases q6 : (toIn x).kind = 6
    · simp only [RT, Nat.reduceLT, Nat.reduceBEq, Nat.reduceEqDiff, Nat.reduceAdd, Int.reduceEq, Int.reduceLT, Int.reduceLE, Int.reduceGT, Int.reduceGE, decide_eq_true q6, h73]
      refine ⟨l.length - (i + 1), by omega, i + 1, r, r2, s, fk, fk2, rfl, by omega, by rw [wrapS (by omega)], ?_⟩
      and_intros <;> assumption
    obtain ⟨w, D, m1, m2⟩ := give1_spec (hJC.fr.wf w1) hJC.rd hr ha hid
    simp only [RT, Nat.reduceLT, Nat.reduceBEq, Nat.reduceEqDiff, Nat.reduceAdd, Int.reduceEq, Int.reduceLT, Int.reduceLE, Int.reduceGT, Int.reduceGE, decide_eq_false q6, h7, la]
    refine run_call1 m1 ?_
    obtain ⟨fk', fo, hJ2, m4, hf1, hf2, _, _, _⟩ := hJC.give w1 m2
    obtain ⟨s1, u1, u2, u3, u4, u5, u6, u7, u8⟩ := give_ok hM ha q6
    obtain ⟨v1, v2⟩ := hr.give ha (toIn x)
    obtain ⟨L, hL⟩ : ∃ L, L = (r.give (toIn x)).2 := ⟨_, rfl⟩
    have hLn : L.length ≤ 2001 := by rw [hL]; exact give_len hr ha _
    have mt2 := u7.mt
    have gd := u7.good
    have kp := u7.kp
    rw [← hL] at m4 mt2 gd
    have gd : Led.good n' me' (giveK r (toIn x)) s1 L := by rw [← hrn, ← hrm]; exact gd
    have mt2 : Mt (L.foldl (Led.after me') s1) (r.give (toIn x)).1 := by rw [← hrm]; exact mt2
    have hrn2 : (r.give (toIn x)).1.n = n' := kp.n.trans hrn
    have hrm2 : (r.give (toIn x)).1.me = me' := kp.me.trans hrm
    have hRc1 : Rc n' me' s1 r2 := by
      refine ⟨hRc.hn, hRc.hm, fun R K => ?_, by rw [u4]; exact hRc.lk, by rw [u5]; exact hRc.now⟩
      rw [hRc.v, u1, hrm]
      unfold giveV; split
      · rename_i z; rw [putV_other z.2]
      · rfl
    have hln := fun B => m4.len (P := Try.prog) Try.underlying35 B
    simp only [RT, Nat.reduceLT, Nat.reduceBEq, Nat.reduceEqDiff, Nat.reduceAdd, Int.reduceEq, Int.reduceLT, Int.reduceLE, Int.reduceGT, Int.reduceGE, hln]
    refine run_loop_j (fun z e B => ∃ (j : Nat) (s2 : Led) (r2 : Rd) (fk2 : Option Nat), z = L.length - j ∧ j ≤ L.length ∧ s2 = (L.take j).foldl (Led.after me') s1 ∧ e.get 84 = .int .i64 j ∧ JR A1 B rp cp vb (r.give (toIn x)).1 fk' rp2 cp2 vb2 r2 fk2 ∧ Lst eAct Hp.emp B w L fo ∧ (∀ f, fo = some f → fk2 ≠ some f) ∧ Rng r2 ∧ r2.acts = [] ∧ Rc n' me' s2 r2 ∧ e.get 7 = .ptr rp 0 ∧ e.get 9 = .ptr rp2 0 ∧ e.get 2 = vv ∧ e.get 71 = v ∧ e.get 72 = .int .i64 l.length ∧ e.get 73 = .int .i64 i ∧ e.get 82 = w ∧ e.get 83 = .int .i64 L.length)
      (fun z e B => Is z (.exit 2) ∧ ∃ (s2 : Led) (r2 : Rd) (fk2 : Option Nat), s2 = L.foldl (Led.after me') s1 ∧ JR A1 B rp cp vb (r.give (toIn x)).1 fk' rp2 cp2 vb2 r2 fk2 ∧ Rng r2 ∧ r2.acts = [] ∧ Rc n' me' s2 r2 ∧ e.get 7 = .ptr rp 0 ∧ e.get 9 = .ptr rp2 0 ∧ e.get 2 = vv ∧ e.get 71 = v ∧ e.get 72 = .int .i64 l.length ∧ e.get 73 = .int .i64 i)
      ⟨_, 0, s1, r2, fk2, rfl, by omega, rfl, rfl, hJ2, m4, hf2, hr2, ha2, hRc1, h7, h9, h2, h71, h72, h73, rfl, rfl⟩ ?_ ?_
    rotate_left
    · rintro z e B hz ⟨rfl, s2, r2, fk2, hs2, hJ, hr2, ha2, hRc, h7, h9, h2, h71, h72, h73⟩
      simp only [RT, Nat.reduceLT, Nat.reduceBEq, Nat.reduceEqDiff, Nat.reduceAdd, Int.reduceEq, Int.reduceLT, Int.reduceLE, Int.reduceGT, Int.reduceGE, h73]
      rw [← hs2] at mt2
      refine ⟨l.length - (i + 1), by omega, i + 1, (r.give (toIn x)).1, r2, s2, fk', fk2, rfl, by omega, by rw [wrapS (by omega)], ?_⟩
      and_intros <;> assumption
    rintro z e B ⟨j, s2, r2, fk2, rfl, hj, hs2, h84, hJ, hLs, hfk, hr2, ha2, hRc, h7, h9, h2, h71, h72, h73, h82, h83⟩
    simp only [RT, Nat.reduceLT, Nat.reduceBEq, Nat.reduceEqDiff, Nat.reduceAdd, Int.reduceEq, Int.reduceLT, Int.reduceLE, Int.reduceGT, Int.reduceGE, h83, h84]
    refine condK_of (fun g => ?_) (fun g => ?_)
    rotate_left
    · have : j = L.length := by omega
      subst this; rw [List.take_length] at hs2
      simp only [RT, Nat.reduceLT, Nat.reduceBEq, Nat.reduceEqDiff, Nat.reduceAdd, Int.reduceEq, Int.reduceLT, Int.reduceLE, Int.reduceGT, Int.reduceGE]
      refine ⟨rfl, s2, r2, fk2, hs2, ?_⟩
      and_intros <;> assumption
    obtain ⟨a, hax⟩ := get_lt (l := L) (i := j) (by omega)
    obtain ⟨b2, o2, c2, g3, g4, g5⟩ := hLs.at (P := Try.prog) (k := .i64) (Hp.on_emp B) Try.underlying35 sz42 ag42 hax
    obtain ⟨rfl, hal⟩ := eAct_W.1 g5
    obtain ⟨E, e1, e2, e3⟩ := newAc (A := B) hal
    have hok := good_at gd hax
    rw [← hs2] at hok
    have hnx : s2.after me' a = (L.take (j + 1)).foldl (Led.after me') s1 := by rw [fold_snoc hax, ← hs2]
    have hJE := hJ.s0 e2
    have hLE := hLs.fr0 e2
    obtain ⟨w2, F, p1, p2⟩ := recall_spec (hJE.fr.wf w1) hJE.rd2 hr2 (a := a) hal
    simp only [RT, Nat.reduceLT, Nat.reduceBEq, Nat.reduceEqDiff, Nat.reduceAdd, Int.reduceEq, Int.reduceLT, Int.reduceLE, Int.reduceGT, Int.reduceGE, h82, h84, g3, g4, zcA, e1, h9, ldAc e3 hal]
    refine run_call1 p1 ?_
    simp only [RT, Nat.reduceLT, Nat.reduceBEq, Nat.reduceEqDiff, Nat.reduceAdd, Int.reduceEq, Int.reduceLT, Int.reduceLE, Int.reduceGT, Int.reduceGE, h84]
    obtain ⟨fk2', _, hJF, _, _, _, _, _, hfr, hgr⟩ := hJE.symm.give w1 (RStepS.res (hJE.fr.wf w1) (.refl _ _) p2)
    have hLF := hLE.fr hfr (offRd hJE.rd2 hf1 hfk)
    have hfk' : ∀ f, fo = some f → fk2' ≠ some f := fun f q w => by
      rcases hgr.or w with y | y
      · exact hfk f q y
      · have := hLE.famLt f q; omega
    obtain ⟨y1, y2⟩ := hr2.recall a
    have y3 := y2.trans ha2
    have y4 := hRc.act hok
    have hJF' := hJF.symm
    refine ⟨L.length - (j + 1), by omega, j + 1, s2.after me' a, r2.Recall a, fk2', rfl, by omega, hnx, by rw [wrapS (by omega)], ?_⟩
    and_intros <;> assumption
  · rintro z e B hz ⟨rfl, r, r2, s, fk, fk2, h7, h9, h2, hJ, hM, hrn, hrm, hr2, ha2, hRc⟩
    have hlk : r.locked = r2.locked ∧ r.lock = r2.lock := by
      have := hM.lk.symm.trans hRc.lk.symm
      injection this with q1 q2
      exact ⟨q1, q2⟩
    have hown : ∀ R, own r R = own r2 R := fun R => by
      unfold own getV
      rw [hrn, hRc.hn, hrm, hRc.hm]
      have e : ∀ R K, r.v R K me' = r2.v R K me' := fun R K => by rw [hRc.v, hM.v]
      simp only [Int.toNat_natCast, e]
    obtain ⟨_, B1, k1, k2, rfl⟩ := lock_spec hJ.rd
    obtain ⟨B2, y1, y2, y3⟩ := newId (A := B1) hJ.rd.ok.lock
    have hJ2 := (hJ.s0 k2).s0 y2
    obtain ⟨_, B3, k3, k4, rfl⟩ := lock_spec hJ2.rd2
    obtain ⟨B4, y4, y5, y6⟩ := newId (A := B3) hJ2.rd2.ok.lock
    have hJ4 := (hJ2.s0 k4).s0 y5
    have ld1 := ldId (y5.row0 (k4.row0 y3)) hJ.rd.ok.lock
    have ld2 := ldId y6 hJ2.rd2.ok.lock
    simp only [RT, Nat.reduceLT, Nat.reduceBEq, Nat.reduceEqDiff, Nat.reduceAdd, Int.reduceEq, Int.reduceLT, Int.reduceLE, Int.reduceGT, Int.reduceGE, h7]
    refine run_call1 k1 ?_
    simp only [RT, Nat.reduceLT, Nat.reduceBEq, Nat.reduceEqDiff, Nat.reduceAdd, Int.reduceEq, Int.reduceLT, Int.reduceLE, Int.reduceGT, Int.reduceGE, zcI, y1, h9]
    refine run_call1 k3 ?_
    simp only [RT, Nat.reduceLT, Nat.reduceBEq, Nat.reduceEqDiff, Nat.reduceAdd, Int.reduceEq, Int.reduceLT, Int.reduceLE, Int.reduceGT, Int.reduceGE, zcI, y4, ld1, ld2, decide_eq_false (show ¬ ¬ (r.locked = r2.locked) from fun z => z hlk.1), eqZ hJ.rd.ok.lock hJ2.rd2.ok.lock, decide_eq_true hlk.2]
    refine run_loop_j (fun z e B => ∃ i : Nat, z = 12 - i ∧ i ≤ 12 ∧ e.get 19 = .int .i64 i ∧ JR A1 B rp cp vb r fk rp2 cp2 vb2 r2 fk2 ∧ e.get 7 = .ptr rp 0 ∧ e.get 9 = .ptr rp2 0 ∧ e.get 2 = vv)
      (fun z e B => Is z (.exit 4) ∧ JR A1 B rp cp vb r fk rp2 cp2 vb2 r2 fk2 ∧ e.get 7 = .ptr rp 0 ∧ e.get 9 = .ptr rp2 0 ∧ e.get 2 = vv)
      ⟨_, 0, rfl, by omega, rfl, hJ4, h7, h9, h2⟩ ?_ ?_
    · rintro z e B ⟨i, rfl, hi, h19, hJ, h7, h9, h2⟩
      simp only [RT, Nat.reduceLT, Nat.reduceBEq, Nat.reduceEqDiff, Nat.reduceAdd, Int.reduceEq, Int.reduceLT, Int.reduceLE, Int.reduceGT, Int.reduceGE, h19]
      refine condK_of (fun g => ?_) (fun g => ?_)
      rotate_left
      · simp only [RT, Nat.reduceLT, Nat.reduceBEq, Nat.reduceEqDiff, Nat.reduceAdd, Int.reduceEq, Int.reduceLT, Int.reduceLE, Int.reduceGT, Int.reduceGE]
        and_intros <;> first | rfl | assumption
      obtain ⟨_, C, k1, k2, rfl⟩ := own_spec (hJ.fr.wf w1) hJ.rd (i : Int)
      have hJC := hJ.s0 k2
      obtain ⟨_, D, k3, k4, rfl⟩ := own_spec (hJC.fr.wf w1) hJC.rd2 (i : Int)
      simp only [RT, Nat.reduceLT, Nat.reduceBEq, Nat.reduceEqDiff, Nat.reduceAdd, Int.reduceEq, Int.reduceLT, Int.reduceLE, Int.reduceGT, Int.reduceGE, h7, h19]
      refine run_call1 k1 ?_
      simp only [RT, Nat.reduceLT, Nat.reduceBEq, Nat.reduceEqDiff, Nat.reduceAdd, Int.reduceEq, Int.reduceLT, Int.reduceLE, Int.reduceGT, Int.reduceGE, h9, h19]
      refine run_call1 k3 ?_
      simp only [RT, Nat.reduceLT, Nat.reduceBEq, Nat.reduceEqDiff, Nat.reduceAdd, Int.reduceEq, Int.reduceLT, Int.reduceLE, Int.reduceGT, Int.reduceGE, eqOw (own_len hJ.rd.ok.v i) (own_len hJC.rd2.ok.v i), decide_eq_true (hown i), h19]
      have hJD := hJC.s0 k4
      refine ⟨12 - (i + 1), by omega, i + 1, rfl, by omega, by rw [wrapS (by omega)], ?_⟩
      and_intros <;> assumption
    rintro z e B hz ⟨rfl, hJ, h7, h9, h2⟩
    have hV0 : Vo me' (fun R K => r.v R K me') r2 := ⟨hRc.hm, fun R K q => by rw [hRc.v]; rw [hM.v]; exact q, fun a q => by rw [ha2] at q; cases q⟩
    simp only [RT, Nat.reduceLT, Nat.reduceBEq, Nat.reduceEqDiff, Nat.reduceAdd, Int.reduceEq, Int.reduceLT, Int.reduceLE, Int.reduceGT, Int.reduceGE, h2, hlen']
    refine run_loop_j (fun z e B => ∃ (i : Nat) (r2 : Rd) (fk2 : Option Nat), z = ll.length - i ∧ i ≤ ll.length ∧ e.get 124 = .int .i64 i ∧ JR A1 B rp cp vb r fk rp2 cp2 vb2 r2 fk2 ∧ Vo me' (fun R K => r.v R K me') r2 ∧ Rng r2 ∧ r2.acts = [] ∧ e.get 7 = .ptr rp 0 ∧ e.get 9 = .ptr rp2 0 ∧ e.get 122 = vv ∧ e.get 123 = .int .i64 ll.length)
      (fun z e B => Is z (.exit 6))
      ⟨_, 0, r2, fk2, rfl, by omega, rfl, hJ, hV0, hr2, ha2, h7, h9, rfl, rfl⟩ ?_ ?_
    rotate_left
    · rintro z e B hz rfl
      simp only [RT, Nat.reduceLT, Nat.reduceBEq, Nat.reduceEqDiff, Nat.reduceAdd, Int.reduceEq, Int.reduceLT, Int.reduceLE, Int.reduceGT, Int.reduceGE]
    clear hV0 hRc hown hlk hJ2 hJ4
    rintro z e B ⟨i, r2, fk2, rfl, hi, h124, hJ, hV, hr2, ha2, h7, h9, h122, h123⟩
    simp only [RT, Nat.reduceLT, Nat.reduceBEq, Nat.reduceEqDiff, Nat.reduceAdd, Int.reduceEq, Int.reduceLT, Int.reduceLE, Int.reduceGT, Int.reduceGE, h123, h124]
    refine condK_of (fun g => ?_) (fun g => ?_)
    rotate_left
    · simp only [RT, Nat.reduceLT, Nat.reduceBEq, Nat.reduceEqDiff, Nat.reduceAdd, Int.reduceEq, Int.reduceLT, Int.reduceLE, Int.reduceGT, Int.reduceGE]
      rfl
    obtain ⟨x, hx⟩ := get_lt (l := ll) (i := i) (by omega)
    obtain ⟨b, o, c, g3, g4, g5⟩ := h'.at (P := Try.prog) (k := .i64) (hm.fr0 (f1.then0 hJ.fr)) Try.underlying58 sz65 ag65 hx
    obtain ⟨rfl, hid⟩ := eIn_W g5
    obtain ⟨C, t1, t2, t3⟩ := newIn (A := B) hid
    have fI := faIn B.blk.length
    have la := ldIn t3 hid
    have hJC := hJ.s0 t2
    simp only [RT, Nat.reduceLT, Nat.reduceBEq, Nat.reduceEqDiff, Nat.reduceAdd, Int.reduceEq, Int.reduceLT, Int.reduceLE, Int.reduceGT, Int.reduceGE, h122, h124, g3, g4, zcIn, t1, fI, la]
    by_cases q6 : (toIn x).kind = 6
    · simp only [RT, Nat.reduceLT, Nat.reduceBEq, Nat.reduceEqDiff, Nat.reduceAdd, Int.reduceEq, Int.reduceLT, Int.reduceLE, Int.reduceGT, Int.reduceGE, decide_eq_true q6, h124]
      refine ⟨ll.length - (i + 1), by omega, i + 1, r2, fk2, rfl, by omega, by rw [wrapS (by omega)], ?_⟩
      and_intros <;> assumption
    obtain ⟨w, D, m1, m2⟩ := give1_spec (hJC.fr.wf w1) hJC.rd2 hr2 ha2 hid
    simp only [RT, Nat.reduceLT, Nat.reduceBEq, Nat.reduceEqDiff, Nat.reduceAdd, Int.reduceEq, Int.reduceLT, Int.reduceLE, Int.reduceGT, Int.reduceGE, decide_eq_false q6, h9, la]
    refine run_call1 m1 ?_
    obtain ⟨fk', fo, hJ2, m4, _, _, _, _, _⟩ := hJC.symm.give w1 m2
    have hJ2 := hJ2.symm
    obtain ⟨v1, v2⟩ := hr2.give ha2 (toIn x)
    have hVX := hV.give q6
    have hVs := hVX.st
    obtain ⟨L, hL⟩ : ∃ L, L = (r2.give (toIn x)).2 := ⟨_, rfl⟩
    have hLn : L.length ≤ 2001 := by rw [hL]; exact give_len hr2 ha2 _
    have hout := hVX.out
    rw [← hL] at m4 hout
    have hln := fun B => m4.len (P := Try.prog) Try.underlying35 B
    simp only [RT, Nat.reduceLT, Nat.reduceBEq, Nat.reduceEqDiff, Nat.reduceAdd, Int.reduceEq, Int.reduceLT, Int.reduceLE, Int.reduceGT, Int.reduceGE, hln]
    refine run_loop_j (fun z e B => ∃ (j : Nat), z = L.length - j ∧ j ≤ L.length ∧ e.get 135 = .int .i64 j ∧ Fr S0 D B ∧ e.get 7 = .ptr rp 0 ∧ e.get 9 = .ptr rp2 0 ∧ e.get 122 = vv ∧ e.get 123 = .int .i64 ll.length ∧ e.get 124 = .int .i64 i ∧ e.get 133 = w ∧ e.get 134 = .int .i64 L.length)
      (fun z e B => Is z (.exit 8) ∧ Fr S0 D B ∧ e.get 7 = .ptr rp 0 ∧ e.get 9 = .ptr rp2 0 ∧ e.get 122 = vv ∧ e.get 123 = .int .i64 ll.length ∧ e.get 124 = .int .i64 i)
      ⟨_, 0, rfl, by omega, rfl, .refl _ _, h7, h9, h122, h123, h124, rfl, rfl⟩ ?_ ?_
    rotate_left
    · rintro z e B hz ⟨rfl, hf, h7, h9, h122, h123, h124⟩
      simp only [RT, Nat.reduceLT, Nat.reduceBEq, Nat.reduceEqDiff, Nat.reduceAdd, Int.reduceEq, Int.reduceLT, Int.reduceLE, Int.reduceGT, Int.reduceGE, h124]
      have hJ3 := hJ2.s0 hf
      refine ⟨ll.length - (i + 1), by omega, i + 1, (r2.give (toIn x)).1, fk', rfl, by omega, by rw [wrapS (by omega)], ?_⟩
      and_intros <;> assumption
    rintro z e B ⟨j, rfl, hj, h135, hf, h7, h9, h122, h123, h124, h133, h134⟩
    simp only [RT, Nat.reduceLT, Nat.reduceBEq, Nat.reduceEqDiff, Nat.reduceAdd, Int.reduceEq, Int.reduceLT, Int.reduceLE, Int.reduceGT, Int.reduceGE, h134, h135]
    refine condK_of (fun g => ?_) (fun g => ?_)
    rotate_left
    · simp only [RT, Nat.reduceLT, Nat.reduceBEq, Nat.reduceEqDiff, Nat.reduceAdd, Int.reduceEq, Int.reduceLT, Int.reduceLE, Int.reduceGT, Int.reduceGE]
      and_intros <;> first | rfl | assumption
    obtain ⟨a, hax⟩ := get_lt (l := L) (i := j) (by omega)
    obtain ⟨b2, o2, c2, g3, g4, g5⟩ := (m4.fr0 hf).at (P := Try.prog) (k := .i64) (Hp.on_emp B) Try.underlying35 sz42 ag42 hax
    obtain ⟨rfl, hal⟩ := eAct_W.1 g5
    obtain ⟨E, e1, e2, e3⟩ := newAc (A := B) hal
    have hJE := (hJ2.s0 hf).s0 e2
    obtain ⟨_, F, p1, p2, rfl⟩ := own_spec (hJE.fr.wf w1) hJE.rd a.round
    have l0 := getV_len (n := r.n) hJE.rd.ok.v a.round 0 r.me
    have l1 := getV_len (n := r.n) hJE.rd.ok.v a.round 1 r.me
    obtain ⟨G, s1, s2, s3⟩ := newOw (A := F) (own_len hJE.rd.ok.v a.round)
    have fA := faAc0 B.blk.length
    have la2 := ldA0 e3 hal
    have la3 := ldA0 (s2.row0 (p2.row0 e3)) hal
    have ldo := ldOw2 (x := getV r.n r.v a.round 0 r.me) (y := getV r.n r.v a.round 1 r.me) s3 l0 l1
    have ixo := ixOw F.blk.length
    have hfG := ((hf.then0 e2).then0 p2).then0 s2
    have hwr : IntKind.i64.wrap ((j : Int) + 1) = ((j + 1 : Nat) : Int) := by rw [wrapS (by omega)]
    simp only [RT, Nat.reduceLT, Nat.reduceBEq, Nat.reduceEqDiff, Nat.reduceAdd, Int.reduceEq, Int.reduceLT, Int.reduceLE, Int.reduceGT, Int.reduceGE, h133, h135, g3, g4, zcA, e1, h7, fA, la2]
    refine run_call1 p1 ?_
    by_cases k2 : a.kind = 2
    rotate_left
    · simp only [RT, Nat.reduceLT, Nat.reduceBEq, Nat.reduceEqDiff, Nat.reduceAdd, Int.reduceEq, Int.reduceLT, Int.reduceLE, Int.reduceGT, Int.reduceGE, zcOw, s1, fA, la3, decide_eq_false k2, h135, hwr]
      refine ⟨L.length - (j + 1), by omega, j + 1, rfl, by omega, ?_⟩
      and_intros <;> first | rfl | assumption
    obtain ⟨c1, c2, c3, c4⟩ := hout a (List.mem_of_getElem? hax) k2
    have c4 : r.v a.round.toNat a.num.toNat me' = z32 := c4
    have gz : ∀ K : Int, a.num = K → getV r.n r.v a.round K r.me = z32 := fun K q => by
      unfold getV; split
      · rw [← q, hrm]; exact c4
      · rfl
    rcases c1 with c1 | c1
    · simp only [RT, Nat.reduceLT, Nat.reduceBEq, Nat.reduceEqDiff, Nat.reduceAdd, Int.reduceEq, Int.reduceLT, Int.reduceLE, Int.reduceGT, Int.reduceGE, zcOw, s1, fA, la3, decide_eq_true k2, c1, ixo, ldo, bldZ, eqZ l0 z32_len, decide_eq_true (gz 0 c1), h135, hwr]
      refine ⟨L.length - (j + 1), by omega, j + 1, rfl, by omega, ?_⟩
      and_intros <;> first | rfl | assumption
    · simp only [RT, Nat.reduceLT, Nat.reduceBEq, Nat.reduceEqDiff, Nat.reduceAdd, Int.reduceEq, Int.reduceLT, Int.reduceLE, Int.reduceGT, Int.reduceGE, zcOw, s1, fA, la3, decide_eq_true k2, c1, ixo, ldo, bldZ, eqZ l1 z32_len, decide_eq_true (gz 1 c1), h135, hwr]
      refine ⟨L.length - (j + 1), by omega, j + 1, rfl, by omega, ?_⟩
      and_intros <;> first | rfl | assumption
end
end Go.Sv.Try
