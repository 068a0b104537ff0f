/- Rounds in memory: a round, and a count beside it. -/
import Derived.Test.YtajbkniodcbcjaaRdC
namespace Go.Sv
set_option linter.unusedVariables false
theorem castL_congr {n : Nat} {v v' : Vt} {r k : Nat} (h : ∀ w, v r k w = v' r k w) : castL n v r k = castL n v' r k := by
  unfold castL; congr 1; exact List.map_congr_left fun w _ => by rw [h]
theorem sureI_congr {n : Nat} {v v' : Vt} {r k : Int} (h : ∀ w, v r.toNat k.toNat w = v' r.toNat k.toNat w) : sureI n v r k = sureI n v' r k := by
  have e : castI n v r k = castI n v' r k := by
    unfold castI; split
    · exact castL_congr h
    · rfl
  unfold sureI forI; rw [e]
theorem sureN_I {n : Nat} {v : Vt} {r k : Int} {id : Bts} (h : sureN n v r k = some id) : sureI n v r k = some id := (sureN_some h).1
end Go.Sv
namespace Go.Sv.Try
open Go Go.Proofs
set_option linter.unusedVariables false
set_option linter.unusedSimpArgs false
section
variable {A B C : AS} {rp cp : Nat} {r r' : Rd} {vb : Nat → Nat} {fk : Option Nat} {cp2 n : Nat} {vb2 : Nat → Nat} {v2 : Vt}
structure J2 (A B : AS) (rp cp : Nat) (vb : Nat → Nat) (r : Rd) (fk : Option Nat) (cp2 n : Nat) (vb2 : Nat → Nat) (v2 : Vt) : Prop where
  fr : Fr S0 A B
  gk : Gr A none fk
  rd : IsRd B rp r cp vb fk none
  nr : NewR A rp vb
  c2 : IsCnt B cp2 n v2 vb2
  n2 : A.blk.length ≤ cp2 ∧ ∀ j, j < 24 → A.blk.length ≤ vb2 j
  ne : ∀ i j, i < 24 → j < 24 → vb i ≠ vb2 j
  nf : ∀ j, j < 24 → fk ≠ some (vb2 j)
  nc : rp ≠ cp2
theorem J2.s0 (h : J2 A B rp cp vb r fk cp2 n vb2 v2) (hf : Fr S0 B C) : J2 A C rp cp vb r fk cp2 n vb2 v2 :=
  { h with fr := h.fr.then0 hf, rd := h.rd.fr0 hf, c2 := h.c2.fr0 hf }
theorem rdS_new (hw : WF A) (hf : Fr S0 A B) (hn : NewR A rp vb) (gk : Gr A none fk) {x : Loc} (q : rdS B rp vb fk none x) : x.newTo A := by
  rcases rdS_back (A := A) (B := B) (rp := rp) (vb := vb) (fk := none) (fa := none) hf gk (.inl rfl) hw (hf.wf hw) q with q | q
  · rcases q with rfl | ⟨j, hj, rfl⟩ | q | q
    · exact hn.1
    · exact hn.2 j hj
    · exact q.elim
    · exact q.elim
  · exact q
theorem frNew {S : Loc → Prop} (h : Fr S0 A B) (k : Fr S B C) (hs : ∀ x, S x → x.newTo A) : Fr S0 A C := h.trans k fun x q => .inr (hs x q)
theorem J2.give (hw : WF A) (h : J2 A B rp cp vb r fk cp2 n vb2 v2) {x : Rd × List Act} {w : V} (k : GRes B rp cp vb fk none C x w) :
    ∃ fk' fo, J2 A C rp cp vb x.1 fk' cp2 n vb2 v2 ∧ Lst eAct Hp.emp C w x.2 fo ∧ (∀ j, j < 24 → fo ≠ some (vb2 j)) ∧ KV rp B C ∧ ∀ (mr : Nat) (mo : MapO), B.maps[mr]? = some mo → C.maps[mr]? = some mo := by
  obtain ⟨fk', fo, k1, k2, k3, k4, k5, k6, k7⟩ := k
  have lt2 : ∀ j, j < 24 → vb2 j < B.blk.length := fun j hj => h.c2.lt hj
  have off : ∀ j, j < 24 → ¬ rdS B rp vb fk none (.row (vb2 j)) ∧ ¬ rdS B rp vb fk none (.fam (vb2 j)) := by
    intro j hj
    have hr := h.c2.row j hj
    constructor
    · rintro (q | ⟨i, hi, q⟩ | q | q)
      · injection q with q
        obtain ⟨_, _, b, _⟩ := h.rd.box
        rw [q, b] at hr; simp at hr
      · injection q with q; exact h.ne i j hi hj q.symm
      · cases hfk : fk with
        | none => rw [hfk] at q; exact q
        | some f =>
          rw [hfk] at q
          obtain ⟨k, base, z1, z2⟩ := q
          rw [hr] at z1; cases z1; cases z2
          exact h.nf j hj hfk
      · exact q
    · rintro (q | ⟨i, hi, q⟩ | q | q)
      · cases q
      · cases q
      · cases hfk : fk with
        | none => rw [hfk] at q; exact q
        | some f =>
          rw [hfk] at q
          exact h.nf j hj (by rw [hfk]; exact congrArg some (show f = vb2 j from (show vb2 j = f from q).symm))
      · exact q
  refine ⟨fk', fo, { fr := frNew h.fr k1 fun x q => rdS_new hw h.fr h.nr h.gk q, gk := h.gk.trans k2 h.fr.len, rd := k4, nr := h.nr, c2 := ?_, n2 := h.n2, ne := h.ne, nf := ?_, nc := h.nc }, k5, ?_, h.rd.keeps k1, fun mr mo q => k1.map mr mo q ?_⟩
  · refine h.c2.fr k1 ?_ off
    rintro (q | ⟨j, hj, q⟩ | q | q)
    · injection q with q; exact h.nc q.symm
    · injection q with q; exact h.rd.cnt.nevar hj h.c2.box q.symm
    · exact inFamO_var h.c2.box q
    · exact q
  · intro j hj q
    rcases k2.or q with y | y
    · exact h.nf j hj y
    · have := lt2 j hj; omega
  · intro j hj q
    rcases k3.or q with y | y
    · cases y
    · have := lt2 j hj; omega
  · rintro (q | ⟨i, hi, q⟩ | q | q)
    · cases q
    · cases q
    · cases hfk : fk with
      | none => rw [hfk] at q; exact q
      | some f => rw [hfk] at q; exact q
    · exact q
theorem offVb {E : Enc Act} {fo : Option Nat} (h : IsCnt B cp2 n v2 vb2) (hfo : ∀ j, j < 24 → fo ≠ some (vb2 j)) : Off fo B (vbS vb2) := by
  intro b q f k base hf hk
  obtain ⟨j, hj, q⟩ := q
  injection q with q; subst q
  rw [h.row j hj] at hk; cases hk
  intro z
  injection z with z1 z2
  exact hfo j hj (by rw [hf, z1])
theorem offVb' {fo : Option Nat} (h : IsCnt B cp2 n v2 vb2) (hfo : ∀ j, j < 24 → fo ≠ some (vb2 j)) : Off fo B (vbS vb2) := offVb (E := eAct) h hfo
theorem J2.put (h : J2 A B rp cp vb r fk cp2 n vb2 v2) {v' : Vt} (hf : Fr (vbS vb2) B C) (hc : IsCnt C cp2 n v' vb2) : J2 A C rp cp vb r fk cp2 n vb2 v' := by
  refine { h with fr := frNew h.fr hf ?_, rd := h.rd.fr hf ?_ ?_ ?_ ?_ ?_, c2 := hc }
  · rintro x ⟨j, hj, rfl⟩; exact h.n2.2 j hj
  · rintro ⟨j, hj, q⟩
    obtain ⟨_, _, b, _⟩ := h.rd.box
    injection q with q; exact h.c2.nevar hj b q.symm
  · rintro ⟨j, hj, q⟩
    injection q with q; exact h.c2.nevar hj h.rd.cnt.box q.symm
  · refine fun i hi => ⟨?_, ?_⟩
    · rintro ⟨j, hj, q⟩; injection q with q; exact h.ne i j hi hj q
    · rintro ⟨j, hj, q⟩; cases q
  · exact offVb' h.c2 h.nf
  · exact offVb' h.c2 fun j hj q => by cases q
theorem J2.var (h : J2 A B rp cp vb r fk cp2 n vb2 v2) {b : Nat} {cs : List V} (hb : B.blk[b]? = some ⟨cs, .var⟩) (h1 : b ≠ rp) (h2 : b ≠ cp) (h3 : b ≠ cp2) (h4 : A.blk.length ≤ b) (hf : Fr (· = .row b) B C) : J2 A C rp cp vb r fk cp2 n vb2 v2 := by
  refine { h with fr := h.fr.row_ hf h4, rd := h.rd.fr hf ?_ ?_ ?_ ?_ ?_, c2 := h.c2.fr hf ?_ ?_ }
  · intro q; injection q with q; exact h1 q.symm
  · intro q; injection q with q; exact h2 q.symm
  · exact fun j hj => ⟨fun q => by injection q with q; exact h.rd.cnt.nevar hj hb q, fun q => by cases q⟩
  · exact .box hb
  · exact .box hb
  · intro q; injection q with q; exact h3 q.symm
  · exact fun j hj => ⟨fun q => by injection q with q; exact h.c2.nevar hj hb q, fun q => by cases q⟩
theorem J2.map (h : J2 A B rp cp vb r fk cp2 n vb2 v2) {mr : Nat} (h4 : A.maps.length ≤ mr) (hf : Fr (· = .map mr) B C) : J2 A C rp cp vb r fk cp2 n vb2 v2 := by
  refine { h with fr := frNew h.fr hf (fun x q => by subst q; exact h4), rd := h.rd.fr hf ?_ ?_ ?_ ?_ ?_, c2 := h.c2.fr hf ?_ ?_ }
  · intro q; cases q
  · intro q; cases q
  · exact fun j hj => ⟨fun q => (by cases q), fun q => (by cases q)⟩
  · intro b q; cases q
  · intro b q; cases q
  · intro q; cases q
  · exact fun j hj => ⟨fun q => (by cases q), fun q => (by cases q)⟩
theorem J2.new {A2 : AS} (hA : Fr S0 A A2) (hR : IsRd A2 rp r cp vb none none) (hN : NewR A rp vb) (f : Fr S0 A2 B) (hc : IsCnt B cp2 n v2 vb2) (hcp : A2.blk.length ≤ cp2) (hvb : ∀ j, j < 24 → A2.blk.length ≤ vb2 j) : J2 A B rp cp vb r none cp2 n vb2 v2 := by
  have hl := hA.len
  refine { fr := hA.then0 f, gk := .inl rfl, rd := hR.fr0 f, nr := hN, c2 := hc, n2 := ⟨by omega, fun j hj => by have := hvb j hj; omega⟩, ne := fun i j hi hj q => ?_, nf := fun j hj q => (by cases q), nc := fun q => ?_ }
  · have := hR.cnt.lt hi; have := hvb j hj; omega
  · obtain ⟨_, _, b, _⟩ := hR.box
    have := row_lt b; omega
theorem pEqC (b : Nat) : evEq Try.prog 59 (.ptr b 0) .pnil = some false := by kernel_rfl
end
end Go.Sv.Try
namespace Go.Sv
set_option linter.unusedVariables false
theorem good_at {n me : Nat} {known : List Bts} : ∀ {L : List Act} {s : Led} {j : Nat} {a : Act}, Led.good n me known s L → L[j]? = some a → ((L.take j).foldl (Led.after me) s).ok n me known a
  | [], s, j, a, h, q => by simp at q
  | b :: L, s, 0, a, h, q => by simp at q; subst q; exact h.1
  | b :: L, s, j + 1, a, h, q => by
    simp only [List.take_succ_cons, List.foldl_cons]
    exact good_at h.2 (by simpa using q)
theorem fold_snoc {me : Nat} {L : List Act} {s : Led} {j : Nat} {a : Act} (h : L[j]? = some a) : (L.take (j + 1)).foldl (Led.after me) s = ((L.take j).foldl (Led.after me) s).after me a := by
  rw [take_snoc h, List.foldl_append]; rfl
theorem setV_ne {v : Vt} {a b c : Nat} {id : Bts} {x y z : Nat} (h : x ≠ a ∨ y ≠ b) : setV v a b c id x y z = v x y z := by
  unfold setV; rw [if_neg (by omega)]
theorem putV_set {n : Nat} {v : Vt} {R K : Int} {me : Nat} {id : Bts} (h : putC n v R K me id = 0) : putV n v R K me id = setV v R.toNat K.toNat me id := by
  unfold putV; rw [if_pos h]; rfl
theorem putC_right {n : Nat} {v : Vt} {R K w : Int} {id : Bts} (h : putC n v R K w id = 0) : right n R K w ∧ id ≠ z32 ∧ v R.toNat K.toNat w.toNat = z32 := by
  unfold putC at h
  split at h
  · simp at h
  · rename_i q
    split at h
    · simp at h
    · rename_i q2
      exact ⟨Decidable.not_not.1 fun z => q (.inl z), fun z => q (.inr z), Decidable.not_not.1 q2⟩
theorem ok_vote {n me : Nat} {known : List Bts} {s : Led} {a : Act} (h : s.ok n me known a) (k : a.kind = 2) : putC n s.v a.round a.num me a.id = 0 ∧ (a.id = n32 ∨ (a.num = 1 ∧ sureN n s.v a.round 0 = some a.id) ∨ (a.num = 0 ∧ s.lk.1 ≤ a.round ∧ (s.lk.1 = 0 ∨ s.lk.2 = a.id ∨ ∃ k : Int, s.lk.1 - 1 ≤ k ∧ k < a.round ∧ 0 ≤ k ∧ sureN n s.v k 0 = some a.id))) := by
  cases h with
  | send R val id _ _ _ _ => exact absurd k (by show ¬ ((1 : Int) = 2); omega)
  | tim R K _ _ _ _ _ _ => exact absurd k (by show ¬ ((3 : Int) = 2); omega)
  | done R id _ _ _ => exact absurd k (by show ¬ ((4 : Int) = 2); omega)
  | vote R K id hd c1 c2 c3 => exact ⟨c1, c3⟩
theorem after_kind2 {me : Nat} {s : Led} {a : Act} (k : a.kind = 2) : s.after me a = { s with v := setV s.v a.round.toNat a.num.toNat me a.id, top := a.round, lk := if a.num = 1 ∧ a.id ≠ n32 then (a.round + 1, a.id) else s.lk } := by
  unfold Led.after; rw [if_neg (by omega), if_pos k]
theorem after_other {me : Nat} {s : Led} {a : Act} (k : a.kind ≠ 2) : (s.after me a).v = s.v ∧ (s.after me a).lk = s.lk := by
  unfold Led.after
  split
  · exact ⟨rfl, rfl⟩
  split <;> exact ⟨rfl, rfl⟩
end Go.Sv
namespace Go.Sv.Try
open Go Go.Proofs
set_option linter.unusedVariables false
set_option linter.unusedSimpArgs false
section
variable {A B C : AS} {rp cp : Nat} {r r' : Rd} {vb : Nat → Nat} {fk : Option Nat} {cp2 n : Nat} {vb2 : Nat → Nat} {v2 : Vt}
set_option maxRecDepth 10000 in
set_option maxHeartbeats 32000000 in
theorem roundLocks_spec {m : Hp} {A : AS} {v : V} {l : List InP} (hw : WF A) (hm : m.on A) (h : Slc eIn m v l) {n me ht : Int} (h1 : IntIn .i64 n) (h3 : IntIn .i64 ht) : ∃ w A', EvF Try.prog HH 6 [.agg [.int .i64 n, .int .i64 me, .int .i64 ht], v] A w A' ∧ w = .bool true := by
  refine run_fn2 rfl Try.func6 (by unfold Try.f6; rfl) Try.ntmps6 (by unfold Try.f6; rfl) (by simp) ?_
  simp only [RT, Nat.reduceLT, Nat.reduceBEq, Nat.reduceEqDiff, Nat.reduceAdd, Int.reduceEq, Int.reduceLT, Int.reduceLE, Int.reduceGT, Int.reduceGE]
  obtain ⟨A1, e1, f1, r1, n1⟩ := new_var A [.int .i64 n, .int .i64 me, .int .i64 ht]
  rw [← e1]
  refine run_call1 (evF_ground rfl) ?_
  have hlen := fun B => h.len (P := Try.prog) Try.underlying58 B
  have w1 := f1.wf hw
  simp only [RT, Nat.reduceLT, Nat.reduceBEq, Nat.reduceEqDiff, Nat.reduceAdd, Int.reduceEq, Int.reduceLT, Int.reduceLE, Int.reduceGT, Int.reduceGE, ix3, ld3 r1]
  obtain ⟨w, A2, k1, f2, k2⟩ := newR_spec (me := me) w1 h1 h3
  refine run_call1 k1 ?_
  rcases k2 with ⟨er, he, rfl⟩ | ⟨n, me, rp, cp, vb, rfl, rfl, hn, hme, ht0, ht1, rfl, hR, hN, hcpl⟩
  · simp only [RT, Nat.reduceLT, Nat.reduceBEq, Nat.reduceEqDiff, Nat.reduceAdd, Int.reduceEq, Int.reduceLT, Int.reduceLE, Int.reduceGT, Int.reduceGE, decide_eq_true (show ¬ (er = 0) from he)]
  simp only [RT, Nat.reduceLT, Nat.reduceBEq, Nat.reduceEqDiff, Nat.reduceAdd, Int.reduceEq, Int.reduceLT, Int.reduceLE, Int.reduceGT, Int.reduceGE, pEqR, hlen]
  refine condK_of (fun g => ?_) (fun g => ?_)
  · simp only [RT, Nat.reduceLT, Nat.reduceBEq, Nat.reduceEqDiff, Nat.reduceAdd, Int.reduceEq, Int.reduceLT, Int.reduceLE, Int.reduceGT, Int.reduceGE]
  simp only [RT, Nat.reduceLT, Nat.reduceBEq, Nat.reduceEqDiff, Nat.reduceAdd, Int.reduceEq, Int.reduceLT, Int.reduceLE, Int.reduceGT, Int.reduceGE, ix3, ld3 (f2.row0 r1)]
  obtain ⟨w, A3, k3, f3, k4⟩ := cntNew_spec (f2.wf w1) h1.1 h1.2
  refine run_call1 k3 ?_
  rcases k4 with ⟨q, rfl⟩ | ⟨n', cp2, vb2, qn, hn', rfl, hC, hcp2, hvb2⟩
  · exact absurd hn (fun z => flts_bad q (by unfold okN at z; omega))
  obtain rfl : n' = n := by omega
  simp only [RT, Nat.reduceLT, Nat.reduceBEq, Nat.reduceEqDiff, Nat.reduceAdd, Int.reduceEq, Int.reduceLT, Int.reduceLE, Int.reduceGT, Int.reduceGE, pEqC, bldZ, zcI]
  obtain ⟨A4, t1, t2, t3⟩ := newId (A := A3) z32_len
  have hJ3 := J2.new f2 hR hN f3 hC hcp2 hvb2
  have hJ4 := hJ3.s0 t2
  obtain ⟨bL, hbL⟩ : ∃ b, b = A3.blk.length := ⟨_, rfl⟩
  obtain ⟨b0, hb0⟩ : ∃ b, b = A.blk.length := ⟨_, rfl⟩
  have r4 := t2.row0 (f3.row0 (f2.row0 r1))
  have hrpl : rp < A3.blk.length := by obtain ⟨_, _, b, _⟩ := hJ3.rd.box; exact row_lt b
  have hcpl3 : cp < A3.blk.length := row_lt hJ3.rd.cnt.box
  have hcp2l : cp2 < A3.blk.length := row_lt hC.box
  have hb0r : b0 ≠ rp := by have := hN.1; have := f1.len; omega
  rw [← hbL] at t1 t3 ⊢
  rw [← hb0] at r4 ⊢
  simp only [RT, Nat.reduceLT, Nat.reduceBEq, Nat.reduceEqDiff, Nat.reduceAdd, Int.reduceEq, Int.reduceLT, Int.reduceLE, Int.reduceGT, Int.reduceGE, t1, hlen]
  refine run_loop_j (fun z e B => ∃ (i : Nat) (r : Rd) (s : Led) (fk : Option Nat), z = l.length - i ∧ i ≤ l.length ∧ e.get 55 = .int .i64 i ∧ e.get 5 = .ptr rp 0 ∧ e.get 7 = .ptr cp2 0 ∧ e.get 9 = .int .i64 (s.lk.1 - 1) ∧ e.get 10 = .ptr bL 0 ∧ e.get 2 = .ptr b0 0 ∧ e.get 53 = v ∧ e.get 54 = .int .i64 l.length ∧ J2 A1 B rp cp vb r fk cp2 n' vb2 s.v ∧ B.blk[b0]? = some ⟨[.int .i64 n', .int .i64 me, .int .i64 ht], .var⟩ ∧ B.blk[bL]? = some ⟨bc s.lk.2, .var⟩ ∧ s.lk.2.length = 32 ∧ Rng r ∧ r.acts = [] ∧ Mt s r ∧ r.n = n' ∧ r.me = me)
    (fun z e B => Is z (.exit 0))
    ⟨_, 0, rd0 n' me ht, led0, none, rfl, by omega, rfl, rfl, rfl, rfl, rfl, rfl, rfl, rfl, hJ4, r4, t3, z32_len, rng0 hme ht0 ht1, rfl, mt0 hn hme, rfl, rfl⟩ ?_ ?_
  rotate_left
  · rintro z e B hz rfl
    simp only [RT, Nat.reduceLT, Nat.reduceBEq, Nat.reduceEqDiff, Nat.reduceAdd, Int.reduceEq, Int.reduceLT, Int.reduceLE, Int.reduceGT, Int.reduceGE]
  rintro z e B ⟨i, r, s, fk, rfl, hi, h55, h5, h7, h9, h10, h2, h53, h54, hJ, q0, qL, hLl, hr, ha, hM, hrn, hrm⟩
  simp only [RT, Nat.reduceLT, Nat.reduceBEq, Nat.reduceEqDiff, Nat.reduceAdd, Int.reduceEq, Int.reduceLT, Int.reduceLE, Int.reduceGT, Int.reduceGE, h54, h55]
  refine condK_of (fun g => ?_) (fun g => ?_)
  rotate_left
  · simp only [RT, Nat.reduceLT, Nat.reduceBEq, Nat.reduceEqDiff, Nat.reduceAdd, Int.reduceEq, Int.reduceLT, Int.reduceLE, Int.reduceGT, Int.reduceGE]
    rfl
  obtain ⟨x, hx⟩ := get_lt (l := l) (i := i) (by omega)
  obtain ⟨b, o, c, g3, g4, g5⟩ := h.at (P := Try.prog) (k := .i64) (hm.fr0 (f1.then0 hJ.fr)) Try.underlying58 sz65 ag65 hx
  obtain ⟨rfl, hid⟩ := eIn_W g5
  obtain ⟨C, t1, t2, t3⟩ := newIn (A := B) hid
  have hrpB : rp < B.blk.length := by obtain ⟨_, _, b, _⟩ := hJ.rd.box; exact row_lt b
  have hIr : B.blk.length ≠ rp := by omega
  have fI := faIn B.blk.length
  have la := ldIn t3 hid
  have hJC := hJ.s0 t2
  have q0C := t2.row0 q0
  have qLC := t2.row0 qL
  have hst : ∀ (B' : AS), l.length - (i + 1) < l.length - i := fun _ => by omega
  simp only [RT, Nat.reduceLT, Nat.reduceBEq, Nat.reduceEqDiff, Nat.reduceAdd, Int.reduceEq, Int.reduceLT, Int.reduceLE, Int.reduceGT, Int.reduceGE, h53, h55, g3, g4, zcIn, t1, fI, la]
  by_cases q6 : (toIn x).kind = 6
  · simp only [RT, Nat.reduceLT, Nat.reduceBEq, Nat.reduceEqDiff, Nat.reduceAdd, Int.reduceEq, Int.reduceLT, Int.reduceLE, Int.reduceGT, Int.reduceGE, decide_eq_true q6, h55]
    refine ⟨l.length - (i + 1), by omega, i + 1, r, s, fk, rfl, by omega, by rw [wrapS (by omega)], ?_⟩
    and_intros <;> assumption
  by_cases q7 : (toIn x).kind = 7
  · simp only [RT, Nat.reduceLT, Nat.reduceBEq, Nat.reduceEqDiff, Nat.reduceAdd, Int.reduceEq, Int.reduceLT, Int.reduceLE, Int.reduceGT, Int.reduceGE, decide_eq_false q6, decide_eq_true q7, h55, fI, la]
    refine ⟨l.length - (i + 1), by omega, i + 1, r, s, fk, rfl, by omega, by rw [wrapS (by omega)], ?_⟩
    and_intros <;> assumption
  simp only [RT, Nat.reduceLT, Nat.reduceBEq, Nat.reduceEqDiff, Nat.reduceAdd, Int.reduceEq, Int.reduceLT, Int.reduceLE, Int.reduceGT, Int.reduceGE, decide_eq_false q6, decide_eq_false q7, fI, la]
  have three : ((toIn x).kind = 3 ∧ (toIn x).who ≠ me) ∨ ((toIn x).kind = 3 ∧ (toIn x).who = me) ∨ (toIn x).kind ≠ 3 := by
    by_cases q : (toIn x).kind = 3
    · by_cases w : (toIn x).who = me
      · exact .inr (.inl ⟨q, w⟩)
      · exact .inl ⟨q, w⟩
    · exact .inr (.inr q)
  have ixm := (ix3 b0).2.1
  have ldm := (ld3 q0C).2.1
  rcases three with ⟨y1, y2⟩ | ⟨y1, y2⟩ | y1
  obtain ⟨_, C', p1, p2, rfl, p3⟩ := put_spec (hJC.fr.wf w1) hJC.c2 (toIn x).round (toIn x).num (toIn x).who hid
  simp only [RT, Nat.reduceLT, Nat.reduceBEq, Nat.reduceEqDiff, Nat.reduceAdd, Int.reduceEq, Int.reduceLT, Int.reduceLE, Int.reduceGT, Int.reduceGE, decide_eq_true y1, fI, la, h2, ixm, ldm, decide_eq_true (show ¬ ((toIn x).who = (me : Int)) from y2), h7]
  refine run_call1 p1 ?_
  have hg : giveV r.n r.me s.v (toIn x) = putV n' s.v (toIn x).round (toIn x).num (toIn x).who (toIn x).id := by unfold giveV; rw [if_pos ⟨y1, by rw [hrm]; exact y2⟩, hrn]
  have hJ' := hJC.put p2 p3
  rw [← hg] at hJ'
  have nv : ∀ {b : Nat} {cs : List V}, C.blk[b]? = some ⟨cs, .var⟩ → C'.blk[b]? = some ⟨cs, .var⟩ := fun hb => p2.row _ _ hb (by rintro ⟨j, hj, q⟩; injection q with q; exact hJC.c2.nevar hj hb q.symm)
  have t3' := nv t3
  have q0' := nv q0C
  have qL' := nv qLC
  rotate_left
  simp only [RT, Nat.reduceLT, Nat.reduceBEq, Nat.reduceEqDiff, Nat.reduceAdd, Int.reduceEq, Int.reduceLT, Int.reduceLE, Int.reduceGT, Int.reduceGE, decide_eq_true y1, fI, la, h2, ixm, ldm, decide_eq_false (show ¬ ¬ ((toIn x).who = (me : Int)) from fun z => z y2)]
  have hg : giveV r.n r.me s.v (toIn x) = s.v := by unfold giveV; rw [if_neg (fun z => z.2 (by rw [hrm]; exact y2))]
  have hJ' := hJC
  rw [← hg] at hJ'
  have t3' := t3
  have q0' := q0C
  have qL' := qLC
  rotate_left
  simp only [RT, Nat.reduceLT, Nat.reduceBEq, Nat.reduceEqDiff, Nat.reduceAdd, Int.reduceEq, Int.reduceLT, Int.reduceLE, Int.reduceGT, Int.reduceGE, decide_eq_false y1]
  have hg : giveV r.n r.me s.v (toIn x) = s.v := by unfold giveV; rw [if_neg (fun z => y1 z.1)]
  have hJ' := hJC
  rw [← hg] at hJ'
  have t3' := t3
  have q0' := q0C
  have qL' := qLC
  rotate_left
  all_goals
    have laJ := ldIn t3' hid
    obtain ⟨w, D, m1, m2⟩ := give1_spec (hJ'.fr.wf w1) hJ'.rd hr ha hid
    simp only [RT, Nat.reduceLT, Nat.reduceBEq, Nat.reduceEqDiff, Nat.reduceAdd, Int.reduceEq, Int.reduceLT, Int.reduceLE, Int.reduceGT, Int.reduceGE, h5, laJ]
    refine run_call1 m1 ?_
    obtain ⟨fk', fo, hJ2, m4, hfo, hkv, _⟩ := hJ'.give w1 m2
    obtain ⟨s1, u1, _, _, u4, _, u6, u7, u8⟩ := give_ok hM ha q6
    rw [← u1] at hJ2
    obtain ⟨v1, v2⟩ := hr.give ha (toIn x)
    obtain ⟨L, hL⟩ : ∃ L, L = (r.give (toIn x)).2 := ⟨_, rfl⟩
    have hLn : L.length ≤ 2001 := by rw [hL]; exact give_len hr ha _
    have mt2 := u7.mt
    have gd := u7.good
    have kp := u7.kp
    rw [← hL] at m4 mt2 gd
    have gd : Led.good n' me (giveK r (toIn x)) s1 L := by rw [← hrn, ← hrm]; exact gd
    have mt2 : Mt (L.foldl (Led.after me) s1) (r.give (toIn x)).1 := by rw [← hrm]; exact mt2
    have hrn2 : (r.give (toIn x)).1.n = n' := kp.n.trans hrn
    have hrm2 : (r.give (toIn x)).1.me = me := kp.me.trans hrm
    have q0D := hkv _ _ q0' hb0r
    have qLD := hkv _ _ qL' (by omega)
    have hln := fun B => m4.len (P := Try.prog) Try.underlying35 B
    simp only [RT, Nat.reduceLT, Nat.reduceBEq, Nat.reduceEqDiff, Nat.reduceAdd, Int.reduceEq, Int.reduceLT, Int.reduceLE, Int.reduceGT, Int.reduceGE, hln]
    refine run_loop_j (fun z e B => ∃ (j : Nat) (s2 : Led), z = L.length - j ∧ j ≤ L.length ∧ s2 = (L.take j).foldl (Led.after me) s1 ∧ e.get 91 = .int .i64 j ∧ e.get 9 = .int .i64 (s2.lk.1 - 1) ∧ J2 A1 B rp cp vb (r.give (toIn x)).1 fk' cp2 n' vb2 s2.v ∧ Lst eAct Hp.emp B w L fo ∧ B.blk[b0]? = some ⟨[.int .i64 n', .int .i64 me, .int .i64 ht], .var⟩ ∧ B.blk[bL]? = some ⟨bc s2.lk.2, .var⟩ ∧ s2.lk.2.length = 32 ∧ e.get 5 = .ptr rp 0 ∧ e.get 7 = .ptr cp2 0 ∧ e.get 10 = .ptr bL 0 ∧ e.get 2 = .ptr b0 0 ∧ e.get 53 = v ∧ e.get 54 = .int .i64 l.length ∧ e.get 55 = .int .i64 i ∧ e.get 89 = w ∧ e.get 90 = .int .i64 L.length)
      (fun z e B => Is z (.exit 2) ∧ ∃ s2, s2 = L.foldl (Led.after me) s1 ∧ e.get 9 = .int .i64 (s2.lk.1 - 1) ∧ J2 A1 B rp cp vb (r.give (toIn x)).1 fk' cp2 n' vb2 s2.v ∧ B.blk[b0]? = some ⟨[.int .i64 n', .int .i64 me, .int .i64 ht], .var⟩ ∧ B.blk[bL]? = some ⟨bc s2.lk.2, .var⟩ ∧ s2.lk.2.length = 32 ∧ e.get 5 = .ptr rp 0 ∧ e.get 7 = .ptr cp2 0 ∧ e.get 10 = .ptr bL 0 ∧ e.get 2 = .ptr b0 0 ∧ e.get 53 = v ∧ e.get 54 = .int .i64 l.length ∧ e.get 55 = .int .i64 i)
      ⟨_, 0, s1, rfl, by omega, rfl, rfl, (by rw [u4]; exact h9), hJ2, m4, q0D, (by rw [u4]; exact qLD), (by rw [u4]; exact hLl), h5, h7, h10, h2, h53, h54, h55, rfl, rfl⟩ ?_ ?_
    rotate_left
    · rintro z e B hz ⟨rfl, s2, hs2, h9, hJ, q0, qL, hl2, h5, h7, h10, h2, h53, h54, h55⟩
      simp only [RT, Nat.reduceLT, Nat.reduceBEq, Nat.reduceEqDiff, Nat.reduceAdd, Int.reduceEq, Int.reduceLT, Int.reduceLE, Int.reduceGT, Int.reduceGE, h55]
      rw [← hs2] at mt2
      refine ⟨l.length - (i + 1), by omega, i + 1, (r.give (toIn x)).1, s2, fk', rfl, by omega, by rw [wrapS (by omega)], ?_⟩
      and_intros <;> assumption
    rintro z e B ⟨j, s2, rfl, hj, hs2, h91, h9, hJ, hLs, q0, qL, hl2, h5, h7, h10, h2, h53, h54, h55, h89, h90⟩
    simp only [RT, Nat.reduceLT, Nat.reduceBEq, Nat.reduceEqDiff, Nat.reduceAdd, Int.reduceEq, Int.reduceLT, Int.reduceLE, Int.reduceGT, Int.reduceGE, h90, h91]
    refine condK_of (fun g => ?_) (fun g => ?_)
    rotate_left
    · have : j = L.length := by omega
      subst this; rw [List.take_length] at hs2
      simp only [RT, Nat.reduceLT, Nat.reduceBEq, Nat.reduceEqDiff, Nat.reduceAdd, Int.reduceEq, Int.reduceLT, Int.reduceLE, Int.reduceGT, Int.reduceGE]
      refine ⟨rfl, s2, hs2, ?_⟩
      and_intros <;> assumption
    obtain ⟨a, hax⟩ := get_lt (l := L) (i := j) (by omega)
    obtain ⟨b2, o2, c2, g3, g4, g5⟩ := hLs.at (P := Try.prog) (k := .i64) (Hp.on_emp B) Try.underlying35 sz42 ag42 hax
    obtain ⟨rfl, hal⟩ := eAct_W.1 g5
    obtain ⟨E, e1, e2, e3⟩ := newAc (A := B) hal
    have fA := faAc0 B.blk.length
    have la2 := ldA0 e3 hal
    have hok := good_at gd hax
    rw [← hs2] at hok
    have hnx : s2.after me a = (L.take (j + 1)).foldl (Led.after me) s1 := by rw [fold_snoc hax, ← hs2]
    simp only [RT, Nat.reduceLT, Nat.reduceBEq, Nat.reduceEqDiff, Nat.reduceAdd, Int.reduceEq, Int.reduceLT, Int.reduceLE, Int.reduceGT, Int.reduceGE, h89, h91, g3, g4, zcA, e1, fA, la2]
    by_cases ka : a.kind = 2
    rotate_left
    · obtain ⟨nv, nl⟩ := after_other (me := me) (s := s2) ka
      simp only [RT, Nat.reduceLT, Nat.reduceBEq, Nat.reduceEqDiff, Nat.reduceAdd, Int.reduceEq, Int.reduceLT, Int.reduceLE, Int.reduceGT, Int.reduceGE, decide_eq_true (show ¬ (a.kind = 2) from ka), h91]
      refine ⟨L.length - (j + 1), by omega, j + 1, s2.after me a, rfl, by omega, hnx, by rw [wrapS (by omega)], ?_⟩
      rw [nv, nl]
      and_intros <;> first | assumption | exact hJ.s0 e2 | exact hLs.fr0 e2 | exact e2.row0 q0 | exact e2.row0 qL
    obtain ⟨c1, c3⟩ := ok_vote hok ka
    have ea := after_kind2 (me := me) (s := s2) ka
    have cR := putC_right c1
    have hJE := hJ.s0 e2
    obtain ⟨_, F, p1, p2, rfl, p3⟩ := put_spec (hJE.fr.wf w1) hJE.c2 a.round a.num me hal
    rw [putV_set c1] at p3
    have hJF := hJE.put p2 p3
    have nvF : ∀ {b : Nat} {cs : List V}, E.blk[b]? = some ⟨cs, .var⟩ → F.blk[b]? = some ⟨cs, .var⟩ := fun hb => p2.row _ _ hb (by rintro ⟨j, hj, q⟩; injection q with q; exact hJE.c2.nevar hj hb q.symm)
    have hLF := (hLs.fr0 e2).fr p2 (offVb' hJE.c2 hfo)
    obtain ⟨_, G, n1, rfl, n2⟩ := nil_spec (A := F)
    have la3 := ldA0 (nvF e3) hal
    have la4 := ldA0 (n2.row0 (nvF e3)) hal
    have q0G := n2.row0 (nvF (e2.row0 q0))
    have qLG := n2.row0 (nvF (e2.row0 qL))
    have hJG := hJF.s0 n2
    have hLG := hLF.fr0 n2
    have ixm := (ix3 b0).2.1
    have ldm := (ld3 (e2.row0 q0)).2.1
    simp only [RT, Nat.reduceLT, Nat.reduceBEq, Nat.reduceEqDiff, Nat.reduceAdd, Int.reduceEq, Int.reduceLT, Int.reduceLE, Int.reduceGT, Int.reduceGE, decide_eq_false (show ¬ ¬ (a.kind = 2) from fun z => z ka), h7, h2, fA, la2, ixm, ldm]
    refine run_call1 p1 ?_
    simp only [RT, Nat.reduceLT, Nat.reduceBEq, Nat.reduceEqDiff, Nat.reduceAdd, Int.reduceEq, Int.reduceLT, Int.reduceLE, Int.reduceGT, Int.reduceGE, pl_6_21, fA, la3, rc_nil]
    refine run_call1 n1 ?_
    by_cases qn : a.id = n32
    · simp only [RT, Nat.reduceLT, Nat.reduceBEq, Nat.reduceEqDiff, Nat.reduceAdd, Int.reduceEq, Int.reduceLT, Int.reduceLE, Int.reduceGT, Int.reduceGE, rc_nil, eqZ hal n32_len, decide_eq_true qn]
      refine ⟨rc_load (ha := rfl) rfl la4.2.2.2.2 rfl rc_nil, ?_⟩
      simp only [RT, Nat.reduceLT, Nat.reduceBEq, Nat.reduceEqDiff, Nat.reduceAdd, Int.reduceEq, Int.reduceLT, Int.reduceLE, Int.reduceGT, Int.reduceGE, h91]
      refine ⟨L.length - (j + 1), by omega, j + 1, s2.after me a, rfl, by omega, hnx, by rw [wrapS (by omega)], ?_⟩
      rw [ea, if_neg (fun z => z.2 qn)]
      and_intros <;> assumption
    simp only [RT, Nat.reduceLT, Nat.reduceBEq, Nat.reduceEqDiff, Nat.reduceAdd, Int.reduceEq, Int.reduceLT, Int.reduceLE, Int.reduceGT, Int.reduceGE, rc_nil, eqZ hal n32_len, decide_eq_false qn]
    refine ⟨rc_load (ha := rfl) rfl la4.2.2.2.2 rfl rc_nil, ?_⟩
    by_cases k1 : a.num = 1
    · have hsn : sureN n' s2.v a.round 0 = some a.id := by
        rcases c3 with c3 | c3 | c3
        · exact absurd c3 qn
        · exact c3.2
        · have := c3.1; omega
      have hsi : sureI n' (setV s2.v a.round.toNat a.num.toNat me a.id) a.round 0 = some a.id := by
        rw [← sureN_I hsn]
        exact sureI_congr fun w => setV_ne (.inr (by rw [k1]; decide))
      obtain ⟨_, H, x1, x2, rfl⟩ := sureC_spec (r := a.round) (k := 0) (hJG.fr.wf w1) hJG.c2
      rw [hsi] at x1
      have x1 : EvF Try.prog HH 25 [.ptr cp2 0, .int .i64 a.round, .int .i64 0] G (.tup [.agg (bc a.id), .bool true]) H := x1
      obtain ⟨I, y1, y2, y3⟩ := newId (A := H) hal
      have la5 := ldA0 (y2.row0 (x2.row0 (n2.row0 (nvF e3)))) hal
      simp only [RT, Nat.reduceLT, Nat.reduceBEq, Nat.reduceEqDiff, Nat.reduceAdd, Int.reduceEq, Int.reduceLT, Int.reduceLE, Int.reduceGT, Int.reduceGE, decide_eq_true k1, fA, la4, h7]
      refine run_call1 x1 ?_
      obtain ⟨J, z1, z2, z3⟩ := setId (y2.row0 (x2.row0 qLG)) hl2 hal
      simp only [RT, Nat.reduceLT, Nat.reduceBEq, Nat.reduceEqDiff, Nat.reduceAdd, Int.reduceEq, Int.reduceLT, Int.reduceLE, Int.reduceGT, Int.reduceGE, zcI, y1, ldId y3 hal, fA, la5, eqZ hal hal, decide_eq_false (show ¬ ¬ (a.id = a.id) from fun z => z rfl)]
      rw [pl_6_26, run_plan_id (by rfl)]
      simp only [RT, Nat.reduceLT, Nat.reduceBEq, Nat.reduceEqDiff, Nat.reduceAdd, Int.reduceEq, Int.reduceLT, Int.reduceLE, Int.reduceGT, Int.reduceGE, fA, la5, h10, z1, h91]
      have bL1 := y2.row0 (x2.row0 qLG)
      refine ⟨L.length - (j + 1), by omega, j + 1, s2.after me a, rfl, by omega, hnx, by rw [wrapS (by omega)], ?_⟩
      rw [ea, if_pos ⟨k1, qn⟩]
      have hb0L : b0 ≠ bL := by have := f1.len; have := f2.len; have := f3.len; omega
      have lJ := ((hJG.s0 x2).s0 y2).var bL1 (by omega) (by omega) (by omega) (by have := f2.len; have := f3.len; omega) z2
      have lL := ((hLG.fr0 x2).fr0 y2).fr z2 (.box bL1)
      have lq := z2.rowNe (y2.row0 (x2.row0 q0G)) hb0L
      and_intros <;> first | assumption | (show V.int IntKind.i64 a.round = V.int IntKind.i64 (a.round + 1 - 1); rw [Int.add_sub_cancel])
    have k0 : a.num = 0 := by rcases cR.1.2.2.1 with q | q; exact q; exact absurd q k1
    obtain ⟨c4, c5⟩ : s2.lk.1 ≤ a.round ∧ (s2.lk.1 = 0 ∨ s2.lk.2 = a.id ∨ ∃ k : Int, s2.lk.1 - 1 ≤ k ∧ k < a.round ∧ 0 ≤ k ∧ sureN n' s2.v k 0 = some a.id) := by
      rcases c3 with c3 | c3 | c3
      · exact absurd c3 qn
      · exact absurd c3.1 k1
      · exact c3.2
    obtain ⟨M, hM0⟩ : ∃ M : Int, M = if (0 : Int) > s2.lk.1 - 1 then 0 else s2.lk.1 - 1 := ⟨_, rfl⟩
    have hmm : evMM (fun x y => if y > x then y else x) [.int .i64 (s2.lk.1 - 1), .int .i64 0] = some (.int .i64 M) := by rw [hM0]; rfl
    have hR12 : a.round < 12 := cR.1.2.1
    have hR0 : 0 ≤ a.round := cR.1.1
    obtain ⟨fine, hfine⟩ : ∃ b : Bool, b = (decide (s2.lk.1 - 1 < 0) || decide (s2.lk.2 = a.id)) := ⟨_, rfl⟩
    have hM1 : 0 ≤ M ∧ M ≤ a.round := by rw [hM0]; split <;> omega
    have hfin : fine = true ∨ ∃ k' : Int, M ≤ k' ∧ k' < a.round ∧ sureI n' (setV s2.v a.round.toNat a.num.toNat me a.id) k' 0 = some a.id := by
      rcases c5 with c5 | c5 | ⟨k', d1, d2, d3, d4⟩
      · left; rw [hfine, decide_eq_true (show s2.lk.1 - 1 < 0 by omega)]; rfl
      · left; rw [hfine, decide_eq_true c5, Bool.or_true]
      · right
        refine ⟨k', by rw [hM0]; split <;> omega, d2, ?_⟩
        rw [← sureN_I d4]
        exact sureI_congr fun w => setV_ne (.inl (by omega))
    have two : (s2.lk.1 - 1 < 0) ∨ ¬ (s2.lk.1 - 1 < 0) := Decidable.em _
    rcases two with q9 | q9
    have hf1 : fine = true := by rw [hfine, decide_eq_true q9]; rfl
    simp only [RT, Nat.reduceLT, Nat.reduceBEq, Nat.reduceEqDiff, Nat.reduceAdd, Int.reduceEq, Int.reduceLT, Int.reduceLE, Int.reduceGT, Int.reduceGE, decide_eq_false k1, fA, la4, h9, decide_eq_true q9, hmm]
    rotate_left
    have hf2 : fine = decide (s2.lk.2 = a.id) := by rw [hfine, decide_eq_false q9]; rfl
    simp only [RT, Nat.reduceLT, Nat.reduceBEq, Nat.reduceEqDiff, Nat.reduceAdd, Int.reduceEq, Int.reduceLT, Int.reduceLE, Int.reduceGT, Int.reduceGE, decide_eq_false k1, fA, la4, h9, decide_eq_false q9, h10, ldId qLG hl2, eqZ hl2 hal, hmm]
    rotate_left
    all_goals
      refine run_loop_j (fun z e B' => ∃ (k : Int) (fine : Bool), z = (a.round - k).toNat ∧ 0 ≤ k ∧ k ≤ a.round ∧ e.get 18 = .int .i64 k ∧ e.get 17 = .bool fine ∧ (fine = true ∨ ∃ k' : Int, k ≤ k' ∧ k' < a.round ∧ sureI n' (setV s2.v a.round.toNat a.num.toNat me a.id) k' 0 = some a.id) ∧ Fr S0 G B' ∧ e.get 14 = .ptr B.blk.length 0 ∧ e.get 9 = .int .i64 (s2.lk.1 - 1) ∧ e.get 5 = .ptr rp 0 ∧ e.get 7 = .ptr cp2 0 ∧ e.get 10 = .ptr bL 0 ∧ e.get 2 = .ptr b0 0 ∧ e.get 53 = v ∧ e.get 54 = .int .i64 l.length ∧ e.get 55 = .int .i64 i ∧ e.get 89 = w ∧ e.get 90 = .int .i64 L.length ∧ e.get 91 = .int .i64 j)
        (fun z e B' => Is z (.exit 4) ∧ e.get 17 = .bool true ∧ Fr S0 G B' ∧ e.get 9 = .int .i64 (s2.lk.1 - 1) ∧ e.get 5 = .ptr rp 0 ∧ e.get 7 = .ptr cp2 0 ∧ e.get 10 = .ptr bL 0 ∧ e.get 2 = .ptr b0 0 ∧ e.get 53 = v ∧ e.get 54 = .int .i64 l.length ∧ e.get 55 = .int .i64 i ∧ e.get 89 = w ∧ e.get 90 = .int .i64 L.length ∧ e.get 91 = .int .i64 j)
        ⟨_, M, fine, rfl, hM1.1, hM1.2, rfl, (by first | exact congrArg V.bool hf1.symm | exact congrArg V.bool hf2.symm), hfin, .refl _ _, rfl, h9, h5, h7, h10, h2, h53, h54, h55, h89, h90, h91⟩ ?_ ?_
      rotate_left
      · rintro z e B' hz ⟨rfl, h17, hG, h9, h5, h7, h10, h2, h53, h54, h55, h89, h90, h91⟩
        simp only [RT, Nat.reduceLT, Nat.reduceBEq, Nat.reduceEqDiff, Nat.reduceAdd, Int.reduceEq, Int.reduceLT, Int.reduceLE, Int.reduceGT, Int.reduceGE, h17, h91]
        refine ⟨L.length - (j + 1), by omega, j + 1, s2.after me a, rfl, by omega, hnx, by rw [wrapS (by omega)], ?_⟩
        rw [ea, if_neg (fun z => k1 z.1)]
        have lJ := hJG.s0 hG
        have lL := hLG.fr0 hG
        have lq := hG.row0 q0G
        have lq2 := hG.row0 qLG
        and_intros <;> assumption
      rintro z e B' ⟨k, fine, rfl, hk0, hkR, h18, h17, hfin, hG, h14, h9, h5, h7, h10, h2, h53, h54, h55, h89, h90, h91⟩
      have laB := ldA0 (hG.row0 (n2.row0 (nvF e3))) hal
      by_cases qk : k < a.round
      rotate_left
      · have hft : fine = true := by
          rcases hfin with q | ⟨k', d1, d2, _⟩
          · exact q
          · omega
        rw [hft] at h17
        simp only [RT, Nat.reduceLT, Nat.reduceBEq, Nat.reduceEqDiff, Nat.reduceAdd, Int.reduceEq, Int.reduceLT, Int.reduceLE, Int.reduceGT, Int.reduceGE, h18, h14, fA, laB, decide_eq_false qk]
        and_intros <;> first | rfl | assumption
      cases fine with
      | true =>
        simp only [RT, Nat.reduceLT, Nat.reduceBEq, Nat.reduceEqDiff, Nat.reduceAdd, Int.reduceEq, Int.reduceLT, Int.reduceLE, Int.reduceGT, Int.reduceGE, h18, h14, fA, laB, decide_eq_true qk, h17]
        and_intros <;> first | rfl | assumption
      | false =>
        obtain ⟨k', d1, d2, d3⟩ : ∃ k' : Int, k ≤ k' ∧ k' < a.round ∧ sureI n' (setV s2.v a.round.toNat a.num.toNat me a.id) k' 0 = some a.id := by
          rcases hfin with q | q
          · cases q
          · exact q
        have hJB := hJG.s0 hG
        obtain ⟨_, H, x1, x2, rfl⟩ := sureC_spec (r := k) (k := 0) (hJB.fr.wf w1) hJB.c2
        simp only [RT, Nat.reduceLT, Nat.reduceBEq, Nat.reduceEqDiff, Nat.reduceAdd, Int.reduceEq, Int.reduceLT, Int.reduceLE, Int.reduceGT, Int.reduceGE, h18, h14, fA, laB, decide_eq_true qk, h17, h7]
        refine run_call1 x1 ?_
        cases hs : sureI n' (setV s2.v a.round.toNat a.num.toNat me a.id) k 0 with
        | none =>
          obtain ⟨I, y1, y2, y3⟩ := newId (A := H) z32_len
          have y1 : evStore Try.prog 39 (.ptr H.blk.length 0) (.agg (bc ((none : Option Bts).getD z32))) (H.push ⟨bc z32, .var⟩) = some I := y1
          simp only [RT, Nat.reduceLT, Nat.reduceBEq, Nat.reduceEqDiff, Nat.reduceAdd, Int.reduceEq, Int.reduceLT, Int.reduceLE, Int.reduceGT, Int.reduceGE, zcI, y1, Option.isSome_none, h18, wrapI (show -9223372036854775808 ≤ k + 1 by omega) (show k + 1 ≤ 9223372036854775807 by omega)]
          have hG2 := (hG.then0 x2).then0 y2
          refine ⟨(a.round - (k + 1)).toNat, by omega, k + 1, false, rfl, by omega, by omega, ?_⟩
          have hf3 : (false = true ∨ ∃ k' : Int, k + 1 ≤ k' ∧ k' < a.round ∧ sureI n' (setV s2.v a.round.toNat a.num.toNat me a.id) k' 0 = some a.id) := by
            refine .inr ⟨k', ?_, d2, d3⟩
            by_cases q : k = k'
            · rw [← q, hs] at d3; cases d3
            · omega
          and_intros <;> first | rfl | assumption
        | some y =>
          have hyl := sureI_len hJB.c2 hs
          obtain ⟨I, y1, y2, y3⟩ := newId (A := H) hyl
          have y1 : evStore Try.prog 39 (.ptr H.blk.length 0) (.agg (bc ((some y : Option Bts).getD z32))) (H.push ⟨bc z32, .var⟩) = some I := y1
          have la6 := ldA0 (y2.row0 (x2.row0 (hG.row0 (n2.row0 (nvF e3))))) hal
          simp only [RT, Nat.reduceLT, Nat.reduceBEq, Nat.reduceEqDiff, Nat.reduceAdd, Int.reduceEq, Int.reduceLT, Int.reduceLE, Int.reduceGT, Int.reduceGE, zcI, y1, Option.isSome_some, ldId y3 hyl, h14, fA, la6, eqZ hyl hal, h18, wrapI (show -9223372036854775808 ≤ k + 1 by omega) (show k + 1 ≤ 9223372036854775807 by omega)]
          have hG2 := (hG.then0 x2).then0 y2
          refine ⟨(a.round - (k + 1)).toNat, by omega, k + 1, decide (y = a.id), rfl, by omega, by omega, ?_⟩
          have hf3 : (decide (y = a.id) = true ∨ ∃ k' : Int, k + 1 ≤ k' ∧ k' < a.round ∧ sureI n' (setV s2.v a.round.toNat a.num.toNat me a.id) k' 0 = some a.id) := by
            by_cases q : k = k'
            · left
              rw [← q, hs] at d3
              cases d3
              exact decide_eq_true rfl
            · exact .inr ⟨k', by omega, d2, d3⟩
          and_intros <;> first | rfl | assumption
end
end Go.Sv.Try
