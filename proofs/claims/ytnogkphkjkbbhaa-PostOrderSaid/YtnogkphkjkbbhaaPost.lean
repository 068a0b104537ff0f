/- Mails on their way: what is put, taken, comes twice. -/
import Derived.Test.YtnogkphkjkbbhaaSv4
import Derived.Test.YtnogkphkjkbbhaaLaws
namespace Go.Sv.Try
open Go Go.Proofs
set_option linter.unusedVariables false
set_option linter.unusedSimpArgs false
structure PM where
  fc : Bool
  fn : Int
  tc : Bool
  tn : Int
  b : Bts
def mcl (x : PM) (v : V) : List V := [.bool x.fc, .int .i64 x.fn, .bool x.tc, .int .i64 x.tn, v]
def eMail : Enc PM := ⟨5, true, fun m cs x => ∃ v, cs = mcl x v ∧ Slc eU8 m v x.b, fun ⟨v, h, _⟩ => by rw [h]; rfl, fun h => by simp at h, fun ⟨v, h, q⟩ => by rw [h]; simp only [mcl, List.all_cons, List.all_nil, q.one]; rfl, fun hm ⟨v, h, q⟩ => ⟨v, h, q.mono hm⟩⟩
theorem eMail_W {m : Hp} {w : V} {x : PM} : eMail.W m w x ↔ ∃ v, w = .agg (mcl x v) ∧ Slc eU8 m v x.b := by
  unfold Enc.W; rw [if_pos (by rfl)]
  exact ⟨fun ⟨cs, h, v, h1, h2⟩ => ⟨v, by rw [h, h1], h2⟩, fun ⟨v, h, h2⟩ => ⟨_, h, v, rfl, h2⟩⟩
def pm0 : PM := ⟨false, 0, false, 0, []⟩
def exF (fo : Option Nat) (X : Nat → Prop) (f : Nat) : Prop := fo = some f ∨ X f
def PostIs (X : Nat → Prop) (A : AS) (bp : Nat) (fo : Option Nat) (l : List PM) : Prop := ∃ w, A.blk[bp]? = some ⟨[w], .var⟩ ∧ Lst eMail (qHp (exF fo X) A) A w l fo
def postS (A : AS) (bp : Nat) (fo : Option Nat) : Loc → Prop := fun x => x = .row bp ∨ inFamO A fo x
theorem PostIs.fr {X : Nat → Prop} {A A' : AS} {bp : Nat} {fo : Option Nat} {l : List PM} {S : Loc → Prop} (h : PostIs X A bp fo l) (hf : Fr S A A') (hw : WF A) (hT : Tch X A S) (hO : Off fo A S) (hb : ¬ S (.row bp)) : PostIs X A' bp fo l := by
  obtain ⟨w, h1, h2⟩ := h
  exact ⟨w, hf.row _ _ h1 hb, (h2.fr hf hO).mono (qHp_fr hf (hT.mono fun f q => .inr q) hw fun f q => .inl q)⟩
theorem PostIs.fr0 {X : Nat → Prop} {A A' : AS} {bp : Nat} {fo : Option Nat} {l : List PM} (h : PostIs X A bp fo l) (hf : Fr S0 A A') : PostIs X A' bp fo l := by
  obtain ⟨w, h1, h2⟩ := h
  exact ⟨w, hf.row _ _ h1 fun q => q, (h2.fr0 hf).mono (qHp_fr0 hf)⟩
theorem PostIs.famLt {X : Nat → Prop} {A : AS} {bp : Nat} {fo : Option Nat} {l : List PM} (h : PostIs X A bp fo l) : ∀ f, fo = some f → f < A.blk.length := by
  obtain ⟨w, h1, h2⟩ := h; exact h2.famLt
def putL (l : List PM) (x : PM) : List PM := if l.length ≥ 600 then l else l ++ [x]
def putC (l : List PM) : Int := if l.length ≥ 600 then 3 else 0
theorem faPo (b : Nat) : evFieldAddr Try.prog 81 (.ptr b 0) 0 = some (.ptr b 0) := by kernel_rfl
theorem faMl (b : Nat) : evFieldAddr Try.prog 87 (.ptr b 0) 0 = some (.ptr b 0) ∧ evFieldAddr Try.prog 87 (.ptr b 0) 1 = some (.ptr b 2) ∧ evFieldAddr Try.prog 87 (.ptr b 0) 2 = some (.ptr b 4) := ⟨by kernel_rfl, by kernel_rfl, by kernel_rfl⟩
theorem bslML (cs : List V) (h : cs.length = 5) : bsl Try.prog 79 1 (some [(0, .agg cs)]) = some (.newSl cs 1 5) := bsl_one Try.underlying79 sz87 zc87 rfl h (by decide)
theorem ldMl {A : AS} {b : Nat} {k : BK} {x : PM} {v : V} (h : A.blk[b]? = some ⟨mcl x v, k⟩) : evLoad Try.prog 4 (.ptr b 0) A = some (.bool x.fc) ∧ evLoad Try.prog 3 (.ptr b 1) A = some (.int .i64 x.fn) ∧ evLoad Try.prog 4 (.ptr b 2) A = some (.bool x.tc) ∧ evLoad Try.prog 3 (.ptr b 3) A = some (.int .i64 x.tn) ∧ evLoad Try.prog 38 (.ptr b 4) A = some v ∧ evLoad Try.prog 87 (.ptr b 0) A = some (.agg (mcl x v)) := by
  refine ⟨?_, ?_, ?_, ?_, ?_, ?_⟩
  · rw [load_at ag4 h]; rfl
  · rw [load_at ag3 h]; rfl
  · rw [load_at ag4 h]; rfl
  · rw [load_at ag3 h]; rfl
  · rw [load_at ag38 h]; rfl
  · rw [load_agg ag87 sz87]
    unfold AS.range; rw [h]; rfl
set_option maxRecDepth 10000 in
set_option maxHeartbeats 16000000 in
theorem put_spec {X : Nat → Prop} {A : AS} {bp : Nat} {fo : Option Nat} {l : List PM} {x : PM} {v : V} {m2 : Hp} (hw : WF A) (hX : ∀ f, X f → f < A.blk.length) (h : PostIs X A bp fo l) (hm2 : m2.on A) (hv : Slc eU8 m2 v x.b) (hb : x.b.length ≤ 1000000000000) :
    ∃ w A', EvF Try.prog HH 38 [.ptr bp 0, .agg (mcl x v)] A w A' ∧ w = .int .i64 (putC l) ∧ Fr (postS A bp fo) A A' ∧ ∃ fo', Gr A fo fo' ∧ PostIs X A' bp fo' (putL l x) := by
  refine run_fn2 rfl Try.func38 (by unfold Try.f38; rfl) Try.ntmps38 (by unfold Try.f38; rfl) (by simp) ?_
  simp only [RS, xs_some, Option.bind_some, Option.map_some, if_true, if_false, decide_true, decide_false, true_and, and_true, Bool.not_true, Bool.not_false, Bool.false_eq_true, not_false_eq_true, not_true_eq_false, Nat.reduceLT, Nat.reduceBEq, Nat.reduceEqDiff, Nat.reduceAdd, Int.reduceEq, Int.reduceLT, Int.reduceLE, Int.reduceGT, Int.reduceGE, beq_self_eq_true, List.getElem?_toArray, List.getElem?_cons_zero, List.getElem?_cons_succ, List.append_nil, List.nil_append, List.cons_append, List.append_eq]
  obtain ⟨A1, e1, f1, r1, n1⟩ := new_var A (mcl x v)
  rw [← e1]
  obtain ⟨bx, hbx⟩ : ∃ b, b = A.blk.length := ⟨_, rfl⟩
  rw [← hbx] at r1 ⊢
  have w1 := f1.wf hw
  have h1 := h.fr0 f1
  obtain ⟨w, hbox, hl⟩ := h1
  have hlen := fun B => hl.len (P := Try.prog) Try.underlying79 B
  have ldp : evLoad Try.prog 79 (.ptr bp 0) A1 = some w := load_one ag79 hbox
  simp only [RS, xs_some, Option.bind_some, Option.map_some, if_true, if_false, decide_true, decide_false, true_and, and_true, Bool.not_true, Bool.not_false, Bool.false_eq_true, not_false_eq_true, not_true_eq_false, Nat.reduceLT, Nat.reduceBEq, Nat.reduceEqDiff, Nat.reduceAdd, Int.reduceEq, Int.reduceLT, Int.reduceLE, Int.reduceGT, Int.reduceGE, beq_self_eq_true, List.getElem?_toArray, List.getElem?_cons_zero, List.getElem?_cons_succ, List.append_nil, List.nil_append, List.cons_append, List.append_eq, faPo, ldp, hlen]
  refine condK_of (fun g => ?_) (fun g => ?_)
  · simp only [RS, xs_some, Option.bind_some, Option.map_some, if_true, if_false, decide_true, decide_false, true_and, and_true, Bool.not_true, Bool.not_false, Bool.false_eq_true, not_false_eq_true, not_true_eq_false, Nat.reduceLT, Nat.reduceBEq, Nat.reduceEqDiff, Nat.reduceAdd, Int.reduceEq, Int.reduceLT, Int.reduceLE, Int.reduceGT, Int.reduceGE, beq_self_eq_true, List.getElem?_toArray, List.getElem?_cons_zero, List.getElem?_cons_succ, List.append_nil, List.nil_append, List.cons_append, List.append_eq]
    have e : (l.length ≥ 600) := by omega
    exact ⟨by unfold putC; rw [if_pos e], f1.mono fun _ q => q.elim, fo, .inl rfl, by unfold putL; rw [if_pos e]; exact ⟨w, hbox, hl⟩⟩
  · have e : ¬ (l.length ≥ 600) := by omega
    obtain ⟨v', A2, f2, y1, y2, y3, y4⟩ := copy_new (P := Try.prog) (n := 1) (E := eU8) (t := 38) (tx := 38) rfl w1 sl38 Try.underlying38 hv (hm2.fr0 f1) (by omega) (by omega)
    have r2 := y4.row0 r1
    have fM := faMl bx
    have ld1 := ldMl ((Fr.pushArr A1 []).row0 r1)
    simp only [RS, xs_some, Option.bind_some, Option.map_some, if_true, if_false, decide_true, decide_false, true_and, and_true, Bool.not_true, Bool.not_false, Bool.false_eq_true, not_false_eq_true, not_true_eq_false, Nat.reduceLT, Nat.reduceBEq, Nat.reduceEqDiff, Nat.reduceAdd, Int.reduceEq, Int.reduceLT, Int.reduceLE, Int.reduceGT, Int.reduceGE, beq_self_eq_true, List.getElem?_toArray, List.getElem?_cons_zero, List.getElem?_cons_succ, List.append_nil, List.nil_append, List.cons_append, List.append_eq, fM, ld1, bsl0, y1]
    obtain ⟨A3, s1, s2, s3, s4⟩ := store_var (P := Try.prog) (t := 38) (o := 4) (x := v') r2 y2.cells1 sz38 (by simp [mcl]) (by simp [y2.one])
    have s3 : A3.blk[bx]? = some ⟨mcl x v', .var⟩ := s3
    have f2' := (f1.then0 y4).row_ s2 (by omega)
    have w2 := y4.wf w1
    have w3 := s2.wf w2
    have hbp : bp ≠ bx := fun q => by subst q; rw [hbox] at r1; cases r1
    have b3 := s2.row _ _ (y4.row0 hbox) (fun q => hbp (by cases q; rfl))
    have ld3 := ldMl s3
    have ldp3 : evLoad Try.prog 79 (.ptr bp 0) A3 = some w := load_one ag79 b3
    have h3 : PostIs X A3 bp fo l := (PostIs.fr0 ⟨w, hbox, hl⟩ y4).fr s2 w2 (.box r2) (.box r2) (fun q => hbp (by cases q; rfl))
    obtain ⟨w', b3', l3⟩ := h3
    rw [b3] at b3'; cases b3'
    have hf2 : ¬ exF fo X f2 := fun q => by
      have := f1.len
      rcases q with q | q
      · have := h.famLt _ q; omega
      · have := hX _ q; omega
    have hv3 : Slc eU8 (qHp (exF fo X) A3) v' x.b := (y2.fr s2 (.box r2)).slcQ (m := Hp.emp) (fun b cs q => by simp [Hp.emp] at q) (fun f q => by cases q; exact hf2)
    obtain ⟨v4, A4, fo', p1, p2, p3, p4⟩ := l3.push (P := Try.prog) (t := 79) (tx := 79) (n := 5) rfl sl79 Try.underlying79 w3 (y := x) (cs' := mcl x v') ⟨v', rfl, hv3⟩ (by omega) (by omega)
    have b4 := p3.row _ _ b3 (inFamO_var b3)
    obtain ⟨A5, u1, u2, u3, u4⟩ := store_one (P := Try.prog) (t := 79) (x := v4) b4 p2.cells1 sz79 p2.one
    simp only [RS, xs_some, Option.bind_some, Option.map_some, if_true, if_false, decide_true, decide_false, true_and, and_true, Bool.not_true, Bool.not_false, Bool.false_eq_true, not_false_eq_true, not_true_eq_false, Nat.reduceLT, Nat.reduceBEq, Nat.reduceEqDiff, Nat.reduceAdd, Int.reduceEq, Int.reduceLT, Int.reduceLE, Int.reduceGT, Int.reduceGE, beq_self_eq_true, List.getElem?_toArray, List.getElem?_cons_zero, List.getElem?_cons_succ, List.append_nil, List.nil_append, List.cons_append, List.append_eq, s1]
    rw [pl_38_4, run_plan_id (by rfl)]
    simp only [RS, xs_some, Option.bind_some, Option.map_some, if_true, if_false, decide_true, decide_false, true_and, and_true, Bool.not_true, Bool.not_false, Bool.false_eq_true, not_false_eq_true, not_true_eq_false, Nat.reduceLT, Nat.reduceBEq, Nat.reduceEqDiff, Nat.reduceAdd, Int.reduceEq, Int.reduceLT, Int.reduceLE, Int.reduceGT, Int.reduceGE, beq_self_eq_true, List.getElem?_toArray, List.getElem?_cons_zero, List.getElem?_cons_succ, List.append_nil, List.nil_append, List.cons_append, List.append_eq, faPo, ldp3, ld3, bslML _ (show (mcl x v').length = 5 from rfl), p1, u1]
    refine ⟨by unfold putC; rw [if_neg e], ?_, fo', p4.from (by have := f2'.len; omega), v4, u3, ?_⟩
    · refine ((f2'.mono fun _ q => q.elim : Fr (postS A bp fo) A A3).trans p3 fun z q => (inFamO_back f2' q).imp .inr id).trans u2 fun z q => .inl (.inl q)
    · unfold putL; rw [if_neg e]
      refine (p2.fr u2 (.box b4)).mono (Hp.le_trans (qHp_fr (X := exF fo X) p3 (.famO fun f q => .inl q) w3 (Y := exF fo' X) fun f q => ?_) (qHp_fr u2 (.box b4) (p3.wf w3) fun f q => .inl q))
      exact q.elim (fun q => (p4.or q).imp .inl id) fun q => .inl (.inr q)
theorem len_spec {X : Nat → Prop} {A : AS} {bp : Nat} {fo : Option Nat} {l : List PM} (h : PostIs X A bp fo l) : ∃ w A', EvF Try.prog HH 41 [.ptr bp 0] A w A' ∧ A' = A ∧ w = .int .i64 l.length := by
  refine run_fn2 rfl Try.func41 (by unfold Try.f41; rfl) Try.ntmps41 (by unfold Try.f41; rfl) (by simp) ?_
  obtain ⟨w, hbox, hl⟩ := h
  have hlen := fun B => hl.len (P := Try.prog) Try.underlying79 B
  have ldp : evLoad Try.prog 79 (.ptr bp 0) A = some w := load_one ag79 hbox
  simp only [RS, xs_some, Option.bind_some, Option.map_some, if_true, if_false, decide_true, decide_false, true_and, and_true, Bool.not_true, Bool.not_false, Bool.false_eq_true, not_false_eq_true, not_true_eq_false, Nat.reduceLT, Nat.reduceBEq, Nat.reduceEqDiff, Nat.reduceAdd, Int.reduceEq, Int.reduceLT, Int.reduceLE, Int.reduceGT, Int.reduceGE, beq_self_eq_true, List.getElem?_toArray, List.getElem?_cons_zero, List.getElem?_cons_succ, List.append_nil, List.nil_append, List.cons_append, List.append_eq, faPo, ldp, hlen]
def twL (l : List PM) (i : Int) : List PM := match (if i < 0 then none else l[i.toNat]?) with | none => l | some x => putL l x
def twC (l : List PM) (i : Int) : Int := match (if i < 0 then none else l[i.toNat]?) with | none => 4 | some _ => putC l
def tkL (l : List PM) (i : Int) : List PM := if i < 0 then l else l.eraseIdx i.toNat
def tkM (l : List PM) (i : Int) : PM := ((if i < 0 then none else l[i.toNat]?) : Option PM).getD pm0
def tkC (l : List PM) (i : Int) : Int := if i < 0 ∨ (l.length : Int) ≤ i then 4 else 0
set_option maxRecDepth 10000 in
set_option maxHeartbeats 16000000 in
theorem twice_spec {X : Nat → Prop} {A : AS} {bp : Nat} {fo : Option Nat} {l : List PM} {i : Int} (hw : WF A) (hX : ∀ f, X f → f < A.blk.length) (h : PostIs X A bp fo l) (hb : ∀ x ∈ l, x.b.length ≤ 1000000000000) (hl : l.length ≤ 1000000) :
    ∃ w A', EvF Try.prog HH 39 [.ptr bp 0, .int .i64 i] A w A' ∧ w = .int .i64 (twC l i) ∧ Fr (postS A bp fo) A A' ∧ ∃ fo', Gr A fo fo' ∧ PostIs X A' bp fo' (twL l i) := by
  refine run_fn2 rfl Try.func39 (by unfold Try.f39; rfl) Try.ntmps39 (by unfold Try.f39; rfl) (by simp) ?_
  obtain ⟨w, hbox, hl'⟩ := h
  have hlen := fun B => hl'.len (P := Try.prog) Try.underlying79 B
  have ldp : evLoad Try.prog 79 (.ptr bp 0) A = some w := load_one ag79 hbox
  have out : (if i < 0 then none else l[i.toNat]?) = none → (V.int .i64 4 = .int .i64 (twC l i) ∧ Fr (postS A bp fo) A A ∧ ∃ fo', Gr A fo fo' ∧ PostIs X A bp fo' (twL l i)) := fun q =>
    ⟨by unfold twC; rw [q], .refl _ _, fo, .inl rfl, by unfold twL; rw [q]; exact ⟨w, hbox, hl'⟩⟩
  simp only [RS, xs_some, Option.bind_some, Option.map_some, if_true, if_false, decide_true, decide_false, true_and, and_true, Bool.not_true, Bool.not_false, Bool.false_eq_true, not_false_eq_true, not_true_eq_false, Nat.reduceLT, Nat.reduceBEq, Nat.reduceEqDiff, Nat.reduceAdd, Int.reduceEq, Int.reduceLT, Int.reduceLE, Int.reduceGT, Int.reduceGE, beq_self_eq_true, List.getElem?_toArray, List.getElem?_cons_zero, List.getElem?_cons_succ, List.append_nil, List.nil_append, List.cons_append, List.append_eq]
  refine contG_of (fun g => ?_) (fun g => ?_)
  · simp only [RS, xs_some, Option.bind_some, Option.map_some, if_true, if_false, decide_true, decide_false, true_and, and_true, Bool.not_true, Bool.not_false, Bool.false_eq_true, not_false_eq_true, not_true_eq_false, Nat.reduceLT, Nat.reduceBEq, Nat.reduceEqDiff, Nat.reduceAdd, Int.reduceEq, Int.reduceLT, Int.reduceLE, Int.reduceGT, Int.reduceGE, beq_self_eq_true, List.getElem?_toArray, List.getElem?_cons_zero, List.getElem?_cons_succ, List.append_nil, List.nil_append, List.cons_append, List.append_eq, g]
    have e := out (by rw [if_pos (by omega)])
    exact e
  simp only [RS, xs_some, Option.bind_some, Option.map_some, if_true, if_false, decide_true, decide_false, true_and, and_true, Bool.not_true, Bool.not_false, Bool.false_eq_true, not_false_eq_true, not_true_eq_false, Nat.reduceLT, Nat.reduceBEq, Nat.reduceEqDiff, Nat.reduceAdd, Int.reduceEq, Int.reduceLT, Int.reduceLE, Int.reduceGT, Int.reduceGE, beq_self_eq_true, List.getElem?_toArray, List.getElem?_cons_zero, List.getElem?_cons_succ, List.append_nil, List.nil_append, List.cons_append, List.append_eq, g, faPo, ldp, hlen]
  refine condK_of (fun g2 => ?_) (fun g2 => ?_)
  · simp only [RS, xs_some, Option.bind_some, Option.map_some, if_true, if_false, decide_true, decide_false, true_and, and_true, Bool.not_true, Bool.not_false, Bool.false_eq_true, not_false_eq_true, not_true_eq_false, Nat.reduceLT, Nat.reduceBEq, Nat.reduceEqDiff, Nat.reduceAdd, Int.reduceEq, Int.reduceLT, Int.reduceLE, Int.reduceGT, Int.reduceGE, beq_self_eq_true, List.getElem?_toArray, List.getElem?_cons_zero, List.getElem?_cons_succ, List.append_nil, List.nil_append, List.cons_append, List.append_eq]
    have e := out (by rw [if_neg (by omega)]; exact List.getElem?_eq_none (by omega))
    exact e
  obtain ⟨j, rfl⟩ := Int.eq_ofNat_of_zero_le (show 0 ≤ i by omega)
  obtain ⟨x, hx⟩ := get_lt (l := l) (i := j) (by omega)
  obtain ⟨b, o, c, g3, g4, g5⟩ := hl'.at (P := Try.prog) (k := .i64) (qHp_on _ A) Try.underlying79 sz87 ag87 hx
  obtain ⟨v, rfl, hv⟩ := eMail_W.1 g5
  simp only [RS, xs_some, Option.bind_some, Option.map_some, if_true, if_false, decide_true, decide_false, true_and, and_true, Bool.not_true, Bool.not_false, Bool.false_eq_true, not_false_eq_true, not_true_eq_false, Nat.reduceLT, Nat.reduceBEq, Nat.reduceEqDiff, Nat.reduceAdd, Int.reduceEq, Int.reduceLT, Int.reduceLE, Int.reduceGT, Int.reduceGE, beq_self_eq_true, List.getElem?_toArray, List.getElem?_cons_zero, List.getElem?_cons_succ, List.append_nil, List.nil_append, List.cons_append, List.append_eq, faPo, ldp, g3, g4]
  obtain ⟨u, A', k1, rfl, k2, fo', k3, k4⟩ := put_spec hw hX ⟨w, hbox, hl'⟩ (qHp_on _ A) hv (hb x (List.mem_of_getElem? hx))
  refine run_call1 k1 ?_
  simp only [RS, xs_some, Option.bind_some, Option.map_some, if_true, if_false, decide_true, decide_false, true_and, and_true, Bool.not_true, Bool.not_false, Bool.false_eq_true, not_false_eq_true, not_true_eq_false, Nat.reduceLT, Nat.reduceBEq, Nat.reduceEqDiff, Nat.reduceAdd, Int.reduceEq, Int.reduceLT, Int.reduceLE, Int.reduceGT, Int.reduceGE, beq_self_eq_true, List.getElem?_toArray, List.getElem?_cons_zero, List.getElem?_cons_succ, List.append_nil, List.nil_append, List.cons_append, List.append_eq]
  have e : (if (j : Int) < 0 then none else l[(j : Int).toNat]?) = some x := by rw [if_neg (by omega)]; exact hx
  refine ⟨by unfold twC; rw [e], k2, fo', k3, by unfold twL; rw [e]; exact k4⟩
theorem bldMl0 : evBuild Try.prog 87 [] = some (.agg (mcl pm0 .snil)) := by kernel_rfl
theorem newMl {A : AS} {x : PM} {v : V} (hv : v.one = true) : ∃ A', evStore Try.prog 87 (.ptr A.blk.length 0) (.agg (mcl x v)) (A.push ⟨mcl pm0 .snil, .var⟩) = some A' ∧ Fr S0 A A' ∧ A'.blk[A.blk.length]? = some ⟨mcl x v, .var⟩ := by
  obtain ⟨A2, s1, s2, s3, s4⟩ := new_set (P := Try.prog) A (z := mcl pm0 .snil) (t := 87) (x := .agg (mcl x v)) (cs := mcl x v) rfl sz87 rfl (by simp only [mcl, List.all_cons, List.all_nil, hv]; rfl)
  exact ⟨A2, s1, s2, s3⟩
theorem setMl {A : AS} {b : Nat} {x y : PM} {v w : V} (h : A.blk[b]? = some ⟨mcl x v, .var⟩) (hw : w.one = true) : ∃ A', evStore Try.prog 87 (.ptr b 0) (.agg (mcl y w)) A = some A' ∧ Fr (· = .row b) A A' ∧ A'.blk[b]? = some ⟨mcl y w, .var⟩ := by
  obtain ⟨A', s1, s2, s3, s4⟩ := store_var (P := Try.prog) (t := 87) (o := 0) (x := .agg (mcl y w)) (cs := mcl y w) h rfl sz87 (by simp [mcl]) (by simp only [mcl, List.all_cons, List.all_nil, hw]; rfl)
  exact ⟨A', s1, s2, s3⟩
set_option maxRecDepth 10000 in
set_option maxHeartbeats 16000000 in
theorem take_spec {X : Nat → Prop} {A : AS} {bp : Nat} {fo : Option Nat} {l : List PM} {i : Int} (hw : WF A) (h : PostIs X A bp fo l) (hl : l.length ≤ 1000000) :
    ∃ w A', EvF Try.prog HH 40 [.ptr bp 0, .int .i64 i] A w A' ∧ Fr (postS A bp fo) A A' ∧ ∃ v, w = .tup [.agg (mcl (tkM l i) v), .int .i64 (tkC l i)] ∧ Slc eU8 (qHp (exF fo X) A') v (tkM l i).b ∧ PostIs X A' bp fo (tkL l i) := by
  refine run_fn2 rfl Try.func40 (by unfold Try.f40; rfl) Try.ntmps40 (by unfold Try.f40; rfl) (by simp) ?_
  simp only [RS, xs_some, Option.bind_some, Option.map_some, if_true, if_false, decide_true, decide_false, true_and, and_true, Bool.not_true, Bool.not_false, Bool.false_eq_true, not_false_eq_true, not_true_eq_false, Nat.reduceLT, Nat.reduceBEq, Nat.reduceEqDiff, Nat.reduceAdd, Int.reduceEq, Int.reduceLT, Int.reduceLE, Int.reduceGT, Int.reduceGE, beq_self_eq_true, List.getElem?_toArray, List.getElem?_cons_zero, List.getElem?_cons_succ, List.append_nil, List.nil_append, List.cons_append, List.append_eq, zc87]
  obtain ⟨A1, e1, f1, r1, n1⟩ := new_var A (mcl pm0 .snil)
  have e1 : A1 = A.push ⟨[.bool false, .int .i64 0, .bool false, .int .i64 0, .snil], .var⟩ := e1
  rw [← e1]
  obtain ⟨bx, hbx⟩ : ∃ b, b = A.blk.length := ⟨_, rfl⟩
  rw [← hbx] at r1 ⊢
  have w1 := f1.wf hw
  have h1 := h.fr0 f1
  obtain ⟨w, hbox, hl'⟩ := h1
  have hbp : bp ≠ bx := fun q => by subst q; rw [hbox] at r1; cases r1
  have hlen := fun B => hl'.len (P := Try.prog) Try.underlying79 B
  have ldp : evLoad Try.prog 79 (.ptr bp 0) A1 = some w := load_one ag79 hbox
  obtain ⟨A2, s1, s2, s3⟩ := setMl (y := pm0) (w := .snil) r1 rfl
  have out : (i < 0 ∨ (l.length : Int) ≤ i) → Fr (postS A bp fo) A A2 ∧ ∃ v, V.tup [.agg (mcl pm0 .snil), .int .i64 4] = .tup [.agg (mcl (tkM l i) v), .int .i64 (tkC l i)] ∧ Slc eU8 (qHp (exF fo X) A2) v (tkM l i).b ∧ PostIs X A2 bp fo (tkL l i) := fun q => by
    have e : tkM l i = pm0 ∧ tkL l i = l := by
      unfold tkM tkL
      by_cases z : i < 0
      · rw [if_pos z, if_pos z]; exact ⟨rfl, rfl⟩
      · rw [if_neg z, if_neg z, List.getElem?_eq_none (by omega), List.eraseIdx_of_length_le (by omega)]; exact ⟨rfl, rfl⟩
    rw [e.1, e.2]
    refine ⟨(f1.row_ s2 (by omega)).mono fun _ q => q.elim, .snil, by unfold tkC; rw [if_pos q], .inl ⟨rfl, rfl⟩, PostIs.fr ⟨w, hbox, hl'⟩ s2 w1 (.box r1) (.box r1) fun z => hbp (by cases z; rfl)⟩
  have ld2 := ldMl s3
  refine contG_of (fun g => ?_) (fun g => ?_)
  · simp only [RS, xs_some, Option.bind_some, Option.map_some, if_true, if_false, decide_true, decide_false, true_and, and_true, Bool.not_true, Bool.not_false, Bool.false_eq_true, not_false_eq_true, not_true_eq_false, Nat.reduceLT, Nat.reduceBEq, Nat.reduceEqDiff, Nat.reduceAdd, Int.reduceEq, Int.reduceLT, Int.reduceLE, Int.reduceGT, Int.reduceGE, beq_self_eq_true, List.getElem?_toArray, List.getElem?_cons_zero, List.getElem?_cons_succ, List.append_nil, List.nil_append, List.cons_append, List.append_eq, g, bldMl0, s1, ld2]
    exact out (.inl (by omega))
  simp only [RS, xs_some, Option.bind_some, Option.map_some, if_true, if_false, decide_true, decide_false, true_and, and_true, Bool.not_true, Bool.not_false, Bool.false_eq_true, not_false_eq_true, not_true_eq_false, Nat.reduceLT, Nat.reduceBEq, Nat.reduceEqDiff, Nat.reduceAdd, Int.reduceEq, Int.reduceLT, Int.reduceLE, Int.reduceGT, Int.reduceGE, beq_self_eq_true, List.getElem?_toArray, List.getElem?_cons_zero, List.getElem?_cons_succ, List.append_nil, List.nil_append, List.cons_append, List.append_eq, g, faPo, ldp, hlen]
  refine condK_of (fun g2 => ?_) (fun g2 => ?_)
  · simp only [RS, xs_some, Option.bind_some, Option.map_some, if_true, if_false, decide_true, decide_false, true_and, and_true, Bool.not_true, Bool.not_false, Bool.false_eq_true, not_false_eq_true, not_true_eq_false, Nat.reduceLT, Nat.reduceBEq, Nat.reduceEqDiff, Nat.reduceAdd, Int.reduceEq, Int.reduceLT, Int.reduceLE, Int.reduceGT, Int.reduceGE, beq_self_eq_true, List.getElem?_toArray, List.getElem?_cons_zero, List.getElem?_cons_succ, List.append_nil, List.nil_append, List.cons_append, List.append_eq, bldMl0, s1, ld2]
    exact out (.inr (by omega))
  obtain ⟨j, rfl⟩ := Int.eq_ofNat_of_zero_le (show 0 ≤ i by omega)
  obtain ⟨x, hx⟩ := get_lt (l := l) (i := j) (by omega)
  obtain ⟨b, o, c, g3, g4, g5⟩ := hl'.at (P := Try.prog) (k := .i64) (qHp_on _ A1) Try.underlying79 sz87 ag87 hx
  obtain ⟨v, rfl, hv⟩ := eMail_W.1 g5
  obtain ⟨A3, t1, t2, t3⟩ := newMl (A := A1) (x := x) hv.one
  have r3 := t2.row0 r1
  obtain ⟨w', b3, l3⟩ := PostIs.fr0 ⟨w, hbox, hl'⟩ t2
  have b3' := t2.row0 hbox
  rw [b3] at b3'; cases b3'
  have f3 := f1.then0 t2
  have w3 := f3.wf hw
  have ldp3 : evLoad Try.prog 79 (.ptr bp 0) A3 = some w := load_one ag79 b3
  obtain ⟨wa, c1, c2⟩ := l3.to3 (P := Try.prog) Try.underlying79 sz87 (hi := j) (by omega) (kh := .i64) (km := .i64) A3
  obtain ⟨wb, c3, c4⟩ := l3.fromN (P := Try.prog) Try.underlying79 sz87 (lo := j + 1) (by omega) (kl := .i64) A3
  obtain ⟨cs, c5, c6⟩ := c4.src (P := Try.prog) (tx := 79) Try.underlying79
  obtain ⟨v4, A4, fo', p1, p2, p3, p4⟩ := c2.app (P := Try.prog) (t := 79) sl79 w3 c5 c6 (by simp; omega) (by simp; omega)
  have hfo : fo' = fo := by
    rcases p4 with q | ⟨rfl, _⟩
    · exact q
    · obtain ⟨cs, q1, ⟨_, q2, _⟩ | ⟨f, q, _⟩⟩ := hl'
      · rw [List.eq_nil_of_length_eq_zero q2] at hx; simp at hx
      · cases q
  subst hfo
  have b4 := p3.row _ _ b3 (inFamO_var b3)
  obtain ⟨A5, u1, u2, u3, u4⟩ := store_one (P := Try.prog) (t := 79) (x := v4) b4 p2.cells1 sz79 p2.one
  have r5 := u2.row _ _ (p3.row _ _ r3 (inFamO_var r3)) (fun q => hbp (by cases q; rfl))
  have t5 := u2.row _ _ (p3.row _ _ t3 (inFamO_var t3)) (fun q => by cases q; rw [t3] at b3; cases b3)
  obtain ⟨A6, x1, x2, x3⟩ := setMl (y := x) (w := v) r5 hv.one
  have ld5 := ldMl t5
  have ld6 := ldMl x3
  simp only [RS, xs_some, Option.bind_some, Option.map_some, if_true, if_false, decide_true, decide_false, true_and, and_true, Bool.not_true, Bool.not_false, Bool.false_eq_true, not_false_eq_true, not_true_eq_false, Nat.reduceLT, Nat.reduceBEq, Nat.reduceEqDiff, Nat.reduceAdd, Int.reduceEq, Int.reduceLT, Int.reduceLE, Int.reduceGT, Int.reduceGE, beq_self_eq_true, List.getElem?_toArray, List.getElem?_cons_zero, List.getElem?_cons_succ, List.append_nil, List.nil_append, List.cons_append, List.append_eq, faPo, ldp, g3, g4, zc87]
  have t1' : evStore Try.prog 87 (.ptr A1.blk.length 0) (.agg (mcl x v)) (A1.push ⟨[.bool false, .int .i64 0, .bool false, .int .i64 0, .snil], .var⟩) = some A3 := t1
  simp only [RS, xs_some, Option.bind_some, Option.map_some, if_true, if_false, decide_true, decide_false, true_and, and_true, Bool.not_true, Bool.not_false, Bool.false_eq_true, not_false_eq_true, not_true_eq_false, Nat.reduceLT, Nat.reduceBEq, Nat.reduceEqDiff, Nat.reduceAdd, Int.reduceEq, Int.reduceLT, Int.reduceLE, Int.reduceGT, Int.reduceGE, beq_self_eq_true, List.getElem?_toArray, List.getElem?_cons_zero, List.getElem?_cons_succ, List.append_nil, List.nil_append, List.cons_append, List.append_eq, t1']
  rw [pl_40_4, run_plan_id (by rfl)]
  simp only [RS, xs_some, Option.bind_some, Option.map_some, if_true, if_false, decide_true, decide_false, true_and, and_true, Bool.not_true, Bool.not_false, Bool.false_eq_true, not_false_eq_true, not_true_eq_false, Nat.reduceLT, Nat.reduceBEq, Nat.reduceEqDiff, Nat.reduceAdd, Int.reduceEq, Int.reduceLT, Int.reduceLE, Int.reduceGT, Int.reduceGE, beq_self_eq_true, List.getElem?_toArray, List.getElem?_cons_zero, List.getElem?_cons_succ, List.append_nil, List.nil_append, List.cons_append, List.append_eq, faPo, ldp3, c1, wrapS (show j < 9223372036854775807 by omega), c3, p1, u1, ld5, x1, ld6]
  have e : tkM l j = x ∧ tkL l j = l.take j ++ l.drop (j + 1) ∧ tkC l j = 0 := by
    unfold tkM tkL tkC
    rw [if_neg (by omega), if_neg (by omega), if_neg (by omega)]
    exact ⟨by show (l[j]?).getD pm0 = x; rw [hx]; rfl, List.eraseIdx_eq_take_drop_succ .., rfl⟩
  rw [e.1, e.2.1, e.2.2]
  have m45 := Hp.le_trans (qHp_fr (X := exF fo' X) p3 (.famO fun f q => .inl q) w3 (Y := exF fo' X) fun f q => .inl q) (qHp_fr u2 (.box b4) (p3.wf w3) fun f q => .inl q)
  have m46 := Hp.le_trans m45 (qHp_fr x2 (.box r5) (u2.wf (p3.wf w3)) fun f q => .inl q)
  refine ⟨?_, v, rfl, hv.mono (Hp.le_trans (qHp_fr0 t2) m46), v4, x2.row _ _ u3 (fun q => hbp (by cases q; rfl)), ((p2.fr u2 (.box b4)).fr x2 (.box r5)).mono m46⟩
  exact (((f3.mono fun _ q => q.elim : Fr (postS A bp fo') A A3).trans p3 fun z q => (inFamO_back f3 q).imp .inr id).trans u2 fun z q => .inl (.inl q)).trans x2 fun z q => .inr (by subst q; show A.blk.length ≤ bx; omega)
end Go.Sv.Try
namespace Go.Sv.Try
open Go Go.Proofs
set_option linter.unusedVariables false
set_option linter.unusedSimpArgs false
end Go.Sv.Try
namespace Go.Sv.Try
open Go Go.Proofs
set_option linter.unusedVariables false
set_option linter.unusedSimpArgs false
end Go.Sv.Try
namespace Go.Sv.Try
open Go Go.Proofs
set_option linter.unusedVariables false
set_option linter.unusedSimpArgs false
end Go.Sv.Try
namespace Go.Sv.Try
open Go Go.Proofs
set_option linter.unusedVariables false
set_option linter.unusedSimpArgs false
abbrev OpP := Int × Int × (Bool × Int) × (Bool × Int) × Go.Sv.M × Bts
def ePl : Enc (Bool × Int) := ePair eBool (eInt .i64)
def eOp : Enc OpP := ePair (eInt .i64) (ePair (eInt .i64) (ePair ePl (ePair ePl (ePair eMsg (eSl eU8)))))
def shP : Sh := .struct [(.bool, 0, 1), (.int .i64, 1, 1)] 2
def shO : Sh := .struct [(.int .i64, 0, 1), (.int .i64, 1, 1), (shP, 2, 2), (shP, 4, 2), (shM, 6, 41), (.sl (.int .u8) 1, 47, 1)] 48
theorem Reads.place : Reads ePl shP (fun _ => True) (fun _ => 0) :=
  Reads.weak (Reads.struct (.cons Reads.bool rfl rfl (.last (Reads.int .i64) rfl)) rfl) (fun _ _ => trivial) fun _ => Nat.zero_le _
def bulkO (o : OpP) : Nat := bulkM o.2.2.2.2.1 + sumOf (fun _ => 1) o.2.2.2.2.2 + 1
theorem Reads.op : Reads eOp shO (fun o => Sized o.2.2.2.2.1) bulkO :=
  Reads.weak (Reads.struct (.cons (Reads.int .i64) rfl rfl (.cons (Reads.int .i64) rfl rfl (.cons Reads.place rfl rfl (.cons Reads.place rfl rfl (.cons Reads.msg rfl rfl (.last Reads.u8.sl rfl)))))) rfl)
    (fun _ h => h.2.2.2.2.1.1) fun o => by
      show _ ≤ (1 + (1 + (0 + (0 + (bulkM o.2.2.2.2.1 + (sumOf (fun _ => 1) o.2.2.2.2.2 + 1)))))) + 1
      unfold bulkO; omega
end Go.Sv.Try
namespace Go.Sv.Try
open Go Go.Proofs
set_option linter.unusedVariables false
set_option linter.unusedSimpArgs false
def NS (A : AS) : Loc → Prop := fun x => x.newTo A
theorem inFamO_new {S : Loc → Prop} {A B : AS} {fo : Option Nat} (hw : WF A) (hf : Fr S A B) (hfo : ∀ f, fo = some f → A.blk.length ≤ f) {z : Loc} (h : inFamO B fo z) : z.newTo A := by
  rcases inFamO_back hf h with q | q
  · cases fo with
    | none => exact q.elim
    | some g =>
      have := hfo g rfl
      cases z with
      | row b => obtain ⟨k, base, z1, z2⟩ := q; have := hw b k _ base z1 z2; omega
      | fam g' => show A.blk.length ≤ g'; rw [show g' = g from q]; exact this
      | map r => exact q.elim
      | loop r => exact q.elim
      | it r => exact q.elim
  · exact q
theorem postS_new {S : Loc → Prop} {A B : AS} {bp : Nat} {fo : Option Nat} (hw : WF A) (hf : Fr S A B) (hb : A.blk.length ≤ bp) (hfo : ∀ f, fo = some f → A.blk.length ≤ f) {z : Loc} (h : postS B bp fo z) : z.newTo A := by
  rcases h with h | h
  · subst h; exact hb
  · exact inFamO_new hw hf hfo h
theorem nsF {S : Loc → Prop} {A B C : AS} (h : Fr (NS A) A B) (k : Fr S B C) (hs : ∀ z, S z → z.newTo A) : Fr (NS A) A C := h.trans k fun z q => .inl (hs z q)
theorem nsF0 {A B C : AS} (h : Fr (NS A) A B) (k : Fr S0 B C) : Fr (NS A) A C := nsF h k fun _ q => q.elim
theorem nsOn {m : Hp} {A B : AS} (h : m.on A) (hf : Fr (NS A) A B) : m.on B := h.fr hf fun b q => h.fresh q
theorem bslStr (s : Bts) : bsl Try.prog 82 1 (some [(0, .str s)]) = some (.newSl [.str s] 1 1) := by kernel_rfl
theorem bldPl0 (n : Int) : evBuild Try.prog 85 [(1, .int .i64 n)] = some (.agg [.bool false, .int .i64 n]) := by kernel_rfl
theorem bldOrdS (n : Int) (b o k z : Nat) : evBuild Try.prog 87 [(0, .agg [.bool false, .int .i64 n]), (2, .sl b o k z)] = some (.agg [.bool false, .int .i64 n, .bool false, .int .i64 0, .sl b o k z]) := by kernel_rfl
theorem bldOrdN (n : Int) : evBuild Try.prog 87 [(0, .agg [.bool false, .int .i64 n]), (2, .snil)] = some (.agg [.bool false, .int .i64 n, .bool false, .int .i64 0, .snil]) := by kernel_rfl
theorem bldOrd {τ : Type} {E : Enc τ} {m : Hp} {v : V} {l : List τ} (h : Slc E m v l) (n : Int) : evBuild Try.prog 87 [(0, .agg [.bool false, .int .i64 n]), (2, v)] = some (.agg (mcl ⟨false, n, false, 0, []⟩ v)) := by
  rcases h with ⟨rfl, rfl⟩ | ⟨b, o, c, rfl, _⟩
  · exact bldOrdN n
  · exact bldOrdS ..
def ordM (i : Nat) (b : Bts) : PM := ⟨false, i, false, 0, b⟩
def ordL (l : List Bts) : List PM := l.mapIdx ordM
theorem ordL_get {l : List Bts} {i : Nat} {b : Bts} (h : l[i]? = some b) : (ordL l)[i]? = some (ordM i b) := by unfold ordL; rw [List.getElem?_mapIdx, h]; rfl
theorem ordL_mem {l : List Bts} {x : PM} (h : x ∈ ordL l) : ∃ i b, b ∈ l ∧ x = ordM i b := by
  obtain ⟨i, hi⟩ := List.getElem?_of_mem h
  unfold ordL at hi; rw [List.getElem?_mapIdx] at hi
  cases q : l[i]? with
  | none => rw [q] at hi; simp at hi
  | some b => rw [q] at hi; simp at hi; exact ⟨i, b, List.mem_of_getElem? q, hi.symm⟩
theorem ordL_len (l : List Bts) : (ordL l).length = l.length := by simp [ordL]
theorem ordL_b (l : List Bts) : (ordL l).map (·.b) = l := by
  apply List.ext_getElem?; intro i
  rw [List.getElem?_map]; unfold ordL; rw [List.getElem?_mapIdx]
  cases l[i]? <;> rfl
theorem take_snoc {α : Type} {l : List α} {i : Nat} {x : α} (h : l[i]? = some x) : l.take (i + 1) = l.take i ++ [x] := by rw [List.take_add_one, h]; rfl
theorem putL_small {l : List PM} (h : l.length < 600) (x : PM) : putL l x = l ++ [x] ∧ putC l = 0 := by
  unfold putL putC; rw [if_neg (by omega), if_neg (by omega)]; exact ⟨rfl, rfl⟩
theorem lst_len {B : AS} {fo2 : Option Nat} {w : V} {l : List Bts} (h : Lst eStr Hp.emp B w l fo2) (C : AS) : evLen Try.prog 82 w C = some (.int .i64 l.length) := h.len Try.underlying82 C
structure Mid (A B : AS) (bp : Nat) (fo fo2 : Option Nat) (l : List PM) (w : V) (wl : List Bts) : Prop where
  fr : Fr (NS A) A B
  hbp : A.blk.length ≤ bp
  po : PostIs (fun f => fo2 = some f) B bp fo l
  ls : Lst eStr Hp.emp B w wl fo2
  hfo : ∀ f, fo = some f → A.blk.length ≤ f
  hfo2 : ∀ f, fo2 = some f → A.blk.length ≤ f
  ne : ∀ f, fo = some f → fo2 ≠ some f
theorem Mid.fr0 {A B C : AS} {bp : Nat} {fo fo2 : Option Nat} {l : List PM} {w : V} {wl : List Bts} (h : Mid A B bp fo fo2 l w wl) (hf : Fr S0 B C) : Mid A C bp fo fo2 l w wl :=
  ⟨nsF0 h.fr hf, h.hbp, h.po.fr0 hf, h.ls.fr0 hf, h.hfo, h.hfo2, h.ne⟩
theorem Mid.tt {A B : AS} {bp : Nat} {fo fo2 : Option Nat} {l : List PM} {w : V} {wl : List Bts} (h : Mid A B bp fo fo2 l w wl) : ∀ f, fo2 = some f → f < B.blk.length := h.ls.famLt
theorem Mid.post {A B C : AS} {bp : Nat} {fo fo2 fo' : Option Nat} {l l' : List PM} {w : V} {wl : List Bts} (h : Mid A B bp fo fo2 l w wl) (hw : WF A) (hf : Fr (postS B bp fo) B C) (hg : Gr B fo fo') (hp : PostIs (fun f => fo2 = some f) C bp fo' l') : Mid A C bp fo' fo2 l' w wl := by
  obtain ⟨v, hb, _⟩ := h.po
  refine ⟨nsF h.fr hf fun z q => postS_new hw h.fr h.hbp h.hfo q, h.hbp, hp, h.ls.fr hf ((Off.box hb).or ?_), fun f q => ?_, h.hfo2, fun f q z => ?_⟩
  · cases fo with
    | none => exact fun _ q => q.elim
    | some g => exact Off.fam (h.ne g rfl)
  · rcases hg.or q with q | q
    · exact h.hfo f q
    · have := h.fr.len; omega
  · rcases hg.or q with q | q
    · exact h.ne f q z
    · have := h.tt f z; omega
set_option maxHeartbeats 4000000 in
theorem Mid.want {A B : AS} {bp : Nat} {fo fo2 : Option Nat} {l : List PM} {w : V} {wl : List Bts} (h : Mid A B bp fo fo2 l w wl) (hw : WF A) (s : Bts) (hl : wl.length ≤ 1000000) :
    ∃ v' C fo2', evAppend Try.prog 82 82 w (.sl B.blk.length 0 1 1) (B.push ⟨[.str s], .arr B.blk.length 0⟩) = some (v', C) ∧ Mid A C bp fo fo2' l v' (wl ++ [s]) := by
  have wB := h.fr.wf hw
  obtain ⟨v', C, fo', p1, p2, p3, p4⟩ := h.ls.push (P := Try.prog) (t := 82) (tx := 82) (n := 1) rfl sl82 Try.underlying82 wB (y := s) (cs' := [.str s]) rfl (by omega) (by omega)
  obtain ⟨v, hb, hl'⟩ := h.po
  refine ⟨v', C, fo', p1, nsF h.fr p3 fun z q => inFamO_new hw h.fr h.hfo2 q, h.hbp, ?_, p2, h.hfo, fun f q => ?_, fun f q z => ?_⟩
  · refine ⟨v, p3.row _ _ hb (inFamO_var hb), (hl'.fr p3 ?_).mono (qHp_fr p3 (.famO fun f q => .inr q) wB fun f q => ?_)⟩
    · cases fo2 with
      | none => exact fun _ q => q.elim
      | some g => exact Off.fam fun q => h.ne g q rfl
    · rcases q with q | q
      · exact .inl (.inl q)
      · exact (p4.or q).imp .inr id
  · rcases p4.or q with q | q
    · exact h.hfo2 f q
    · have := h.fr.len; omega
  · rcases p4.or z with z | z
    · exact h.ne f q z
    · have := h.po.famLt f q; omega
set_option maxRecDepth 10000 in
set_option maxHeartbeats 16000000 in
theorem postOrder_spec {m : Hp} {A : AS} {v : V} {texts : List Bts} {tw : Int} (hw : WF A) (hm : m.on A) (hma : m.le (arrHp A)) (h : Slc (eSl eU8) m v texts) : ∃ w A', EvF Try.prog HH 13 [v, .int .i64 tw] A w A' ∧ w = .bool true := by
  refine run_fn2 rfl Try.func13 (by unfold Try.f13; rfl) Try.ntmps13 (by unfold Try.f13; rfl) (by simp) ?_
  simp only [RS, xs_some, Option.bind_some, Option.map_some, if_true, if_false, decide_true, decide_false, true_and, and_true, Bool.not_true, Bool.not_false, Bool.false_eq_true, not_false_eq_true, not_true_eq_false, Nat.reduceLT, Nat.reduceBEq, Nat.reduceEqDiff, Nat.reduceAdd, Int.reduceEq, Int.reduceLT, Int.reduceLE, Int.reduceGT, Int.reduceGE, beq_self_eq_true, List.getElem?_toArray, List.getElem?_cons_zero, List.getElem?_cons_succ, List.append_nil, List.nil_append, List.cons_append, List.append_eq]
  refine run_call1 (evF_ground rfl) ?_
  have hlen := fun B => h.len (P := Try.prog) Try.underlying33 B
  simp only [RS, xs_some, Option.bind_some, Option.map_some, if_true, if_false, decide_true, decide_false, true_and, and_true, Bool.not_true, Bool.not_false, Bool.false_eq_true, not_false_eq_true, not_true_eq_false, Nat.reduceLT, Nat.reduceBEq, Nat.reduceEqDiff, Nat.reduceAdd, Int.reduceEq, Int.reduceLT, Int.reduceLE, Int.reduceGT, Int.reduceGE, beq_self_eq_true, List.getElem?_toArray, List.getElem?_cons_zero, List.getElem?_cons_succ, List.append_nil, List.nil_append, List.cons_append, List.append_eq, hlen]
  refine condK_of (fun g => ?_) (fun g => ?_)
  · simp only [RS, xs_some, Option.bind_some, Option.map_some, if_true, if_false, decide_true, decide_false, true_and, and_true, Bool.not_true, Bool.not_false, Bool.false_eq_true, not_false_eq_true, not_true_eq_false, Nat.reduceLT, Nat.reduceBEq, Nat.reduceEqDiff, Nat.reduceAdd, Int.reduceEq, Int.reduceLT, Int.reduceLE, Int.reduceGT, Int.reduceGE, beq_self_eq_true, List.getElem?_toArray, List.getElem?_cons_zero, List.getElem?_cons_succ, List.append_nil, List.nil_append, List.cons_append, List.append_eq]
  simp only [RS, xs_some, Option.bind_some, Option.map_some, if_true, if_false, decide_true, decide_false, true_and, and_true, Bool.not_true, Bool.not_false, Bool.false_eq_true, not_false_eq_true, not_true_eq_false, Nat.reduceLT, Nat.reduceBEq, Nat.reduceEqDiff, Nat.reduceAdd, Int.reduceEq, Int.reduceLT, Int.reduceLE, Int.reduceGT, Int.reduceGE, beq_self_eq_true, List.getElem?_toArray, List.getElem?_cons_zero, List.getElem?_cons_succ, List.append_nil, List.nil_append, List.cons_append, List.append_eq, zc81, hlen]
  obtain ⟨A1, e1, f1, r1, n1⟩ := new_var A [.snil]
  rw [← e1]
  obtain ⟨bp, hbp⟩ : ∃ b, b = A.blk.length := ⟨_, rfl⟩
  rw [← hbp] at r1 ⊢
  have M0 : Mid A A1 bp none none [] .snil [] := ⟨f1.mono fun _ q => q.elim, by omega, ⟨.snil, r1, .nil⟩, .nil, (fun _ q => by cases q), (fun _ q => by cases q), (fun _ q => by cases q)⟩
  refine run_loop_j (fun n e B => e.get 0 = v ∧ e.get 1 = .int .i64 tw ∧ e.get 5 = .ptr bp 0 ∧ e.get 21 = v ∧ e.get 22 = .int .i64 texts.length ∧ ∃ (i : Nat) (w : V) (fo fo2 : Option Nat), n = texts.length - i ∧ i ≤ texts.length ∧ e.get 23 = .int .i64 i ∧ e.get 6 = w ∧ Mid A B bp fo fo2 ((ordL texts).take i) w (texts.take i) ∧ ∀ b ∈ texts.take i, b.length ≤ 300)
    (fun z e B => (Is z (.exit 0) ∧ e.get 0 = v ∧ e.get 1 = .int .i64 tw ∧ e.get 5 = .ptr bp 0 ∧ ∃ (w : V) (fo fo2 : Option Nat), e.get 6 = w ∧ Mid A B bp fo fo2 (ordL texts) w texts ∧ ∀ b ∈ texts, b.length ≤ 300) ∨ (Is z .ret ∧ e.get 4 = .bool true))
    ⟨_, rfl, rfl, rfl, rfl, rfl, 0, .snil, none, none, rfl, by omega, rfl, rfl, by simpa using M0, by simp⟩ ?_ ?_
  · rintro n e B ⟨h0, h1, h5, h21, h22, i, w, fo, fo2, rfl, hi, h23, h6, hM, hs⟩
    simp only [RS, xs_some, Option.bind_some, Option.map_some, if_true, if_false, decide_true, decide_false, true_and, and_true, Bool.not_true, Bool.not_false, Bool.false_eq_true, not_false_eq_true, not_true_eq_false, Nat.reduceLT, Nat.reduceBEq, Nat.reduceEqDiff, Nat.reduceAdd, Int.reduceEq, Int.reduceLT, Int.reduceLE, Int.reduceGT, Int.reduceGE, beq_self_eq_true, List.getElem?_toArray, List.getElem?_cons_zero, List.getElem?_cons_succ, List.append_nil, List.nil_append, List.cons_append, List.append_eq, h22, h23]
    refine condK_of (fun g => ?_) (fun g => ?_)
    rotate_left
    · simp only [RS, xs_some, Option.bind_some, Option.map_some, if_true, if_false, decide_true, decide_false, true_and, and_true, Bool.not_true, Bool.not_false, Bool.false_eq_true, not_false_eq_true, not_true_eq_false, Nat.reduceLT, Nat.reduceBEq, Nat.reduceEqDiff, Nat.reduceAdd, Int.reduceEq, Int.reduceLT, Int.reduceLE, Int.reduceGT, Int.reduceGE, beq_self_eq_true, List.getElem?_toArray, List.getElem?_cons_zero, List.getElem?_cons_succ, List.append_nil, List.nil_append, List.cons_append, List.append_eq]
      have : i = texts.length := by omega
      subst this
      have hM' := hM
      rw [List.take_length] at hs
      rw [List.take_length, show (ordL texts).take texts.length = ordL texts by rw [← ordL_len texts, List.take_length]] at hM'
      exact .inl ⟨rfl, h0, h1, h5, w, fo, fo2, h6, hM', hs⟩
    obtain ⟨x, hx⟩ := get_lt (l := texts) (i := i) (by omega)
    obtain ⟨b, o, c, g3, g4, g5⟩ := h.at (P := Try.prog) (k := .i64) (nsOn hm hM.fr) Try.underlying33 sz38 ag38 hx
    have hv : Slc eU8 m c x := by rw [eSl_W] at g5; exact g5
    simp only [RS, xs_some, Option.bind_some, Option.map_some, if_true, if_false, decide_true, decide_false, true_and, and_true, Bool.not_true, Bool.not_false, Bool.false_eq_true, not_false_eq_true, not_true_eq_false, Nat.reduceLT, Nat.reduceBEq, Nat.reduceEqDiff, Nat.reduceAdd, Int.reduceEq, Int.reduceLT, Int.reduceLE, Int.reduceGT, Int.reduceGE, beq_self_eq_true, List.getElem?_toArray, List.getElem?_cons_zero, List.getElem?_cons_succ, List.append_nil, List.nil_append, List.cons_append, List.append_eq, h21, h23, g3, g4]
    have hlx := fun B => hv.len (P := Try.prog) Try.underlying38 B
    simp only [RS, xs_some, Option.bind_some, Option.map_some, if_true, if_false, decide_true, decide_false, true_and, and_true, Bool.not_true, Bool.not_false, Bool.false_eq_true, not_false_eq_true, not_true_eq_false, Nat.reduceLT, Nat.reduceBEq, Nat.reduceEqDiff, Nat.reduceAdd, Int.reduceEq, Int.reduceLT, Int.reduceLE, Int.reduceGT, Int.reduceGE, beq_self_eq_true, List.getElem?_toArray, List.getElem?_cons_zero, List.getElem?_cons_succ, List.append_nil, List.nil_append, List.cons_append, List.append_eq, hlx]
    refine condK_of (fun g6 => ?_) (fun g6 => ?_)
    · simp only [RS, xs_some, Option.bind_some, Option.map_some, if_true, if_false, decide_true, decide_false, true_and, and_true, Bool.not_true, Bool.not_false, Bool.false_eq_true, not_false_eq_true, not_true_eq_false, Nat.reduceLT, Nat.reduceBEq, Nat.reduceEqDiff, Nat.reduceAdd, Int.reduceEq, Int.reduceLT, Int.reduceLE, Int.reduceGT, Int.reduceGE, beq_self_eq_true, List.getElem?_toArray, List.getElem?_cons_zero, List.getElem?_cons_succ, List.append_nil, List.nil_append, List.cons_append, List.append_eq]
      exact .inr rfl
    simp only [RS, xs_some, Option.bind_some, Option.map_some, if_true, if_false, decide_true, decide_false, true_and, and_true, Bool.not_true, Bool.not_false, Bool.false_eq_true, not_false_eq_true, not_true_eq_false, Nat.reduceLT, Nat.reduceBEq, Nat.reduceEqDiff, Nat.reduceAdd, Int.reduceEq, Int.reduceLT, Int.reduceLE, Int.reduceGT, Int.reduceGE, beq_self_eq_true, List.getElem?_toArray, List.getElem?_cons_zero, List.getElem?_cons_succ, List.append_nil, List.nil_append, List.cons_append, List.append_eq, h5, bldPl0, bldOrd hv]
    have wB := hM.fr.wf hw
    have hlt : ((ordL texts).take i).length = i := by rw [List.length_take, ordL_len]; omega
    obtain ⟨_, C, k1, rfl, k2, fo', k3, k4⟩ := put_spec (x := ordM i x) wB hM.tt hM.po (nsOn hm hM.fr) hv (by show x.length ≤ _; omega)
    have hM1 := hM.post hw k2 k3 k4
    obtain ⟨pL, pC⟩ := putL_small (l := (ordL texts).take i) (by omega) (ordM i x)
    rw [pL, ← take_snoc (ordL_get hx)] at hM1
    rw [pC] at k1
    refine run_call1 k1 ?_
    have wC := hM1.fr.wf hw
    obtain ⟨w', D, fo2', n1, n2⟩ := hM1.want hw x (by rw [List.length_take]; omega)
    rw [← take_snoc hx] at n2
    have g7 := cnv_text (P := Try.prog) (s := 38) (d := 9) (by decide) hv (nsOn hm hM1.fr) Try.underlying38 Try.underlying5 Try.underlying9
    simp only [RS, xs_some, Option.bind_some, Option.map_some, if_true, if_false, decide_true, decide_false, true_and, and_true, Bool.not_true, Bool.not_false, Bool.false_eq_true, not_false_eq_true, not_true_eq_false, Nat.reduceLT, Nat.reduceBEq, Nat.reduceEqDiff, Nat.reduceAdd, Int.reduceEq, Int.reduceLT, Int.reduceLE, Int.reduceGT, Int.reduceGE, beq_self_eq_true, List.getElem?_toArray, List.getElem?_cons_zero, List.getElem?_cons_succ, List.append_nil, List.nil_append, List.cons_append, List.append_eq, h6, g7, bslStr, n1, h23]
    refine ⟨texts.length - (i + 1), by omega, h0, h1, h5, h21, h22, i + 1, w', fo', fo2', rfl, by omega, by rw [wrapS (by omega)], rfl, n2, fun b hb => ?_⟩
    rcases mem_take_succ hx hb with hb | rfl
    · exact hs b hb
    · omega
  · rintro z e B hz (⟨rfl, h0, h1, h5, w, fo, fo2, h6, hM, hs⟩ | ⟨rfl, h4⟩)
    rotate_left
    · simp only [RS, xs_some, Option.bind_some, Option.map_some, if_true, if_false, decide_true, decide_false, true_and, and_true, Bool.not_true, Bool.not_false, Bool.false_eq_true, not_false_eq_true, not_true_eq_false, Nat.reduceLT, Nat.reduceBEq, Nat.reduceEqDiff, Nat.reduceAdd, Int.reduceEq, Int.reduceLT, Int.reduceLE, Int.reduceGT, Int.reduceGE, beq_self_eq_true, List.getElem?_toArray, List.getElem?_cons_zero, List.getElem?_cons_succ, List.append_nil, List.nil_append, List.cons_append, List.append_eq, h4]
    simp only [RS, xs_some, Option.bind_some, Option.map_some, if_true, if_false, decide_true, decide_false, true_and, and_true, Bool.not_true, Bool.not_false, Bool.false_eq_true, not_false_eq_true, not_true_eq_false, Nat.reduceLT, Nat.reduceBEq, Nat.reduceEqDiff, Nat.reduceAdd, Int.reduceEq, Int.reduceLT, Int.reduceLE, Int.reduceGT, Int.reduceGE, beq_self_eq_true, List.getElem?_toArray, List.getElem?_cons_zero, List.getElem?_cons_succ, List.append_nil, List.nil_append, List.cons_append, List.append_eq, h0, h1, h5]
    have wB := hM.fr.wf hw
    obtain ⟨_, C, k1, rfl, k2, fo', k3, k4⟩ := twice_spec (i := tw) wB hM.tt hM.po (fun x hx => by obtain ⟨i, b, q, rfl⟩ := ordL_mem hx; have := hs b q; show b.length ≤ _; omega) (by rw [ordL_len]; omega)
    have hM1 := hM.post hw k2 k3 k4
    refine run_call1 k1 ?_
    simp only [RS, xs_some, Option.bind_some, Option.map_some, if_true, if_false, decide_true, decide_false, true_and, and_true, Bool.not_true, Bool.not_false, Bool.false_eq_true, not_false_eq_true, not_true_eq_false, Nat.reduceLT, Nat.reduceBEq, Nat.reduceEqDiff, Nat.reduceAdd, Int.reduceEq, Int.reduceLT, Int.reduceLE, Int.reduceGT, Int.reduceGE, beq_self_eq_true, List.getElem?_toArray, List.getElem?_cons_zero, List.getElem?_cons_succ, List.append_nil, List.nil_append, List.cons_append, List.append_eq, h0, h1, h5]
    have hok : (0 ≤ tw ∧ tw < texts.length → ∃ x, texts[tw.toNat]? = some x ∧ twL (ordL texts) tw = ordL texts ++ [ordM tw.toNat x]) ∧ (¬ (0 ≤ tw ∧ tw < texts.length) → twL (ordL texts) tw = ordL texts ∧ twC (ordL texts) tw = 4) := by
      refine ⟨fun ⟨q1, q2⟩ => ?_, fun q => ?_⟩
      · obtain ⟨x, hx⟩ := get_lt (l := texts) (i := tw.toNat) (by omega)
        refine ⟨x, hx, ?_⟩
        unfold twL; rw [if_neg (by omega), ordL_get hx]
        exact (putL_small (by rw [ordL_len]; omega) _).1
      · have e : (if tw < 0 then none else (ordL texts)[tw.toNat]?) = none := by
          split
          · rfl
          · exact List.getElem?_eq_none (by rw [ordL_len]; omega)
        unfold twL twC; rw [e]; exact ⟨rfl, rfl⟩
    refine contG_cut2 (fun z e B => (Is z .normal ∧ e.get 5 = .ptr bp 0 ∧ ∃ (w : V) (fo fo2 : Option Nat) (L : List PM) (wl : List Bts), e.get 6 = w ∧ Mid A B bp fo fo2 L w wl ∧ L.map (·.b) = wl ∧ L.length ≤ 21)) ?_ ?_
    · by_cases q : 0 ≤ tw ∧ tw < texts.length
      · obtain ⟨x, hx, q2⟩ := hok.1 q
        rw [q2] at hM1
        obtain ⟨q0, q1⟩ := q
        obtain ⟨j, rfl⟩ := Int.eq_ofNat_of_zero_le q0
        have hx : texts[j]? = some x := hx
        have e1 : decide ((j : Int) ≥ 0) = true := decide_eq_true q0
        have e2 : decide ((j : Int) < (texts.length : Int)) = true := decide_eq_true q1
        obtain ⟨b, o, c, g3, g4, g5⟩ := h.at (P := Try.prog) (k := .i64) (nsOn hm hM1.fr) Try.underlying33 sz38 ag38 hx
        have hv : Slc eU8 m c x := by rw [eSl_W] at g5; exact g5
        have g7 := cnv_text (P := Try.prog) (s := 38) (d := 9) (by decide) hv (nsOn hm hM1.fr) Try.underlying38 Try.underlying5 Try.underlying9
        obtain ⟨w', D, fo2', n1, n2⟩ := hM1.want hw x (by omega)
        simp only [RS, xs_some, Option.bind_some, Option.map_some, if_true, if_false, decide_true, decide_false, true_and, and_true, Bool.not_true, Bool.not_false, Bool.false_eq_true, not_false_eq_true, not_true_eq_false, Nat.reduceLT, Nat.reduceBEq, Nat.reduceEqDiff, Nat.reduceAdd, Int.reduceEq, Int.reduceLT, Int.reduceLE, Int.reduceGT, Int.reduceGE, beq_self_eq_true, List.getElem?_toArray, List.getElem?_cons_zero, List.getElem?_cons_succ, List.append_nil, List.nil_append, List.cons_append, List.append_eq, e1, h0, h1, hlen, e2, h6, g3, g4, g7, bslStr, n1]
        refine ⟨rfl, h5, w', fo', fo2', _, _, rfl, n2, ?_, by simp [ordL_len]; omega⟩
        rw [List.map_append, ordL_b]; rfl
      · obtain ⟨q2, q3⟩ := hok.2 q
        rw [q2] at hM1
        have fin : C = C := rfl
        by_cases q0 : 0 ≤ tw
        · have e1 : decide (tw ≥ 0) = true := decide_eq_true q0
          have e2 : decide (tw < (texts.length : Int)) = false := decide_eq_false (by omega)
          simp only [RS, xs_some, Option.bind_some, Option.map_some, if_true, if_false, decide_true, decide_false, true_and, and_true, Bool.not_true, Bool.not_false, Bool.false_eq_true, not_false_eq_true, not_true_eq_false, Nat.reduceLT, Nat.reduceBEq, Nat.reduceEqDiff, Nat.reduceAdd, Int.reduceEq, Int.reduceLT, Int.reduceLE, Int.reduceGT, Int.reduceGE, beq_self_eq_true, List.getElem?_toArray, List.getElem?_cons_zero, List.getElem?_cons_succ, List.append_nil, List.nil_append, List.cons_append, List.append_eq, e1, h0, h1, hlen, e2, q3]
          exact ⟨rfl, h5, w, fo', fo2, _, _, h6, hM1, ordL_b _, by rw [ordL_len]; omega⟩
        · have e1 : decide (tw ≥ 0) = false := decide_eq_false (by omega)
          simp only [RS, xs_some, Option.bind_some, Option.map_some, if_true, if_false, decide_true, decide_false, true_and, and_true, Bool.not_true, Bool.not_false, Bool.false_eq_true, not_false_eq_true, not_true_eq_false, Nat.reduceLT, Nat.reduceBEq, Nat.reduceEqDiff, Nat.reduceAdd, Int.reduceEq, Int.reduceLT, Int.reduceLE, Int.reduceGT, Int.reduceGE, beq_self_eq_true, List.getElem?_toArray, List.getElem?_cons_zero, List.getElem?_cons_succ, List.append_nil, List.nil_append, List.cons_append, List.append_eq, e1, q3]
          exact ⟨rfl, h5, w, fo', fo2, _, _, h6, hM1, ordL_b _, by rw [ordL_len]; omega⟩
    · rintro z e C ⟨rfl, h5, w, fo, fo2, L, wl, h6, hM, hL, hLn⟩
      have hwl : wl.length = L.length := by rw [← hL, List.length_map]
      have hlw := lst_len hM.ls
      simp only [RS, xs_some, Option.bind_some, Option.map_some, if_true, if_false, decide_true, decide_false, true_and, and_true, Bool.not_true, Bool.not_false, Bool.false_eq_true, not_false_eq_true, not_true_eq_false, Nat.reduceLT, Nat.reduceBEq, Nat.reduceEqDiff, Nat.reduceAdd, Int.reduceEq, Int.reduceLT, Int.reduceLE, Int.reduceGT, Int.reduceGE, beq_self_eq_true, List.getElem?_toArray, List.getElem?_cons_zero, List.getElem?_cons_succ, List.append_nil, List.nil_append, List.cons_append, List.append_eq, h6, hlw]
      refine run_loop_j (fun n e B => e.get 5 = .ptr bp 0 ∧ e.get 63 = w ∧ e.get 64 = .int .i64 wl.length ∧ ∃ i : Nat, n = wl.length - i ∧ i ≤ wl.length ∧ e.get 65 = .int .i64 i ∧ Mid A B bp fo fo2 (L.drop i) w wl)
        (fun z e B => Is z (.exit 2) ∧ e.get 5 = .ptr bp 0 ∧ Mid A B bp fo fo2 [] w wl)
        ⟨_, h5, rfl, rfl, 0, rfl, by omega, rfl, by simpa using hM⟩ ?_ ?_
      · rintro n e B ⟨h5, h63, h64, i, rfl, hi, h65, hM⟩
        simp only [RS, xs_some, Option.bind_some, Option.map_some, if_true, if_false, decide_true, decide_false, true_and, and_true, Bool.not_true, Bool.not_false, Bool.false_eq_true, not_false_eq_true, not_true_eq_false, Nat.reduceLT, Nat.reduceBEq, Nat.reduceEqDiff, Nat.reduceAdd, Int.reduceEq, Int.reduceLT, Int.reduceLE, Int.reduceGT, Int.reduceGE, beq_self_eq_true, List.getElem?_toArray, List.getElem?_cons_zero, List.getElem?_cons_succ, List.append_nil, List.nil_append, List.cons_append, List.append_eq, h64, h65]
        refine condK_of (fun g => ?_) (fun g => ?_)
        rotate_left
        · simp only [RS, xs_some, Option.bind_some, Option.map_some, if_true, if_false, decide_true, decide_false, true_and, and_true, Bool.not_true, Bool.not_false, Bool.false_eq_true, not_false_eq_true, not_true_eq_false, Nat.reduceLT, Nat.reduceBEq, Nat.reduceEqDiff, Nat.reduceAdd, Int.reduceEq, Int.reduceLT, Int.reduceLE, Int.reduceGT, Int.reduceGE, beq_self_eq_true, List.getElem?_toArray, List.getElem?_cons_zero, List.getElem?_cons_succ, List.append_nil, List.nil_append, List.cons_append, List.append_eq]
          have : i = L.length := by omega
          rw [this, List.drop_length] at hM
          exact ⟨rfl, h5, hM⟩
        obtain ⟨x, hx⟩ := get_lt (l := L) (i := i) (by omega)
        have hxw : wl[i]? = some x.b := by rw [← hL, List.getElem?_map, hx]; rfl
        obtain ⟨b, o, c, g3, g4, g5⟩ := hM.ls.at (P := Try.prog) (k := .i64) (Hp.on_emp B) Try.underlying82 sz9 ag9 hxw
        have : c = .str x.b := by simpa [Enc.W, eStr] using g5
        subst this
        obtain ⟨_, C, k1, k2, v, rfl, k3, k4⟩ := take_spec (i := 0) (hM.fr.wf hw) hM.po (by rw [List.length_drop]; omega)
        have e : tkM (L.drop i) 0 = x ∧ tkL (L.drop i) 0 = L.drop (i + 1) ∧ tkC (L.drop i) 0 = 0 := by
          unfold tkM tkL tkC
          rw [if_neg (by omega), if_neg (by omega), if_neg (by rw [List.length_drop]; omega)]
          refine ⟨?_, ?_, rfl⟩
          · show ((L.drop i)[0]?).getD pm0 = x
            rw [List.getElem?_drop, Nat.add_zero, hx]; rfl
          · show (L.drop i).eraseIdx 0 = _
            rw [List.eraseIdx_zero, List.tail_drop]
        rw [e.1, e.2.2] at k1
        rw [e.1] at k3
        rw [e.2.1] at k4
        have hM1 := hM.post hw k2 .rfl' k4
        simp only [RS, xs_some, Option.bind_some, Option.map_some, if_true, if_false, decide_true, decide_false, true_and, and_true, Bool.not_true, Bool.not_false, Bool.false_eq_true, not_false_eq_true, not_true_eq_false, Nat.reduceLT, Nat.reduceBEq, Nat.reduceEqDiff, Nat.reduceAdd, Int.reduceEq, Int.reduceLT, Int.reduceLE, Int.reduceGT, Int.reduceGE, beq_self_eq_true, List.getElem?_toArray, List.getElem?_cons_zero, List.getElem?_cons_succ, List.append_nil, List.nil_append, List.cons_append, List.append_eq, h63, h65, g3, g4, h5]
        refine run_call1 k1 ?_
        obtain ⟨D, s1, s2, s3⟩ := newMl (A := C) (x := x) k3.one
        have s1 : evStore Try.prog 87 (.ptr C.blk.length 0) (.agg (mcl x v)) (C.push ⟨[.bool false, .int .i64 0, .bool false, .int .i64 0, .snil], .var⟩) = some D := s1
        have ld := ldMl s3
        have g7 := cnv_text (P := Try.prog) (s := 38) (d := 9) (by decide) k3 ((qHp_on _ _).fr0 s2) Try.underlying38 Try.underlying5 Try.underlying9
        have fM := faMl C.blk.length
        have eqs : (!(x.b == x.b)) = false := by simp
        simp only [RS, xs_some, Option.bind_some, Option.map_some, if_true, if_false, decide_true, decide_false, true_and, and_true, Bool.not_true, Bool.not_false, Bool.false_eq_true, not_false_eq_true, not_true_eq_false, Nat.reduceLT, Nat.reduceBEq, Nat.reduceEqDiff, Nat.reduceAdd, Int.reduceEq, Int.reduceLT, Int.reduceLE, Int.reduceGT, Int.reduceGE, beq_self_eq_true, List.getElem?_toArray, List.getElem?_cons_zero, List.getElem?_cons_succ, List.append_nil, List.nil_append, List.cons_append, List.append_eq, zc87, s1, fM, ld, g7, eqs, h65]
        exact ⟨wl.length - (i + 1), by omega, h5, h63, h64, i + 1, rfl, by omega, by rw [wrapS (by omega)], hM1.fr0 s2⟩
      · rintro z e B hz ⟨rfl, h5, hM⟩
        simp only [RS, xs_some, Option.bind_some, Option.map_some, if_true, if_false, decide_true, decide_false, true_and, and_true, Bool.not_true, Bool.not_false, Bool.false_eq_true, not_false_eq_true, not_true_eq_false, Nat.reduceLT, Nat.reduceBEq, Nat.reduceEqDiff, Nat.reduceAdd, Int.reduceEq, Int.reduceLT, Int.reduceLE, Int.reduceGT, Int.reduceGE, beq_self_eq_true, List.getElem?_toArray, List.getElem?_cons_zero, List.getElem?_cons_succ, List.append_nil, List.nil_append, List.cons_append, List.append_eq, h5]
        obtain ⟨_, C, k1, k2, v, rfl, k3, k4⟩ := take_spec (i := 0) (hM.fr.wf hw) hM.po (by simp)
        have e : tkC [] 0 = 4 := rfl
        rw [e] at k1
        refine run_call1 k1 ?_
        obtain ⟨D, s1, s2, s3⟩ := newMl (A := C) (x := tkM [] 0) k3.one
        have s1 : evStore Try.prog 87 (.ptr C.blk.length 0) (.agg (mcl (tkM [] 0) v)) (C.push ⟨[.bool false, .int .i64 0, .bool false, .int .i64 0, .snil], .var⟩) = some D := s1
        obtain ⟨_, E, u1, rfl, rfl⟩ := len_spec (k4.fr0 s2)
        simp only [RS, xs_some, Option.bind_some, Option.map_some, if_true, if_false, decide_true, decide_false, true_and, and_true, Bool.not_true, Bool.not_false, Bool.false_eq_true, not_false_eq_true, not_true_eq_false, Nat.reduceLT, Nat.reduceBEq, Nat.reduceEqDiff, Nat.reduceAdd, Int.reduceEq, Int.reduceLT, Int.reduceLE, Int.reduceGT, Int.reduceGE, beq_self_eq_true, List.getElem?_toArray, List.getElem?_cons_zero, List.getElem?_cons_succ, List.append_nil, List.nil_append, List.cons_append, List.append_eq, zc87, s1, h5]
        refine run_call1 u1 ?_
        simp only [RS, xs_some, Option.bind_some, Option.map_some, if_true, if_false, decide_true, decide_false, true_and, and_true, Bool.not_true, Bool.not_false, Bool.false_eq_true, not_false_eq_true, not_true_eq_false, Nat.reduceLT, Nat.reduceBEq, Nat.reduceEqDiff, Nat.reduceAdd, Int.reduceEq, Int.reduceLT, Int.reduceLE, Int.reduceGT, Int.reduceGE, beq_self_eq_true, List.getElem?_toArray, List.getElem?_cons_zero, List.getElem?_cons_succ, List.append_nil, List.nil_append, List.cons_append, List.append_eq]
        exact rfl
end Go.Sv.Try
