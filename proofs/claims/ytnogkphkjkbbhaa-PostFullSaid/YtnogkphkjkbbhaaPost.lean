/- Mails on their way: what is put, taken, comes twice. -/
import Derived.Test.YtnogkphkjkbbhaaSv4
import Derived.Test.YtnogkphkjkbbhaaLaws
namespace Go.Sv.Try
open Go Go.Proofs
set_option linter.unusedVariables false
set_option linter.unusedSimpArgs false
structure PM where
  fc : Bool
  fn : Int
  tc : Bool
  tn : Int
  b : Bts
def mcl (x : PM) (v : V) : List V := [.bool x.fc, .int .i64 x.fn, .bool x.tc, .int .i64 x.tn, v]
def rcl (x : PM) : List V := [.bool x.fc, .bool x.tc, .int .i64 x.fn, .int .i64 x.tn, .str x.b]
def eMail : Enc PM := ⟨5, true, fun m cs x => ∃ v, cs = mcl x v ∧ Slc eU8 m v x.b, fun ⟨v, h, _⟩ => by rw [h]; rfl, fun h => by simp at h, fun ⟨v, h, q⟩ => by rw [h]; simp only [mcl, List.all_cons, List.all_nil, q.one]; rfl, fun hm ⟨v, h, q⟩ => ⟨v, h, q.mono hm⟩⟩
def eRM : Enc PM := ⟨5, true, fun _ cs x => cs = rcl x, fun h => by rw [h]; rfl, fun h => by simp at h, fun h => by rw [h]; simp [rcl, V.one], fun _ h => h⟩
theorem eMail_W {m : Hp} {w : V} {x : PM} : eMail.W m w x ↔ ∃ v, w = .agg (mcl x v) ∧ Slc eU8 m v x.b := by
  unfold Enc.W; rw [if_pos (by rfl)]
  exact ⟨fun ⟨cs, h, v, h1, h2⟩ => ⟨v, by rw [h, h1], h2⟩, fun ⟨v, h, h2⟩ => ⟨_, h, v, rfl, h2⟩⟩
def pm0 : PM := ⟨false, 0, false, 0, []⟩
def exF (fo : Option Nat) (X : Nat → Prop) (f : Nat) : Prop := fo = some f ∨ X f
def PostIs (X : Nat → Prop) (A : AS) (bp : Nat) (fo : Option Nat) (l : List PM) : Prop := ∃ w, A.blk[bp]? = some ⟨[w], .var⟩ ∧ Lst eMail (qHp (exF fo X) A) A w l fo
def postS (A : AS) (bp : Nat) (fo : Option Nat) : Loc → Prop := fun x => x = .row bp ∨ inFamO A fo x
theorem PostIs.fr {X : Nat → Prop} {A A' : AS} {bp : Nat} {fo : Option Nat} {l : List PM} {S : Loc → Prop} (h : PostIs X A bp fo l) (hf : Fr S A A') (hw : WF A) (hT : Tch X A S) (hO : Off fo A S) (hb : ¬ S (.row bp)) : PostIs X A' bp fo l := by
  obtain ⟨w, h1, h2⟩ := h
  exact ⟨w, hf.row _ _ h1 hb, (h2.fr hf hO).mono (qHp_fr hf (hT.mono fun f q => .inr q) hw fun f q => .inl q)⟩
theorem PostIs.fr0 {X : Nat → Prop} {A A' : AS} {bp : Nat} {fo : Option Nat} {l : List PM} (h : PostIs X A bp fo l) (hf : Fr S0 A A') : PostIs X A' bp fo l := by
  obtain ⟨w, h1, h2⟩ := h
  exact ⟨w, hf.row _ _ h1 fun q => q, (h2.fr0 hf).mono (qHp_fr0 hf)⟩
theorem PostIs.famLt {X : Nat → Prop} {A : AS} {bp : Nat} {fo : Option Nat} {l : List PM} (h : PostIs X A bp fo l) : ∀ f, fo = some f → f < A.blk.length := by
  obtain ⟨w, h1, h2⟩ := h; exact h2.famLt
def putL (l : List PM) (x : PM) : List PM := if l.length ≥ 600 then l else l ++ [x]
def putC (l : List PM) : Int := if l.length ≥ 600 then 3 else 0
theorem faPo (b : Nat) : evFieldAddr Try.prog 81 (.ptr b 0) 0 = some (.ptr b 0) := by kernel_rfl
theorem faMl (b : Nat) : evFieldAddr Try.prog 87 (.ptr b 0) 0 = some (.ptr b 0) ∧ evFieldAddr Try.prog 87 (.ptr b 0) 1 = some (.ptr b 2) ∧ evFieldAddr Try.prog 87 (.ptr b 0) 2 = some (.ptr b 4) := ⟨by kernel_rfl, by kernel_rfl, by kernel_rfl⟩
theorem bslML (cs : List V) (h : cs.length = 5) : bsl Try.prog 79 1 (some [(0, .agg cs)]) = some (.newSl cs 1 5) := bsl_one Try.underlying79 sz87 zc87 rfl h (by decide)
theorem ldMl {A : AS} {b : Nat} {k : BK} {x : PM} {v : V} (h : A.blk[b]? = some ⟨mcl x v, k⟩) : evLoad Try.prog 4 (.ptr b 0) A = some (.bool x.fc) ∧ evLoad Try.prog 3 (.ptr b 1) A = some (.int .i64 x.fn) ∧ evLoad Try.prog 4 (.ptr b 2) A = some (.bool x.tc) ∧ evLoad Try.prog 3 (.ptr b 3) A = some (.int .i64 x.tn) ∧ evLoad Try.prog 38 (.ptr b 4) A = some v ∧ evLoad Try.prog 87 (.ptr b 0) A = some (.agg (mcl x v)) := by
  refine ⟨?_, ?_, ?_, ?_, ?_, ?_⟩
  · rw [load_at ag4 h]; rfl
  · rw [load_at ag3 h]; rfl
  · rw [load_at ag4 h]; rfl
  · rw [load_at ag3 h]; rfl
  · rw [load_at ag38 h]; rfl
  · rw [load_agg ag87 sz87]
    unfold AS.range; rw [h]; rfl
set_option maxRecDepth 10000 in
set_option maxHeartbeats 16000000 in
theorem put_spec {X : Nat → Prop} {A : AS} {bp : Nat} {fo : Option Nat} {l : List PM} {x : PM} {v : V} {m2 : Hp} (hw : WF A) (hX : ∀ f, X f → f < A.blk.length) (h : PostIs X A bp fo l) (hm2 : m2.on A) (hv : Slc eU8 m2 v x.b) (hb : x.b.length ≤ 1000000000000) :
    ∃ w A', EvF Try.prog HH 38 [.ptr bp 0, .agg (mcl x v)] A w A' ∧ w = .int .i64 (putC l) ∧ Fr (postS A bp fo) A A' ∧ ∃ fo', Gr A fo fo' ∧ PostIs X A' bp fo' (putL l x) := by
  refine run_fn2 rfl Try.func38 (by unfold Try.f38; rfl) Try.ntmps38 (by unfold Try.f38; rfl) (by simp) ?_
  simp only [RS, xs_some, Option.bind_some, Option.map_some, if_true, if_false, decide_true, decide_false, true_and, and_true, Bool.not_true, Bool.not_false, Bool.false_eq_true, not_false_eq_true, not_true_eq_false, Nat.reduceLT, Nat.reduceBEq, Nat.reduceEqDiff, Nat.reduceAdd, Int.reduceEq, Int.reduceLT, Int.reduceLE, Int.reduceGT, Int.reduceGE, beq_self_eq_true, List.getElem?_toArray, List.getElem?_cons_zero, List.getElem?_cons_succ, List.append_nil, List.nil_append, List.cons_append, List.append_eq]
  obtain ⟨A1, e1, f1, r1, n1⟩ := new_var A (mcl x v)
  rw [← e1]
  obtain ⟨bx, hbx⟩ : ∃ b, b = A.blk.length := ⟨_, rfl⟩
  rw [← hbx] at r1 ⊢
  have w1 := f1.wf hw
  have h1 := h.fr0 f1
  obtain ⟨w, hbox, hl⟩ := h1
  have hlen := fun B => hl.len (P := Try.prog) Try.underlying79 B
  have ldp : evLoad Try.prog 79 (.ptr bp 0) A1 = some w := load_one ag79 hbox
  simp only [RS, xs_some, Option.bind_some, Option.map_some, if_true, if_false, decide_true, decide_false, true_and, and_true, Bool.not_true, Bool.not_false, Bool.false_eq_true, not_false_eq_true, not_true_eq_false, Nat.reduceLT, Nat.reduceBEq, Nat.reduceEqDiff, Nat.reduceAdd, Int.reduceEq, Int.reduceLT, Int.reduceLE, Int.reduceGT, Int.reduceGE, beq_self_eq_true, List.getElem?_toArray, List.getElem?_cons_zero, List.getElem?_cons_succ, List.append_nil, List.nil_append, List.cons_append, List.append_eq, faPo, ldp, hlen]
  refine condK_of (fun g => ?_) (fun g => ?_)
  · simp only [RS, xs_some, Option.bind_some, Option.map_some, if_true, if_false, decide_true, decide_false, true_and, and_true, Bool.not_true, Bool.not_false, Bool.false_eq_true, not_false_eq_true, not_true_eq_false, Nat.reduceLT, Nat.reduceBEq, Nat.reduceEqDiff, Nat.reduceAdd, Int.reduceEq, Int.reduceLT, Int.reduceLE, Int.reduceGT, Int.reduceGE, beq_self_eq_true, List.getElem?_toArray, List.getElem?_cons_zero, List.getElem?_cons_succ, List.append_nil, List.nil_append, List.cons_append, List.append_eq]
    have e : (l.length ≥ 600) := by omega
    exact ⟨by unfold putC; rw [if_pos e], f1.mono fun _ q => q.elim, fo, .inl rfl, by unfold putL; rw [if_pos e]; exact ⟨w, hbox, hl⟩⟩
  · have e : ¬ (l.length ≥ 600) := by omega
    obtain ⟨v', A2, f2, y1, y2, y3, y4⟩ := copy_new (P := Try.prog) (n := 1) (E := eU8) (t := 38) (tx := 38) rfl w1 sl38 Try.underlying38 hv (hm2.fr0 f1) (by omega) (by omega)
    have r2 := y4.row0 r1
    have fM := faMl bx
    have ld1 := ldMl ((Fr.pushArr A1 []).row0 r1)
    simp only [RS, xs_some, Option.bind_some, Option.map_some, if_true, if_false, decide_true, decide_false, true_and, and_true, Bool.not_true, Bool.not_false, Bool.false_eq_true, not_false_eq_true, not_true_eq_false, Nat.reduceLT, Nat.reduceBEq, Nat.reduceEqDiff, Nat.reduceAdd, Int.reduceEq, Int.reduceLT, Int.reduceLE, Int.reduceGT, Int.reduceGE, beq_self_eq_true, List.getElem?_toArray, List.getElem?_cons_zero, List.getElem?_cons_succ, List.append_nil, List.nil_append, List.cons_append, List.append_eq, fM, ld1, bsl0, y1]
    obtain ⟨A3, s1, s2, s3, s4⟩ := store_var (P := Try.prog) (t := 38) (o := 4) (x := v') r2 y2.cells1 sz38 (by simp [mcl]) (by simp [y2.one])
    have s3 : A3.blk[bx]? = some ⟨mcl x v', .var⟩ := s3
    have f2' := (f1.then0 y4).row_ s2 (by omega)
    have w2 := y4.wf w1
    have w3 := s2.wf w2
    have hbp : bp ≠ bx := fun q => by subst q; rw [hbox] at r1; cases r1
    have b3 := s2.row _ _ (y4.row0 hbox) (fun q => hbp (by cases q; rfl))
    have ld3 := ldMl s3
    have ldp3 : evLoad Try.prog 79 (.ptr bp 0) A3 = some w := load_one ag79 b3
    have h3 : PostIs X A3 bp fo l := (PostIs.fr0 ⟨w, hbox, hl⟩ y4).fr s2 w2 (.box r2) (.box r2) (fun q => hbp (by cases q; rfl))
    obtain ⟨w', b3', l3⟩ := h3
    rw [b3] at b3'; cases b3'
    have hf2 : ¬ exF fo X f2 := fun q => by
      have := f1.len
      rcases q with q | q
      · have := h.famLt _ q; omega
      · have := hX _ q; omega
    have hv3 : Slc eU8 (qHp (exF fo X) A3) v' x.b := (y2.fr s2 (.box r2)).slcQ (m := Hp.emp) (fun b cs q => by simp [Hp.emp] at q) (fun f q => by cases q; exact hf2)
    obtain ⟨v4, A4, fo', p1, p2, p3, p4⟩ := l3.push (P := Try.prog) (t := 79) (tx := 79) (n := 5) rfl sl79 Try.underlying79 w3 (y := x) (cs' := mcl x v') ⟨v', rfl, hv3⟩ (by omega) (by omega)
    have b4 := p3.row _ _ b3 (inFamO_var b3)
    obtain ⟨A5, u1, u2, u3, u4⟩ := store_one (P := Try.prog) (t := 79) (x := v4) b4 p2.cells1 sz79 p2.one
    simp only [RS, xs_some, Option.bind_some, Option.map_some, if_true, if_false, decide_true, decide_false, true_and, and_true, Bool.not_true, Bool.not_false, Bool.false_eq_true, not_false_eq_true, not_true_eq_false, Nat.reduceLT, Nat.reduceBEq, Nat.reduceEqDiff, Nat.reduceAdd, Int.reduceEq, Int.reduceLT, Int.reduceLE, Int.reduceGT, Int.reduceGE, beq_self_eq_true, List.getElem?_toArray, List.getElem?_cons_zero, List.getElem?_cons_succ, List.append_nil, List.nil_append, List.cons_append, List.append_eq, s1]
    rw [pl_38_4, run_plan_id (by rfl)]
    simp only [RS, xs_some, Option.bind_some, Option.map_some, if_true, if_false, decide_true, decide_false, true_and, and_true, Bool.not_true, Bool.not_false, Bool.false_eq_true, not_false_eq_true, not_true_eq_false, Nat.reduceLT, Nat.reduceBEq, Nat.reduceEqDiff, Nat.reduceAdd, Int.reduceEq, Int.reduceLT, Int.reduceLE, Int.reduceGT, Int.reduceGE, beq_self_eq_true, List.getElem?_toArray, List.getElem?_cons_zero, List.getElem?_cons_succ, List.append_nil, List.nil_append, List.cons_append, List.append_eq, faPo, ldp3, ld3, bslML _ (show (mcl x v').length = 5 from rfl), p1, u1]
    refine ⟨by unfold putC; rw [if_neg e], ?_, fo', p4.from (by have := f2'.len; omega), v4, u3, ?_⟩
    · refine ((f2'.mono fun _ q => q.elim : Fr (postS A bp fo) A A3).trans p3 fun z q => (inFamO_back f2' q).imp .inr id).trans u2 fun z q => .inl (.inl q)
    · unfold putL; rw [if_neg e]
      refine (p2.fr u2 (.box b4)).mono (Hp.le_trans (qHp_fr (X := exF fo X) p3 (.famO fun f q => .inl q) w3 (Y := exF fo' X) fun f q => ?_) (qHp_fr u2 (.box b4) (p3.wf w3) fun f q => .inl q))
      exact q.elim (fun q => (p4.or q).imp .inl id) fun q => .inl (.inr q)
theorem len_spec {X : Nat → Prop} {A : AS} {bp : Nat} {fo : Option Nat} {l : List PM} (h : PostIs X A bp fo l) : ∃ w A', EvF Try.prog HH 41 [.ptr bp 0] A w A' ∧ A' = A ∧ w = .int .i64 l.length := by
  refine run_fn2 rfl Try.func41 (by unfold Try.f41; rfl) Try.ntmps41 (by unfold Try.f41; rfl) (by simp) ?_
  obtain ⟨w, hbox, hl⟩ := h
  have hlen := fun B => hl.len (P := Try.prog) Try.underlying79 B
  have ldp : evLoad Try.prog 79 (.ptr bp 0) A = some w := load_one ag79 hbox
  simp only [RS, xs_some, Option.bind_some, Option.map_some, if_true, if_false, decide_true, decide_false, true_and, and_true, Bool.not_true, Bool.not_false, Bool.false_eq_true, not_false_eq_true, not_true_eq_false, Nat.reduceLT, Nat.reduceBEq, Nat.reduceEqDiff, Nat.reduceAdd, Int.reduceEq, Int.reduceLT, Int.reduceLE, Int.reduceGT, Int.reduceGE, beq_self_eq_true, List.getElem?_toArray, List.getElem?_cons_zero, List.getElem?_cons_succ, List.append_nil, List.nil_append, List.cons_append, List.append_eq, faPo, ldp, hlen]
def twL (l : List PM) (i : Int) : List PM := match (if i < 0 then none else l[i.toNat]?) with | none => l | some x => putL l x
def twC (l : List PM) (i : Int) : Int := match (if i < 0 then none else l[i.toNat]?) with | none => 4 | some _ => putC l
def tkL (l : List PM) (i : Int) : List PM := if i < 0 then l else l.eraseIdx i.toNat
def tkM (l : List PM) (i : Int) : PM := ((if i < 0 then none else l[i.toNat]?) : Option PM).getD pm0
def tkC (l : List PM) (i : Int) : Int := if i < 0 ∨ (l.length : Int) ≤ i then 4 else 0
set_option maxRecDepth 10000 in
set_option maxHeartbeats 16000000 in
theorem twice_spec {X : Nat → Prop} {A : AS} {bp : Nat} {fo : Option Nat} {l : List PM} {i : Int} (hw : WF A) (hX : ∀ f, X f → f < A.blk.length) (h : PostIs X A bp fo l) (hb : ∀ x ∈ l, x.b.length ≤ 1000000000000) (hl : l.length ≤ 1000000) :
    ∃ w A', EvF Try.prog HH 39 [.ptr bp 0, .int .i64 i] A w A' ∧ w = .int .i64 (twC l i) ∧ Fr (postS A bp fo) A A' ∧ ∃ fo', Gr A fo fo' ∧ PostIs X A' bp fo' (twL l i) := by
  refine run_fn2 rfl Try.func39 (by unfold Try.f39; rfl) Try.ntmps39 (by unfold Try.f39; rfl) (by simp) ?_
  obtain ⟨w, hbox, hl'⟩ := h
  have hlen := fun B => hl'.len (P := Try.prog) Try.underlying79 B
  have ldp : evLoad Try.prog 79 (.ptr bp 0) A = some w := load_one ag79 hbox
  have out : (if i < 0 then none else l[i.toNat]?) = none → (V.int .i64 4 = .int .i64 (twC l i) ∧ Fr (postS A bp fo) A A ∧ ∃ fo', Gr A fo fo' ∧ PostIs X A bp fo' (twL l i)) := fun q =>
    ⟨by unfold twC; rw [q], .refl _ _, fo, .inl rfl, by unfold twL; rw [q]; exact ⟨w, hbox, hl'⟩⟩
  simp only [RS, xs_some, Option.bind_some, Option.map_some, if_true, if_false, decide_true, decide_false, true_and, and_true, Bool.not_true, Bool.not_false, Bool.false_eq_true, not_false_eq_true, not_true_eq_false, Nat.reduceLT, Nat.reduceBEq, Nat.reduceEqDiff, Nat.reduceAdd, Int.reduceEq, Int.reduceLT, Int.reduceLE, Int.reduceGT, Int.reduceGE, beq_self_eq_true, List.getElem?_toArray, List.getElem?_cons_zero, List.getElem?_cons_succ, List.append_nil, List.nil_append, List.cons_append, List.append_eq]
  refine contG_of (fun g => ?_) (fun g => ?_)
  · simp only [RS, xs_some, Option.bind_some, Option.map_some, if_true, if_false, decide_true, decide_false, true_and, and_true, Bool.not_true, Bool.not_false, Bool.false_eq_true, not_false_eq_true, not_true_eq_false, Nat.reduceLT, Nat.reduceBEq, Nat.reduceEqDiff, Nat.reduceAdd, Int.reduceEq, Int.reduceLT, Int.reduceLE, Int.reduceGT, Int.reduceGE, beq_self_eq_true, List.getElem?_toArray, List.getElem?_cons_zero, List.getElem?_cons_succ, List.append_nil, List.nil_append, List.cons_append, List.append_eq, g]
    have e := out (by rw [if_pos (by omega)])
    exact e
  simp only [RS, xs_some, Option.bind_some, Option.map_some, if_true, if_false, decide_true, decide_false, true_and, and_true, Bool.not_true, Bool.not_false, Bool.false_eq_true, not_false_eq_true, not_true_eq_false, Nat.reduceLT, Nat.reduceBEq, Nat.reduceEqDiff, Nat.reduceAdd, Int.reduceEq, Int.reduceLT, Int.reduceLE, Int.reduceGT, Int.reduceGE, beq_self_eq_true, List.getElem?_toArray, List.getElem?_cons_zero, List.getElem?_cons_succ, List.append_nil, List.nil_append, List.cons_append, List.append_eq, g, faPo, ldp, hlen]
  refine condK_of (fun g2 => ?_) (fun g2 => ?_)
  · simp only [RS, xs_some, Option.bind_some, Option.map_some, if_true, if_false, decide_true, decide_false, true_and, and_true, Bool.not_true, Bool.not_false, Bool.false_eq_true, not_false_eq_true, not_true_eq_false, Nat.reduceLT, Nat.reduceBEq, Nat.reduceEqDiff, Nat.reduceAdd, Int.reduceEq, Int.reduceLT, Int.reduceLE, Int.reduceGT, Int.reduceGE, beq_self_eq_true, List.getElem?_toArray, List.getElem?_cons_zero, List.getElem?_cons_succ, List.append_nil, List.nil_append, List.cons_append, List.append_eq]
    have e := out (by rw [if_neg (by omega)]; exact List.getElem?_eq_none (by omega))
    exact e
  obtain ⟨j, rfl⟩ := Int.eq_ofNat_of_zero_le (show 0 ≤ i by omega)
  obtain ⟨x, hx⟩ := get_lt (l := l) (i := j) (by omega)
  obtain ⟨b, o, c, g3, g4, g5⟩ := hl'.at (P := Try.prog) (k := .i64) (qHp_on _ A) Try.underlying79 sz87 ag87 hx
  obtain ⟨v, rfl, hv⟩ := eMail_W.1 g5
  simp only [RS, xs_some, Option.bind_some, Option.map_some, if_true, if_false, decide_true, decide_false, true_and, and_true, Bool.not_true, Bool.not_false, Bool.false_eq_true, not_false_eq_true, not_true_eq_false, Nat.reduceLT, Nat.reduceBEq, Nat.reduceEqDiff, Nat.reduceAdd, Int.reduceEq, Int.reduceLT, Int.reduceLE, Int.reduceGT, Int.reduceGE, beq_self_eq_true, List.getElem?_toArray, List.getElem?_cons_zero, List.getElem?_cons_succ, List.append_nil, List.nil_append, List.cons_append, List.append_eq, faPo, ldp, g3, g4]
  obtain ⟨u, A', k1, rfl, k2, fo', k3, k4⟩ := put_spec hw hX ⟨w, hbox, hl'⟩ (qHp_on _ A) hv (hb x (List.mem_of_getElem? hx))
  refine run_call1 k1 ?_
  simp only [RS, xs_some, Option.bind_some, Option.map_some, if_true, if_false, decide_true, decide_false, true_and, and_true, Bool.not_true, Bool.not_false, Bool.false_eq_true, not_false_eq_true, not_true_eq_false, Nat.reduceLT, Nat.reduceBEq, Nat.reduceEqDiff, Nat.reduceAdd, Int.reduceEq, Int.reduceLT, Int.reduceLE, Int.reduceGT, Int.reduceGE, beq_self_eq_true, List.getElem?_toArray, List.getElem?_cons_zero, List.getElem?_cons_succ, List.append_nil, List.nil_append, List.cons_append, List.append_eq]
  have e : (if (j : Int) < 0 then none else l[(j : Int).toNat]?) = some x := by rw [if_neg (by omega)]; exact hx
  refine ⟨by unfold twC; rw [e], k2, fo', k3, by unfold twL; rw [e]; exact k4⟩
theorem bldMl0 : evBuild Try.prog 87 [] = some (.agg (mcl pm0 .snil)) := by kernel_rfl
theorem newMl {A : AS} {x : PM} {v : V} (hv : v.one = true) : ∃ A', evStore Try.prog 87 (.ptr A.blk.length 0) (.agg (mcl x v)) (A.push ⟨mcl pm0 .snil, .var⟩) = some A' ∧ Fr S0 A A' ∧ A'.blk[A.blk.length]? = some ⟨mcl x v, .var⟩ := by
  obtain ⟨A2, s1, s2, s3, s4⟩ := new_set (P := Try.prog) A (z := mcl pm0 .snil) (t := 87) (x := .agg (mcl x v)) (cs := mcl x v) rfl sz87 rfl (by simp only [mcl, List.all_cons, List.all_nil, hv]; rfl)
  exact ⟨A2, s1, s2, s3⟩
theorem setMl {A : AS} {b : Nat} {x y : PM} {v w : V} (h : A.blk[b]? = some ⟨mcl x v, .var⟩) (hw : w.one = true) : ∃ A', evStore Try.prog 87 (.ptr b 0) (.agg (mcl y w)) A = some A' ∧ Fr (· = .row b) A A' ∧ A'.blk[b]? = some ⟨mcl y w, .var⟩ := by
  obtain ⟨A', s1, s2, s3, s4⟩ := store_var (P := Try.prog) (t := 87) (o := 0) (x := .agg (mcl y w)) (cs := mcl y w) h rfl sz87 (by simp [mcl]) (by simp only [mcl, List.all_cons, List.all_nil, hw]; rfl)
  exact ⟨A', s1, s2, s3⟩
set_option maxRecDepth 10000 in
set_option maxHeartbeats 16000000 in
theorem take_spec {X : Nat → Prop} {A : AS} {bp : Nat} {fo : Option Nat} {l : List PM} {i : Int} (hw : WF A) (h : PostIs X A bp fo l) (hl : l.length ≤ 1000000) :
    ∃ w A', EvF Try.prog HH 40 [.ptr bp 0, .int .i64 i] A w A' ∧ Fr (postS A bp fo) A A' ∧ ∃ v, w = .tup [.agg (mcl (tkM l i) v), .int .i64 (tkC l i)] ∧ Slc eU8 (qHp (exF fo X) A') v (tkM l i).b ∧ PostIs X A' bp fo (tkL l i) := by
  refine run_fn2 rfl Try.func40 (by unfold Try.f40; rfl) Try.ntmps40 (by unfold Try.f40; rfl) (by simp) ?_
  simp only [RS, xs_some, Option.bind_some, Option.map_some, if_true, if_false, decide_true, decide_false, true_and, and_true, Bool.not_true, Bool.not_false, Bool.false_eq_true, not_false_eq_true, not_true_eq_false, Nat.reduceLT, Nat.reduceBEq, Nat.reduceEqDiff, Nat.reduceAdd, Int.reduceEq, Int.reduceLT, Int.reduceLE, Int.reduceGT, Int.reduceGE, beq_self_eq_true, List.getElem?_toArray, List.getElem?_cons_zero, List.getElem?_cons_succ, List.append_nil, List.nil_append, List.cons_append, List.append_eq, zc87]
  obtain ⟨A1, e1, f1, r1, n1⟩ := new_var A (mcl pm0 .snil)
  have e1 : A1 = A.push ⟨[.bool false, .int .i64 0, .bool false, .int .i64 0, .snil], .var⟩ := e1
  rw [← e1]
  obtain ⟨bx, hbx⟩ : ∃ b, b = A.blk.length := ⟨_, rfl⟩
  rw [← hbx] at r1 ⊢
  have w1 := f1.wf hw
  have h1 := h.fr0 f1
  obtain ⟨w, hbox, hl'⟩ := h1
  have hbp : bp ≠ bx := fun q => by subst q; rw [hbox] at r1; cases r1
  have hlen := fun B => hl'.len (P := Try.prog) Try.underlying79 B
  have ldp : evLoad Try.prog 79 (.ptr bp 0) A1 = some w := load_one ag79 hbox
  obtain ⟨A2, s1, s2, s3⟩ := setMl (y := pm0) (w := .snil) r1 rfl
  have out : (i < 0 ∨ (l.length : Int) ≤ i) → Fr (postS A bp fo) A A2 ∧ ∃ v, V.tup [.agg (mcl pm0 .snil), .int .i64 4] = .tup [.agg (mcl (tkM l i) v), .int .i64 (tkC l i)] ∧ Slc eU8 (qHp (exF fo X) A2) v (tkM l i).b ∧ PostIs X A2 bp fo (tkL l i) := fun q => by
    have e : tkM l i = pm0 ∧ tkL l i = l := by
      unfold tkM tkL
      by_cases z : i < 0
      · rw [if_pos z, if_pos z]; exact ⟨rfl, rfl⟩
      · rw [if_neg z, if_neg z, List.getElem?_eq_none (by omega), List.eraseIdx_of_length_le (by omega)]; exact ⟨rfl, rfl⟩
    rw [e.1, e.2]
    refine ⟨(f1.row_ s2 (by omega)).mono fun _ q => q.elim, .snil, by unfold tkC; rw [if_pos q], .inl ⟨rfl, rfl⟩, PostIs.fr ⟨w, hbox, hl'⟩ s2 w1 (.box r1) (.box r1) fun z => hbp (by cases z; rfl)⟩
  have ld2 := ldMl s3
  refine contG_of (fun g => ?_) (fun g => ?_)
  · simp only [RS, xs_some, Option.bind_some, Option.map_some, if_true, if_false, decide_true, decide_false, true_and, and_true, Bool.not_true, Bool.not_false, Bool.false_eq_true, not_false_eq_true, not_true_eq_false, Nat.reduceLT, Nat.reduceBEq, Nat.reduceEqDiff, Nat.reduceAdd, Int.reduceEq, Int.reduceLT, Int.reduceLE, Int.reduceGT, Int.reduceGE, beq_self_eq_true, List.getElem?_toArray, List.getElem?_cons_zero, List.getElem?_cons_succ, List.append_nil, List.nil_append, List.cons_append, List.append_eq, g, bldMl0, s1, ld2]
    exact out (.inl (by omega))
  simp only [RS, xs_some, Option.bind_some, Option.map_some, if_true, if_false, decide_true, decide_false, true_and, and_true, Bool.not_true, Bool.not_false, Bool.false_eq_true, not_false_eq_true, not_true_eq_false, Nat.reduceLT, Nat.reduceBEq, Nat.reduceEqDiff, Nat.reduceAdd, Int.reduceEq, Int.reduceLT, Int.reduceLE, Int.reduceGT, Int.reduceGE, beq_self_eq_true, List.getElem?_toArray, List.getElem?_cons_zero, List.getElem?_cons_succ, List.append_nil, List.nil_append, List.cons_append, List.append_eq, g, faPo, ldp, hlen]
  refine condK_of (fun g2 => ?_) (fun g2 => ?_)
  · simp only [RS, xs_some, Option.bind_some, Option.map_some, if_true, if_false, decide_true, decide_false, true_and, and_true, Bool.not_true, Bool.not_false, Bool.false_eq_true, not_false_eq_true, not_true_eq_false, Nat.reduceLT, Nat.reduceBEq, Nat.reduceEqDiff, Nat.reduceAdd, Int.reduceEq, Int.reduceLT, Int.reduceLE, Int.reduceGT, Int.reduceGE, beq_self_eq_true, List.getElem?_toArray, List.getElem?_cons_zero, List.getElem?_cons_succ, List.append_nil, List.nil_append, List.cons_append, List.append_eq, bldMl0, s1, ld2]
    exact out (.inr (by omega))
  obtain ⟨j, rfl⟩ := Int.eq_ofNat_of_zero_le (show 0 ≤ i by omega)
  obtain ⟨x, hx⟩ := get_lt (l := l) (i := j) (by omega)
  obtain ⟨b, o, c, g3, g4, g5⟩ := hl'.at (P := Try.prog) (k := .i64) (qHp_on _ A1) Try.underlying79 sz87 ag87 hx
  obtain ⟨v, rfl, hv⟩ := eMail_W.1 g5
  obtain ⟨A3, t1, t2, t3⟩ := newMl (A := A1) (x := x) hv.one
  have r3 := t2.row0 r1
  obtain ⟨w', b3, l3⟩ := PostIs.fr0 ⟨w, hbox, hl'⟩ t2
  have b3' := t2.row0 hbox
  rw [b3] at b3'; cases b3'
  have f3 := f1.then0 t2
  have w3 := f3.wf hw
  have ldp3 : evLoad Try.prog 79 (.ptr bp 0) A3 = some w := load_one ag79 b3
  obtain ⟨wa, c1, c2⟩ := l3.to3 (P := Try.prog) Try.underlying79 sz87 (hi := j) (by omega) (kh := .i64) (km := .i64) A3
  obtain ⟨wb, c3, c4⟩ := l3.fromN (P := Try.prog) Try.underlying79 sz87 (lo := j + 1) (by omega) (kl := .i64) A3
  obtain ⟨cs, c5, c6⟩ := c4.src (P := Try.prog) (tx := 79) Try.underlying79
  obtain ⟨v4, A4, fo', p1, p2, p3, p4⟩ := c2.app (P := Try.prog) (t := 79) sl79 w3 c5 c6 (by simp; omega) (by simp; omega)
  have hfo : fo' = fo := by
    rcases p4 with q | ⟨rfl, _⟩
    · exact q
    · obtain ⟨cs, q1, ⟨_, q2, _⟩ | ⟨f, q, _⟩⟩ := hl'
      · rw [List.eq_nil_of_length_eq_zero q2] at hx; simp at hx
      · cases q
  subst hfo
  have b4 := p3.row _ _ b3 (inFamO_var b3)
  obtain ⟨A5, u1, u2, u3, u4⟩ := store_one (P := Try.prog) (t := 79) (x := v4) b4 p2.cells1 sz79 p2.one
  have r5 := u2.row _ _ (p3.row _ _ r3 (inFamO_var r3)) (fun q => hbp (by cases q; rfl))
  have t5 := u2.row _ _ (p3.row _ _ t3 (inFamO_var t3)) (fun q => by cases q; rw [t3] at b3; cases b3)
  obtain ⟨A6, x1, x2, x3⟩ := setMl (y := x) (w := v) r5 hv.one
  have ld5 := ldMl t5
  have ld6 := ldMl x3
  simp only [RS, xs_some, Option.bind_some, Option.map_some, if_true, if_false, decide_true, decide_false, true_and, and_true, Bool.not_true, Bool.not_false, Bool.false_eq_true, not_false_eq_true, not_true_eq_false, Nat.reduceLT, Nat.reduceBEq, Nat.reduceEqDiff, Nat.reduceAdd, Int.reduceEq, Int.reduceLT, Int.reduceLE, Int.reduceGT, Int.reduceGE, beq_self_eq_true, List.getElem?_toArray, List.getElem?_cons_zero, List.getElem?_cons_succ, List.append_nil, List.nil_append, List.cons_append, List.append_eq, faPo, ldp, g3, g4, zc87]
  have t1' : evStore Try.prog 87 (.ptr A1.blk.length 0) (.agg (mcl x v)) (A1.push ⟨[.bool false, .int .i64 0, .bool false, .int .i64 0, .snil], .var⟩) = some A3 := t1
  simp only [RS, xs_some, Option.bind_some, Option.map_some, if_true, if_false, decide_true, decide_false, true_and, and_true, Bool.not_true, Bool.not_false, Bool.false_eq_true, not_false_eq_true, not_true_eq_false, Nat.reduceLT, Nat.reduceBEq, Nat.reduceEqDiff, Nat.reduceAdd, Int.reduceEq, Int.reduceLT, Int.reduceLE, Int.reduceGT, Int.reduceGE, beq_self_eq_true, List.getElem?_toArray, List.getElem?_cons_zero, List.getElem?_cons_succ, List.append_nil, List.nil_append, List.cons_append, List.append_eq, t1']
  rw [pl_40_4, run_plan_id (by rfl)]
  simp only [RS, xs_some, Option.bind_some, Option.map_some, if_true, if_false, decide_true, decide_false, true_and, and_true, Bool.not_true, Bool.not_false, Bool.false_eq_true, not_false_eq_true, not_true_eq_false, Nat.reduceLT, Nat.reduceBEq, Nat.reduceEqDiff, Nat.reduceAdd, Int.reduceEq, Int.reduceLT, Int.reduceLE, Int.reduceGT, Int.reduceGE, beq_self_eq_true, List.getElem?_toArray, List.getElem?_cons_zero, List.getElem?_cons_succ, List.append_nil, List.nil_append, List.cons_append, List.append_eq, faPo, ldp3, c1, wrapS (show j < 9223372036854775807 by omega), c3, p1, u1, ld5, x1, ld6]
  have e : tkM l j = x ∧ tkL l j = l.take j ++ l.drop (j + 1) ∧ tkC l j = 0 := by
    unfold tkM tkL tkC
    rw [if_neg (by omega), if_neg (by omega), if_neg (by omega)]
    exact ⟨by show (l[j]?).getD pm0 = x; rw [hx]; rfl, List.eraseIdx_eq_take_drop_succ .., rfl⟩
  rw [e.1, e.2.1, e.2.2]
  have m45 := Hp.le_trans (qHp_fr (X := exF fo' X) p3 (.famO fun f q => .inl q) w3 (Y := exF fo' X) fun f q => .inl q) (qHp_fr u2 (.box b4) (p3.wf w3) fun f q => .inl q)
  have m46 := Hp.le_trans m45 (qHp_fr x2 (.box r5) (u2.wf (p3.wf w3)) fun f q => .inl q)
  refine ⟨?_, v, rfl, hv.mono (Hp.le_trans (qHp_fr0 t2) m46), v4, x2.row _ _ u3 (fun q => hbp (by cases q; rfl)), ((p2.fr u2 (.box b4)).fr x2 (.box r5)).mono m46⟩
  exact (((f3.mono fun _ q => q.elim : Fr (postS A bp fo') A A3).trans p3 fun z q => (inFamO_back f3 q).imp .inr id).trans u2 fun z q => .inl (.inl q)).trans x2 fun z q => .inr (by subst q; show A.blk.length ≤ bx; omega)
end Go.Sv.Try
namespace Go.Sv.Try
open Go Go.Proofs
set_option linter.unusedVariables false
set_option linter.unusedSimpArgs false
end Go.Sv.Try
namespace Go.Sv.Try
open Go Go.Proofs
set_option linter.unusedVariables false
set_option linter.unusedSimpArgs false
theorem allP_spec {A : AS} {bp : Nat} : ∃ w A', EvF Try.prog HH 48 [.ptr bp 0] A w A' ∧ w = .fn 74 [] [.ptr A.blk.length 0] ∧ Fr S0 A A' ∧ A'.blk[A.blk.length]? = some ⟨[.ptr bp 0], .var⟩ := by
  refine run_fn2 rfl Try.func48 (by unfold Try.f48; rfl) Try.ntmps48 (by unfold Try.f48; rfl) (by simp) ?_
  simp only [RS, xs_some, Option.bind_some, Option.map_some, if_true, if_false, decide_true, decide_false, true_and, and_true, Bool.not_true, Bool.not_false, Bool.false_eq_true, not_false_eq_true, not_true_eq_false, Nat.reduceLT, Nat.reduceBEq, Nat.reduceEqDiff, Nat.reduceAdd, Int.reduceEq, Int.reduceLT, Int.reduceLE, Int.reduceGT, Int.reduceGE, beq_self_eq_true, List.getElem?_toArray, List.getElem?_cons_zero, List.getElem?_cons_succ, List.append_nil, List.nil_append, List.cons_append, List.append_eq]
  exact ⟨Fr.pushVar A _, push_row A _⟩
def argP (A A1 : AS) (args : List V) (y : Nat × PM) : Prop := ∃ b f, args = [.int .i64 (y.1 : Int), .agg (mcl y.2 (.sl b 0 y.2.b.length 1))] ∧ A1.blk[b]? = some ⟨bc y.2.b, .arr f 0⟩ ∧ Sole0 A1 b f ∧ A.blk.length ≤ f ∧ A.blk.length ≤ b
set_option maxRecDepth 10000 in
set_option maxHeartbeats 16000000 in
theorem allP_goes {X : Nat → Prop} {A : AS} {bp bx : Nat} {fo : Option Nat} {l : List PM} {S : Loc → Prop} (hw : WF A) (h : PostIs X A bp fo l) (hb : A.blk[bx]? = some ⟨[.ptr bp 0], .var⟩) (hl : l.length ≤ 1000000) (hbt : ∀ x ∈ l, x.b.length ≤ 1000000000000) :
    GoesH Try.prog HH 74 [] [.ptr bx 0] A S S0 (fun r => arrHp A r ≠ none) (fun _ => True) argP (l.mapIdx fun i x => (i, x)) := by
  intro lo J D hstep hJ0
  refine run_fn2 rfl Try.func74 (by unfold Try.f74; rfl) Try.ntmps74 (by unfold Try.f74; rfl) (by simp) ?_
  obtain ⟨w, hbox, hl'⟩ := h
  have hsl := hl'.slcArr (qHp_arr _ _)
  have hlen := fun B => hsl.len (P := Try.prog) Try.underlying79 B
  have ldx : evLoad Try.prog 107 (.ptr bx 0) A = some (.ptr bp 0) := load_one ag107 hb
  have ldp : evLoad Try.prog 79 (.ptr bp 0) A = some w := load_one ag79 hbox
  simp only [RS, xs_some, Option.bind_some, Option.map_some, if_true, if_false, decide_true, decide_false, true_and, and_true, Bool.not_true, Bool.not_false, Bool.false_eq_true, not_false_eq_true, not_true_eq_false, Nat.reduceLT, Nat.reduceBEq, Nat.reduceEqDiff, Nat.reduceAdd, Int.reduceEq, Int.reduceLT, Int.reduceLE, Int.reduceGT, Int.reduceGE, beq_self_eq_true, List.getElem?_toArray, List.getElem?_cons_zero, List.getElem?_cons_succ, List.append_nil, List.nil_append, List.cons_append, List.append_eq, ldx, faPo, ldp, hlen]
  refine run_loop_j (fun n e B => Fr S A B ∧ e.get 0 = .yield lo ∧ e.get 8 = w ∧ e.get 9 = .int .i64 l.length ∧ (∀ r, arrHp A r ≠ none → B.blk[r]? = A.blk[r]?) ∧ ∃ i : Nat, n = l.length - i ∧ i ≤ l.length ∧ e.get 10 = .int .i64 i ∧ J i B)
    (fun z e B => Fr S A B ∧ (Is z (.exit 0) ∨ Is z .ret) ∧ ((∃ A2, J l.length A2 ∧ Fr S0 A2 B) ∨ ∃ i A2, i < l.length ∧ D i A2 ∧ Fr S0 A2 B))
    ⟨_, .refl S A, rfl, rfl, rfl, fun r _ => rfl, 0, rfl, by simp, rfl, hJ0⟩ ?_ ?_
  rotate_left
  · rintro z e B hz ⟨hf, rfl | rfl, hd⟩
    · simp only [RS, xs_some, Option.bind_some, Option.map_some, if_true, if_false, decide_true, decide_false, true_and, and_true, Bool.not_true, Bool.not_false, Bool.false_eq_true, not_false_eq_true, not_true_eq_false, Nat.reduceLT, Nat.reduceBEq, Nat.reduceEqDiff, Nat.reduceAdd, Int.reduceEq, Int.reduceLT, Int.reduceLE, Int.reduceGT, Int.reduceGE, beq_self_eq_true, List.getElem?_toArray, List.getElem?_cons_zero, List.getElem?_cons_succ, List.append_nil, List.nil_append, List.cons_append, List.append_eq]
      exact ⟨hf, by simpa using hd⟩
    · simp only [RS, xs_some, Option.bind_some, Option.map_some, if_true, if_false, decide_true, decide_false, true_and, and_true, Bool.not_true, Bool.not_false, Bool.false_eq_true, not_false_eq_true, not_true_eq_false, Nat.reduceLT, Nat.reduceBEq, Nat.reduceEqDiff, Nat.reduceAdd, Int.reduceEq, Int.reduceLT, Int.reduceLE, Int.reduceGT, Int.reduceGE, beq_self_eq_true, List.getElem?_toArray, List.getElem?_cons_zero, List.getElem?_cons_succ, List.append_nil, List.nil_append, List.cons_append, List.append_eq]
      exact ⟨hf, by simpa using hd⟩
  rintro n e B ⟨hf, h0, h8, h9, hK, i, rfl, hi, h10, hj⟩
  simp only [RS, xs_some, Option.bind_some, Option.map_some, if_true, if_false, decide_true, decide_false, true_and, and_true, Bool.not_true, Bool.not_false, Bool.false_eq_true, not_false_eq_true, not_true_eq_false, Nat.reduceLT, Nat.reduceBEq, Nat.reduceEqDiff, Nat.reduceAdd, Int.reduceEq, Int.reduceLT, Int.reduceLE, Int.reduceGT, Int.reduceGE, beq_self_eq_true, List.getElem?_toArray, List.getElem?_cons_zero, List.getElem?_cons_succ, List.append_nil, List.nil_append, List.cons_append, List.append_eq, h9, h10]
  refine condK_of (fun g => ?_) (fun g => ?_)
  rotate_left
  · simp only [RS, xs_some, Option.bind_some, Option.map_some, if_true, if_false, decide_true, decide_false, true_and, and_true, Bool.not_true, Bool.not_false, Bool.false_eq_true, not_false_eq_true, not_true_eq_false, Nat.reduceLT, Nat.reduceBEq, Nat.reduceEqDiff, Nat.reduceAdd, Int.reduceEq, Int.reduceLT, Int.reduceLE, Int.reduceGT, Int.reduceGE, beq_self_eq_true, List.getElem?_toArray, List.getElem?_cons_zero, List.getElem?_cons_succ, List.append_nil, List.nil_append, List.cons_append, List.append_eq]
    have : i = l.length := by omega
    subst this
    exact ⟨hf, .inl rfl, .inl ⟨B, hj, .refl _ _⟩⟩
  have hmB : (arrHp A).on B := fun b cs q => by
    obtain ⟨k, hk⟩ := arrHp_on A b cs q
    exact ⟨k, by rw [hK b (by rw [q]; simp)]; exact hk⟩
  have hwB := hf.wf hw
  obtain ⟨x, hx⟩ := get_lt (l := l) (i := i) (by omega)
  have hxb := hbt x (List.mem_of_getElem? hx)
  obtain ⟨b, o, c, g3, g4, g5⟩ := hsl.at (P := Try.prog) (k := .i64) hmB Try.underlying79 sz87 ag87 hx
  obtain ⟨v, rfl, hv⟩ := eMail_W.1 g5
  obtain ⟨B1, s1, s2, s3⟩ := newMl (A := B) (x := x) hv.one
  have s1 : evStore Try.prog 87 (.ptr B.blk.length 0) (.agg (mcl x v)) (B.push ⟨[.bool false, .int .i64 0, .bool false, .int .i64 0, .snil], .var⟩) = some B1 := s1
  have w1 := s2.wf hwB
  obtain ⟨b', B2, y1, y2, y3, y4, y5⟩ := copy_bytes (P := Try.prog) (t := 38) (tx := 38) w1 sl38 Try.underlying38 hv (hmB.fr0 s2) (by omega) (by omega)
  have fM := faMl B.blk.length
  have ld1 := ldMl ((Fr.pushArr B1 []).row0 s3)
  have r2 := y5.row0 s3
  obtain ⟨B3, t1, t2, t3, t4⟩ := store_var (P := Try.prog) (t := 38) (o := 4) (x := .sl b' 0 x.b.length 1) r2 rfl sz38 (by simp [mcl]) rfl
  have t3 : B3.blk[B.blk.length]? = some ⟨mcl x (.sl b' 0 x.b.length 1), .var⟩ := t3
  have ld3 := ldMl t3
  have f3 := (s2.then0 y5).row_ t2 (Nat.le_refl _)
  have hlb := s2.len
  have r3 := t2.row _ _ y2 (fun q => by cases q; rw [r2] at y2; simp at y2)
  simp only [RS, xs_some, Option.bind_some, Option.map_some, if_true, if_false, decide_true, decide_false, true_and, and_true, Bool.not_true, Bool.not_false, Bool.false_eq_true, not_false_eq_true, not_true_eq_false, Nat.reduceLT, Nat.reduceBEq, Nat.reduceEqDiff, Nat.reduceAdd, Int.reduceEq, Int.reduceLT, Int.reduceLE, Int.reduceGT, Int.reduceGE, beq_self_eq_true, List.getElem?_toArray, List.getElem?_cons_zero, List.getElem?_cons_succ, List.append_nil, List.nil_append, List.cons_append, List.append_eq, h8, h10, g3, g4, zc87, s1, fM, ld1, bsl0, y1, t1, h0, ld3]
  have hat : (l.mapIdx fun i x => (i, x))[i]? = some (i, x) := by rw [List.getElem?_mapIdx, hx]; rfl
  obtain ⟨bo, B4, z1, z2, z3, z4⟩ := hstep i _ B B3 _ hat hj f3 (hf.then0 f3) ⟨b', B1.blk.length, rfl, r3, y3.fr t2 (fun q => by cases q), hlb, by omega⟩
  refine ⟨_, B4, z1, ?_⟩
  simp only [RS, xs_some, Option.bind_some, Option.map_some, if_true, if_false, decide_true, decide_false, true_and, and_true, Bool.not_true, Bool.not_false, Bool.false_eq_true, not_false_eq_true, not_true_eq_false, Nat.reduceLT, Nat.reduceBEq, Nat.reduceEqDiff, Nat.reduceAdd, Int.reduceEq, Int.reduceLT, Int.reduceLE, Int.reduceGT, Int.reduceGE, beq_self_eq_true, List.getElem?_toArray, List.getElem?_cons_zero, List.getElem?_cons_succ, List.append_nil, List.nil_append, List.cons_append, List.append_eq]
  cases bo with
  | true =>
    simp only [RS, xs_some, Option.bind_some, Option.map_some, if_true, if_false, decide_true, decide_false, true_and, and_true, Bool.not_true, Bool.not_false, Bool.false_eq_true, not_false_eq_true, not_true_eq_false, Nat.reduceLT, Nat.reduceBEq, Nat.reduceEqDiff, Nat.reduceAdd, Int.reduceEq, Int.reduceLT, Int.reduceLE, Int.reduceGT, Int.reduceGE, beq_self_eq_true, List.getElem?_toArray, List.getElem?_cons_zero, List.getElem?_cons_succ, List.append_nil, List.nil_append, List.cons_append, List.append_eq, h10]
    obtain ⟨z5, z6⟩ := z3 rfl
    refine ⟨l.length - (i + 1), by omega, (hf.then0 f3).thn z2, h0, h8, h9, fun r hr => ?_, i + 1, rfl, by omega, by rw [wrapS (by omega)], z5⟩
    rw [z6 r hr]
    have := hK r hr
    cases hr' : A.blk[r]? with
    | none => exact absurd (by unfold arrHp; rw [hr']) hr
    | some k =>
      rw [hr'] at this
      exact f3.row r k this fun q => q
  | false =>
    simp only [RS, xs_some, Option.bind_some, Option.map_some, if_true, if_false, decide_true, decide_false, true_and, and_true, Bool.not_true, Bool.not_false, Bool.false_eq_true, not_false_eq_true, not_true_eq_false, Nat.reduceLT, Nat.reduceBEq, Nat.reduceEqDiff, Nat.reduceAdd, Int.reduceEq, Int.reduceLT, Int.reduceLE, Int.reduceGT, Int.reduceGE, beq_self_eq_true, List.getElem?_toArray, List.getElem?_cons_zero, List.getElem?_cons_succ, List.append_nil, List.nil_append, List.cons_append, List.append_eq]
    exact ⟨(hf.then0 f3).thn z2, .inr rfl, .inr ⟨i, B4, by omega, z4 rfl, .refl _ _⟩⟩
end Go.Sv.Try
namespace Go.Sv.Try
open Go Go.Proofs
set_option linter.unusedVariables false
set_option linter.unusedSimpArgs false
def newS (c N : Nat) : Loc → Prop
  | .row b => b = c ∨ N ≤ b
  | .fam f => N ≤ f
  | _ => False
def F0 : Nat → Prop := fun _ => False
end Go.Sv.Try
namespace Go.Sv.Try
open Go Go.Proofs
set_option linter.unusedVariables false
set_option linter.unusedSimpArgs false
abbrev OpP := Int × Int × (Bool × Int) × (Bool × Int) × Go.Sv.M × Bts
def ePl : Enc (Bool × Int) := ePair eBool (eInt .i64)
def eOp : Enc OpP := ePair (eInt .i64) (ePair (eInt .i64) (ePair ePl (ePair ePl (ePair eMsg (eSl eU8)))))
def shP : Sh := .struct [(.bool, 0, 1), (.int .i64, 1, 1)] 2
def shO : Sh := .struct [(.int .i64, 0, 1), (.int .i64, 1, 1), (shP, 2, 2), (shP, 4, 2), (shM, 6, 41), (.sl (.int .u8) 1, 47, 1)] 48
theorem Reads.place : Reads ePl shP (fun _ => True) (fun _ => 0) :=
  Reads.weak (Reads.struct (.cons Reads.bool rfl rfl (.last (Reads.int .i64) rfl)) rfl) (fun _ _ => trivial) fun _ => Nat.zero_le _
def bulkO (o : OpP) : Nat := bulkM o.2.2.2.2.1 + sumOf (fun _ => 1) o.2.2.2.2.2 + 1
theorem Reads.op : Reads eOp shO (fun o => Sized o.2.2.2.2.1) bulkO :=
  Reads.weak (Reads.struct (.cons (Reads.int .i64) rfl rfl (.cons (Reads.int .i64) rfl rfl (.cons Reads.place rfl rfl (.cons Reads.place rfl rfl (.cons Reads.msg rfl rfl (.last Reads.u8.sl rfl)))))) rfl)
    (fun _ h => h.2.2.2.2.1.1) fun o => by
      show _ ≤ (1 + (1 + (0 + (0 + (bulkM o.2.2.2.2.1 + (sumOf (fun _ => 1) o.2.2.2.2.2 + 1)))))) + 1
      unfold bulkO; omega
end Go.Sv.Try
namespace Go.Sv.Try
open Go Go.Proofs
set_option linter.unusedVariables false
set_option linter.unusedSimpArgs false
def NS (A : AS) : Loc → Prop := fun x => x.newTo A
theorem inFamO_new {S : Loc → Prop} {A B : AS} {fo : Option Nat} (hw : WF A) (hf : Fr S A B) (hfo : ∀ f, fo = some f → A.blk.length ≤ f) {z : Loc} (h : inFamO B fo z) : z.newTo A := by
  rcases inFamO_back hf h with q | q
  · cases fo with
    | none => exact q.elim
    | some g =>
      have := hfo g rfl
      cases z with
      | row b => obtain ⟨k, base, z1, z2⟩ := q; have := hw b k _ base z1 z2; omega
      | fam g' => show A.blk.length ≤ g'; rw [show g' = g from q]; exact this
      | map r => exact q.elim
      | loop r => exact q.elim
      | it r => exact q.elim
  · exact q
theorem postS_new {S : Loc → Prop} {A B : AS} {bp : Nat} {fo : Option Nat} (hw : WF A) (hf : Fr S A B) (hb : A.blk.length ≤ bp) (hfo : ∀ f, fo = some f → A.blk.length ≤ f) {z : Loc} (h : postS B bp fo z) : z.newTo A := by
  rcases h with h | h
  · subst h; exact hb
  · exact inFamO_new hw hf hfo h
theorem nsF {S : Loc → Prop} {A B C : AS} (h : Fr (NS A) A B) (k : Fr S B C) (hs : ∀ z, S z → z.newTo A) : Fr (NS A) A C := h.trans k fun z q => .inl (hs z q)
theorem nsF0 {A B C : AS} (h : Fr (NS A) A B) (k : Fr S0 B C) : Fr (NS A) A C := nsF h k fun _ q => q.elim
theorem nsOn {m : Hp} {A B : AS} (h : m.on A) (hf : Fr (NS A) A B) : m.on B := h.fr hf fun b q => h.fresh q
theorem putL_small {l : List PM} (h : l.length < 600) (x : PM) : putL l x = l ++ [x] ∧ putC l = 0 := by
  unfold putL putC; rw [if_neg (by omega), if_neg (by omega)]; exact ⟨rfl, rfl⟩
structure Mid (A B : AS) (bp : Nat) (fo fo2 : Option Nat) (l : List PM) (w : V) (wl : List Bts) : Prop where
  fr : Fr (NS A) A B
  hbp : A.blk.length ≤ bp
  po : PostIs (fun f => fo2 = some f) B bp fo l
  ls : Lst eStr Hp.emp B w wl fo2
  hfo : ∀ f, fo = some f → A.blk.length ≤ f
  hfo2 : ∀ f, fo2 = some f → A.blk.length ≤ f
  ne : ∀ f, fo = some f → fo2 ≠ some f
theorem Mid.fr0 {A B C : AS} {bp : Nat} {fo fo2 : Option Nat} {l : List PM} {w : V} {wl : List Bts} (h : Mid A B bp fo fo2 l w wl) (hf : Fr S0 B C) : Mid A C bp fo fo2 l w wl :=
  ⟨nsF0 h.fr hf, h.hbp, h.po.fr0 hf, h.ls.fr0 hf, h.hfo, h.hfo2, h.ne⟩
theorem Mid.tt {A B : AS} {bp : Nat} {fo fo2 : Option Nat} {l : List PM} {w : V} {wl : List Bts} (h : Mid A B bp fo fo2 l w wl) : ∀ f, fo2 = some f → f < B.blk.length := h.ls.famLt
theorem Mid.post {A B C : AS} {bp : Nat} {fo fo2 fo' : Option Nat} {l l' : List PM} {w : V} {wl : List Bts} (h : Mid A B bp fo fo2 l w wl) (hw : WF A) (hf : Fr (postS B bp fo) B C) (hg : Gr B fo fo') (hp : PostIs (fun f => fo2 = some f) C bp fo' l') : Mid A C bp fo' fo2 l' w wl := by
  obtain ⟨v, hb, _⟩ := h.po
  refine ⟨nsF h.fr hf fun z q => postS_new hw h.fr h.hbp h.hfo q, h.hbp, hp, h.ls.fr hf ((Off.box hb).or ?_), fun f q => ?_, h.hfo2, fun f q z => ?_⟩
  · cases fo with
    | none => exact fun _ q => q.elim
    | some g => exact Off.fam (h.ne g rfl)
  · rcases hg.or q with q | q
    · exact h.hfo f q
    · have := h.fr.len; omega
  · rcases hg.or q with q | q
    · exact h.ne f q z
    · have := h.tt f z; omega
set_option maxHeartbeats 4000000 in
theorem Mid.want {A B : AS} {bp : Nat} {fo fo2 : Option Nat} {l : List PM} {w : V} {wl : List Bts} (h : Mid A B bp fo fo2 l w wl) (hw : WF A) (s : Bts) (hl : wl.length ≤ 1000000) :
    ∃ v' C fo2', evAppend Try.prog 82 82 w (.sl B.blk.length 0 1 1) (B.push ⟨[.str s], .arr B.blk.length 0⟩) = some (v', C) ∧ Mid A C bp fo fo2' l v' (wl ++ [s]) := by
  have wB := h.fr.wf hw
  obtain ⟨v', C, fo', p1, p2, p3, p4⟩ := h.ls.push (P := Try.prog) (t := 82) (tx := 82) (n := 1) rfl sl82 Try.underlying82 wB (y := s) (cs' := [.str s]) rfl (by omega) (by omega)
  obtain ⟨v, hb, hl'⟩ := h.po
  refine ⟨v', C, fo', p1, nsF h.fr p3 fun z q => inFamO_new hw h.fr h.hfo2 q, h.hbp, ?_, p2, h.hfo, fun f q => ?_, fun f q z => ?_⟩
  · refine ⟨v, p3.row _ _ hb (inFamO_var hb), (hl'.fr p3 ?_).mono (qHp_fr p3 (.famO fun f q => .inr q) wB fun f q => ?_)⟩
    · cases fo2 with
      | none => exact fun _ q => q.elim
      | some g => exact Off.fam fun q => h.ne g q rfl
    · rcases q with q | q
      · exact .inl (.inl q)
      · exact (p4.or q).imp .inr id
  · rcases p4.or q with q | q
    · exact h.hfo2 f q
    · have := h.fr.len; omega
  · rcases p4.or z with z | z
    · exact h.ne f q z
    · have := h.po.famLt f q; omega
end Go.Sv.Try
namespace Go.Sv.Try
open Go Go.Proofs
set_option linter.unusedVariables false
set_option linter.unusedSimpArgs false
structure Mid2 (A B : AS) (bp : Nat) (fo : Option Nat) (l : List PM) (lv : V) : Prop where
  fr : Fr (NS A) A B
  hbp : A.blk.length ≤ bp
  po : PostIs F0 B bp fo l
  lst : Slc eRM (qHp (exF fo F0) B) lv l
  hfo : ∀ f, fo = some f → A.blk.length ≤ f
theorem Mid2.fr0 {A B C : AS} {bp : Nat} {fo : Option Nat} {l : List PM} {lv : V} (h : Mid2 A B bp fo l lv) (hf : Fr S0 B C) : Mid2 A C bp fo l lv :=
  ⟨nsF0 h.fr hf, h.hbp, h.po.fr0 hf, h.lst.mono (qHp_fr0 hf), h.hfo⟩
end Go.Sv.Try
namespace Go.Sv.Try
open Go Go.Proofs
set_option linter.unusedVariables false
set_option linter.unusedSimpArgs false
structure MidF (X : Nat → Prop) (A B : AS) (bp : Nat) (fo : Option Nat) (l : List PM) : Prop where
  fr : Fr (NS A) A B
  hbp : A.blk.length ≤ bp
  po : PostIs X B bp fo l
  hfo : ∀ f, fo = some f → A.blk.length ≤ f
theorem MidF.fr0 {X : Nat → Prop} {A B C : AS} {bp : Nat} {fo : Option Nat} {l : List PM} (h : MidF X A B bp fo l) (hf : Fr S0 B C) : MidF X A C bp fo l := ⟨nsF0 h.fr hf, h.hbp, h.po.fr0 hf, h.hfo⟩
theorem MidF.off {A B C : AS} {bp : Nat} {fo : Option Nat} {l : List PM} {f : Nat} (h : MidF F0 A B bp fo l) (hw : WF A) (hf : Fr S0 B C) (hn : B.blk.length ≤ f) : MidF (· = f) A C bp fo l := by
  obtain ⟨w, h1, h2⟩ := h.po
  refine ⟨nsF0 h.fr hf, h.hbp, ⟨w, hf.row0 h1, (h2.fr0 hf).mono (qHp_fr hf .s0 (h.fr.wf hw) fun g q => ?_)⟩, h.hfo⟩
  rcases q with q | q
  · exact .inl (.inl q)
  · right; subst q; exact hn
theorem MidF.on_ {A B : AS} {bp : Nat} {fo : Option Nat} {l : List PM} {f : Nat} (h : MidF (· = f) A B bp fo l) : MidF F0 A B bp fo l := by
  obtain ⟨w, h1, h2⟩ := h.po
  exact ⟨h.fr, h.hbp, ⟨w, h1, h2.mono (qHp_anti fun g q => q.elim .inl fun q => q.elim)⟩, h.hfo⟩
theorem MidF.post {X : Nat → Prop} {A B C : AS} {bp : Nat} {fo fo' : Option Nat} {l l' : List PM} (h : MidF X A B bp fo l) (hw : WF A) (hf : Fr (postS B bp fo) B C) (hg : Gr B fo fo') (hp : PostIs X C bp fo' l') : MidF X A C bp fo' l' := by
  refine ⟨nsF h.fr hf fun z q => postS_new hw h.fr h.hbp h.hfo q, h.hbp, hp, fun f q => ?_⟩
  rcases hg.or q with q | q
  · exact h.hfo f q
  · have := h.fr.len; omega
theorem MidF.row {A B C : AS} {bp : Nat} {fo : Option Nat} {l : List PM} {f b base : Nat} {cs : List V} (h : MidF (· = f) A B bp fo l) (hw : WF A) (hf : Fr (· = .row b) B C) (hb : B.blk[b]? = some ⟨cs, .arr f base⟩) (hbn : A.blk.length ≤ b) (hfo : fo ≠ some f) : MidF (· = f) A C bp fo l := by
  have ht : Tch (· = f) B (· = .row b) := fun i k q hk => by cases q; rw [hb] at hk; cases hk; exact .inr ⟨f, base, rfl, rfl⟩
  refine ⟨nsF h.fr hf fun z q => by subst q; exact hbn, h.hbp, h.po.fr hf (h.fr.wf hw) ht (.tch ht fun g q z => hfo (by rw [q, z])) (fun q => ?_), h.hfo⟩
  obtain ⟨w, h1, _⟩ := h.po
  cases q; rw [h1] at hb; cases hb
theorem MidF.loop {X : Nat → Prop} {A B C : AS} {bp : Nat} {fo : Option Nat} {l : List PM} {j : Nat} (h : MidF X A B bp fo l) (hw : WF A) (hj : A.loops.length ≤ j) (hf : Fr (· = .loop j) B C) : MidF X A C bp fo l :=
  ⟨nsF h.fr hf fun z q => by subst q; exact hj, h.hbp, h.po.fr hf (h.fr.wf hw) (fun b k q => by cases q) (fun b q => by cases q) (fun q => by cases q), h.hfo⟩
def mF (b : Bts) : PM := ⟨false, 0, false, 0, b⟩
theorem bldFS (b o k z : Nat) : evBuild Try.prog 87 [(2, .sl b o k z)] = some (.agg [.bool false, .int .i64 0, .bool false, .int .i64 0, .sl b o k z]) := by kernel_rfl
theorem repF (b : Bts) (i : Nat) : putL (List.replicate (min i 600) (mF b)) (mF b) = List.replicate (min (i + 1) 600) (mF b) ∧ putC (List.replicate (min i 600) (mF b)) = (if i < 600 then 0 else 3) := by
  unfold putL putC
  rw [List.length_replicate]
  by_cases q : i < 600
  · rw [if_neg (by omega), if_neg (by omega), if_pos q, Nat.min_eq_left (by omega), Nat.min_eq_left (by omega)]
    exact ⟨by rw [List.replicate_succ'], rfl⟩
  · rw [if_pos (by omega), if_pos (by omega), if_neg q, Nat.min_eq_right (by omega), Nat.min_eq_right (by omega)]
    exact ⟨rfl, rfl⟩
theorem u8inc (y : UInt8) : ∃ z : UInt8, IntKind.u8.wrap ((y.toNat : Int) + 1) = (z.toNat : Int) :=
  ⟨UInt8.ofNat (y.toNat + 1), by rw [show (y.toNat : Int) + 1 = ((y.toNat + 1 : Nat) : Int) from rfl, u8wrap]⟩
set_option maxRecDepth 10000 in
set_option maxHeartbeats 16000000 in
theorem postFull_spec {m : Hp} {A : AS} {v : V} {n : Int} {b : Bts} (hw : WF A) (hm : m.on A) (h : Slc eU8 m v b) : ∃ w A', EvF Try.prog HH 15 [.int .i64 n, v] A w A' ∧ w = .bool true := by
  refine run_fn2 rfl Try.func15 (by unfold Try.f15; rfl) Try.ntmps15 (by unfold Try.f15; rfl) (by simp) ?_
  simp only [RS, xs_some, Option.bind_some, Option.map_some, if_true, if_false, decide_true, decide_false, true_and, and_true, Bool.not_true, Bool.not_false, Bool.false_eq_true, not_false_eq_true, not_true_eq_false, Nat.reduceLT, Nat.reduceBEq, Nat.reduceEqDiff, Nat.reduceAdd, Int.reduceEq, Int.reduceLT, Int.reduceLE, Int.reduceGT, Int.reduceGE, beq_self_eq_true, List.getElem?_toArray, List.getElem?_cons_zero, List.getElem?_cons_succ, List.append_nil, List.nil_append, List.cons_append, List.append_eq]
  refine run_call1 (evF_ground rfl) ?_
  have hlen := fun B => h.len (P := Try.prog) Try.underlying38 B
  by_cases hn : 590 ≤ n ∧ n ≤ 610 ∧ b.length ≤ 100
  rotate_left
  · by_cases q1 : n < 590
    · simp only [RS, xs_some, Option.bind_some, Option.map_some, if_true, if_false, decide_true, decide_false, true_and, and_true, Bool.not_true, Bool.not_false, Bool.false_eq_true, not_false_eq_true, not_true_eq_false, Nat.reduceLT, Nat.reduceBEq, Nat.reduceEqDiff, Nat.reduceAdd, Int.reduceEq, Int.reduceLT, Int.reduceLE, Int.reduceGT, Int.reduceGE, beq_self_eq_true, List.getElem?_toArray, List.getElem?_cons_zero, List.getElem?_cons_succ, List.append_nil, List.nil_append, List.cons_append, List.append_eq, decide_eq_true q1]
    · by_cases q2 : n > 610
      · simp only [RS, xs_some, Option.bind_some, Option.map_some, if_true, if_false, decide_true, decide_false, true_and, and_true, Bool.not_true, Bool.not_false, Bool.false_eq_true, not_false_eq_true, not_true_eq_false, Nat.reduceLT, Nat.reduceBEq, Nat.reduceEqDiff, Nat.reduceAdd, Int.reduceEq, Int.reduceLT, Int.reduceLE, Int.reduceGT, Int.reduceGE, beq_self_eq_true, List.getElem?_toArray, List.getElem?_cons_zero, List.getElem?_cons_succ, List.append_nil, List.nil_append, List.cons_append, List.append_eq, decide_eq_false q1, decide_eq_true q2]
      · have q3 : (b.length : Int) > 100 := by omega
        simp only [RS, xs_some, Option.bind_some, Option.map_some, if_true, if_false, decide_true, decide_false, true_and, and_true, Bool.not_true, Bool.not_false, Bool.false_eq_true, not_false_eq_true, not_true_eq_false, Nat.reduceLT, Nat.reduceBEq, Nat.reduceEqDiff, Nat.reduceAdd, Int.reduceEq, Int.reduceLT, Int.reduceLE, Int.reduceGT, Int.reduceGE, beq_self_eq_true, List.getElem?_toArray, List.getElem?_cons_zero, List.getElem?_cons_succ, List.append_nil, List.nil_append, List.cons_append, List.append_eq, decide_eq_false q1, decide_eq_false q2, hlen, decide_eq_true q3]
  obtain ⟨hn1, hn2, hb⟩ := hn
  have q1 : ¬ n < 590 := by omega
  have q2 : ¬ n > 610 := by omega
  have q3 : ¬ (b.length : Int) > 100 := by omega
  simp only [RS, xs_some, Option.bind_some, Option.map_some, if_true, if_false, decide_true, decide_false, true_and, and_true, Bool.not_true, Bool.not_false, Bool.false_eq_true, not_false_eq_true, not_true_eq_false, Nat.reduceLT, Nat.reduceBEq, Nat.reduceEqDiff, Nat.reduceAdd, Int.reduceEq, Int.reduceLT, Int.reduceLE, Int.reduceGT, Int.reduceGE, beq_self_eq_true, List.getElem?_toArray, List.getElem?_cons_zero, List.getElem?_cons_succ, List.append_nil, List.nil_append, List.cons_append, List.append_eq, decide_eq_false q1, decide_eq_false q2, hlen, decide_eq_false q3, zc81]
  obtain ⟨n, rfl⟩ := Int.eq_ofNat_of_zero_le (show 0 ≤ n by omega)
  obtain ⟨A1, e1, f1, r1, n1⟩ := new_var A [.snil]
  rw [← e1]
  obtain ⟨bp, hbp⟩ : ∃ b, b = A.blk.length := ⟨_, rfl⟩
  rw [← hbp] at r1 ⊢
  have M0 : MidF F0 A A1 bp none [] := ⟨f1.mono fun _ q => q.elim, by omega, ⟨.snil, r1, .nil⟩, (fun _ q => by cases q)⟩
  refine run_loop_j (fun k e B => e.get 0 = .int .i64 n ∧ e.get 1 = v ∧ e.get 5 = .ptr bp 0 ∧ ∃ (i : Nat) (fo : Option Nat), k = n - i ∧ i ≤ n ∧ e.get 6 = .int .i64 i ∧ MidF F0 A B bp fo (List.replicate (min i 600) (mF b)))
    (fun z e B => Is z (.exit 0) ∧ e.get 0 = .int .i64 n ∧ e.get 1 = v ∧ e.get 5 = .ptr bp 0 ∧ ∃ fo, MidF F0 A B bp fo (List.replicate (min n 600) (mF b)))
    ⟨_, rfl, rfl, rfl, 0, none, rfl, by omega, rfl, M0⟩ ?_ ?_
  · rintro k e B ⟨h0, h1, h5, i, fo, rfl, hi, h6, hM⟩
    simp only [RS, xs_some, Option.bind_some, Option.map_some, if_true, if_false, decide_true, decide_false, true_and, and_true, Bool.not_true, Bool.not_false, Bool.false_eq_true, not_false_eq_true, not_true_eq_false, Nat.reduceLT, Nat.reduceBEq, Nat.reduceEqDiff, Nat.reduceAdd, Int.reduceEq, Int.reduceLT, Int.reduceLE, Int.reduceGT, Int.reduceGE, beq_self_eq_true, List.getElem?_toArray, List.getElem?_cons_zero, List.getElem?_cons_succ, List.append_nil, List.nil_append, List.cons_append, List.append_eq, h0, h6]
    refine condK_of (fun g => ?_) (fun g => ?_)
    rotate_left
    · simp only [RS, xs_some, Option.bind_some, Option.map_some, if_true, if_false, decide_true, decide_false, true_and, and_true, Bool.not_true, Bool.not_false, Bool.false_eq_true, not_false_eq_true, not_true_eq_false, Nat.reduceLT, Nat.reduceBEq, Nat.reduceEqDiff, Nat.reduceAdd, Int.reduceEq, Int.reduceLT, Int.reduceLE, Int.reduceGT, Int.reduceGE, beq_self_eq_true, List.getElem?_toArray, List.getElem?_cons_zero, List.getElem?_cons_succ, List.append_nil, List.nil_append, List.cons_append, List.append_eq]
      have : i = n := by omega
      subst this
      exact ⟨rfl, h0, h1, h5, fo, hM⟩
    have wB := hM.fr.wf hw
    obtain ⟨br, C, y1, y2, y3, y4, y5⟩ := copy_bytes (P := Try.prog) (t := 38) (tx := 38) wB sl38 Try.underlying38 h (nsOn hm hM.fr) (by omega) (by omega)
    have hM1 := hM.off hw y5 (Nat.le_refl _)
    have hfne : ∀ f, fo = some f → f < B.blk.length := fun f q => hM.po.famLt f q
    have hsl := row_slcQ (X := F0) y2 (fun q => q)
    obtain ⟨_, D, k1, rfl, k2, fo', k3, k4⟩ := put_spec (X := (· = B.blk.length)) (x := mF b) (hM1.fr.wf hw) (fun f q => by subst q; exact y3.1) hM1.po (qHp_on _ C) hsl (by show b.length ≤ _; omega)
    have k1 : EvF Try.prog HH 38 [.ptr bp 0, .agg [.bool false, .int .i64 0, .bool false, .int .i64 0, .sl br 0 b.length 1]] C _ D := k1
    obtain ⟨p1, p2⟩ := repF b i
    rw [p1] at k4
    rw [p2] at k1
    have hM2 := hM1.post hw k2 k3 k4
    have hf' : fo' ≠ some B.blk.length := fun q => by
      rcases k3.or q with q | q
      · have := hfne _ q; omega
      · have := y3.1; omega
    have r2 : D.blk[br]? = some ⟨bc b, .arr B.blk.length 0⟩ := k2.row _ _ y2 (fun q => by
      obtain ⟨w, h1, _⟩ := hM1.po
      rcases q with q | q
      · cases q; rw [h1] at y2; simp at y2
      · cases fo with
        | none => exact q.elim
        | some f =>
          obtain ⟨k, base, z1, z2⟩ := q
          rw [y2] at z1; cases z1; cases z2
          have := hfne _ rfl; omega)
    have so2 : Sole0 D br B.blk.length := y3.fr k2 (fun q => by
      rcases q with q | q
      · cases q
      · cases fo with
        | none => exact q.elim
        | some f => have := hfne _ rfl; have : B.blk.length = f := q; omega)
    simp only [RS, xs_some, Option.bind_some, Option.map_some, if_true, if_false, decide_true, decide_false, true_and, and_true, Bool.not_true, Bool.not_false, Bool.false_eq_true, not_false_eq_true, not_true_eq_false, Nat.reduceLT, Nat.reduceBEq, Nat.reduceEqDiff, Nat.reduceAdd, Int.reduceEq, Int.reduceLT, Int.reduceLE, Int.reduceGT, Int.reduceGE, beq_self_eq_true, List.getElem?_toArray, List.getElem?_cons_zero, List.getElem?_cons_succ, List.append_nil, List.nil_append, List.cons_append, List.append_eq, bsl0, h1, y1, bldFS, h5]
    have hlen2 : ∀ B, evLen Try.prog 38 (.sl br 0 b.length 1) B = some (.int .i64 (b.length : Nat)) := fun B => by unfold evLen; rw [Try.underlying38]
    refine run_call1 k1 ?_
    simp only [RS, xs_some, Option.bind_some, Option.map_some, if_true, if_false, decide_true, decide_false, true_and, and_true, Bool.not_true, Bool.not_false, Bool.false_eq_true, not_false_eq_true, not_true_eq_false, Nat.reduceLT, Nat.reduceBEq, Nat.reduceEqDiff, Nat.reduceAdd, Int.reduceEq, Int.reduceLT, Int.reduceLE, Int.reduceGT, Int.reduceGE, beq_self_eq_true, List.getElem?_toArray, List.getElem?_cons_zero, List.getElem?_cons_succ, List.append_nil, List.nil_append, List.cons_append, List.append_eq]
    refine contQ_cut2 (fun z e E => Is z .normal ∧ e.get 0 = .int .i64 n ∧ e.get 1 = v ∧ e.get 5 = .ptr bp 0 ∧ e.get 6 = .int .i64 i ∧ e.get 7 = .sl br 0 b.length 1 ∧ Is E D) ?_ ?_
    · by_cases q : i < 600
      · have d1 : decide ((i : Int) < 600) = true := decide_eq_true (by omega)
        rw [if_pos q]
        simp only [RS, xs_some, Option.bind_some, Option.map_some, if_true, if_false, decide_true, decide_false, true_and, and_true, Bool.not_true, Bool.not_false, Bool.false_eq_true, not_false_eq_true, not_true_eq_false, Nat.reduceLT, Nat.reduceBEq, Nat.reduceEqDiff, Nat.reduceAdd, Int.reduceEq, Int.reduceLT, Int.reduceLE, Int.reduceGT, Int.reduceGE, beq_self_eq_true, List.getElem?_toArray, List.getElem?_cons_zero, List.getElem?_cons_succ, List.append_nil, List.nil_append, List.cons_append, List.append_eq, d1, h6, eq_bool Try.underlying4]
        exact ⟨rfl, h0, h1, h5, rfl⟩
      · have d1 : decide ((i : Int) < 600) = false := decide_eq_false (by omega)
        rw [if_neg q]
        simp only [RS, xs_some, Option.bind_some, Option.map_some, if_true, if_false, decide_true, decide_false, true_and, and_true, Bool.not_true, Bool.not_false, Bool.false_eq_true, not_false_eq_true, not_true_eq_false, Nat.reduceLT, Nat.reduceBEq, Nat.reduceEqDiff, Nat.reduceAdd, Int.reduceEq, Int.reduceLT, Int.reduceLE, Int.reduceGT, Int.reduceGE, beq_self_eq_true, List.getElem?_toArray, List.getElem?_cons_zero, List.getElem?_cons_succ, List.append_nil, List.nil_append, List.cons_append, List.append_eq, d1, h6, eq_bool Try.underlying4]
        exact ⟨rfl, h0, h1, h5, rfl⟩
    clear h0 h1 h5 h6
    rintro z e E ⟨rfl, h0, h1, h5, h6, h7, hE⟩
    obtain rfl : D = E := hE.symm
    simp only [RS, xs_some, Option.bind_some, Option.map_some, if_true, if_false, decide_true, decide_false, true_and, and_true, Bool.not_true, Bool.not_false, Bool.false_eq_true, not_false_eq_true, not_true_eq_false, Nat.reduceLT, Nat.reduceBEq, Nat.reduceEqDiff, Nat.reduceAdd, Int.reduceEq, Int.reduceLT, Int.reduceLE, Int.reduceGT, Int.reduceGE, beq_self_eq_true, List.getElem?_toArray, List.getElem?_cons_zero, List.getElem?_cons_succ, List.append_nil, List.nil_append, List.cons_append, List.append_eq, h7, hlen2]
    have hbr : A.blk.length ≤ br := by have := hM.fr.len; omega
    obtain ⟨f0, hf0⟩ : ∃ f, f = B.blk.length := ⟨_, rfl⟩
    rw [← hf0] at r2 so2 hM2 hf'
    refine run_loop_j (fun k e F => e.get 0 = .int .i64 n ∧ e.get 1 = v ∧ e.get 5 = .ptr bp 0 ∧ e.get 6 = .int .i64 i ∧ e.get 7 = .sl br 0 b.length 1 ∧ e.get 53 = .int .i64 b.length ∧ ∃ (j : Nat) (l : Bts), k = b.length - j ∧ j ≤ b.length ∧ e.get 54 = .int .i64 j ∧ MidF (· = f0) A F bp fo' (List.replicate (min (i + 1) 600) (mF b)) ∧ F.blk[br]? = some ⟨bc l, .arr f0 0⟩ ∧ l.length = b.length ∧ Sole0 F br f0)
      (fun z e F => Is z (.exit 2) ∧ e.get 0 = .int .i64 n ∧ e.get 1 = v ∧ e.get 5 = .ptr bp 0 ∧ e.get 6 = .int .i64 i ∧ MidF F0 A F bp fo' (List.replicate (min (i + 1) 600) (mF b)))
      ⟨_, h0, h1, h5, h6, h7, rfl, 0, b, rfl, by omega, rfl, hM2, r2, rfl, so2⟩ ?_ ?_
    rotate_left
    · rintro z e F hz ⟨rfl, h0, h1, h5, h6, hM⟩
      simp only [RS, xs_some, Option.bind_some, Option.map_some, if_true, if_false, decide_true, decide_false, true_and, and_true, Bool.not_true, Bool.not_false, Bool.false_eq_true, not_false_eq_true, not_true_eq_false, Nat.reduceLT, Nat.reduceBEq, Nat.reduceEqDiff, Nat.reduceAdd, Int.reduceEq, Int.reduceLT, Int.reduceLE, Int.reduceGT, Int.reduceGE, beq_self_eq_true, List.getElem?_toArray, List.getElem?_cons_zero, List.getElem?_cons_succ, List.append_nil, List.nil_append, List.cons_append, List.append_eq, h6]
      exact ⟨n - (i + 1), by omega, h0, h1, h5, i + 1, fo', rfl, by omega, by rw [wrapS (by omega)], hM⟩
    rintro k e F ⟨h0, h1, h5, h6, h7, h53, j, l, rfl, hj, h54, hM, rF, hl, so⟩
    simp only [RS, xs_some, Option.bind_some, Option.map_some, if_true, if_false, decide_true, decide_false, true_and, and_true, Bool.not_true, Bool.not_false, Bool.false_eq_true, not_false_eq_true, not_true_eq_false, Nat.reduceLT, Nat.reduceBEq, Nat.reduceEqDiff, Nat.reduceAdd, Int.reduceEq, Int.reduceLT, Int.reduceLE, Int.reduceGT, Int.reduceGE, beq_self_eq_true, List.getElem?_toArray, List.getElem?_cons_zero, List.getElem?_cons_succ, List.append_nil, List.nil_append, List.cons_append, List.append_eq, h53, h54]
    refine condK_of (fun g1 => ?_) (fun g1 => ?_)
    rotate_left
    · simp only [RS, xs_some, Option.bind_some, Option.map_some, if_true, if_false, decide_true, decide_false, true_and, and_true, Bool.not_true, Bool.not_false, Bool.false_eq_true, not_false_eq_true, not_true_eq_false, Nat.reduceLT, Nat.reduceBEq, Nat.reduceEqDiff, Nat.reduceAdd, Int.reduceEq, Int.reduceLT, Int.reduceLE, Int.reduceGT, Int.reduceGE, beq_self_eq_true, List.getElem?_toArray, List.getElem?_cons_zero, List.getElem?_cons_succ, List.append_nil, List.nil_append, List.cons_append, List.append_eq]
      exact ⟨rfl, h0, h1, h5, h6, hM.on_⟩
    obtain ⟨y, hy⟩ := get_lt (l := l) (i := j) (by omega)
    have had : evIndexAddr Try.prog 38 (.sl br 0 b.length 1) (.int .i64 (j : Int)) = some (.ptr br j) := by
      have := sl_addr (P := Try.prog) (t := 38) (b := br) (o := 0) (n := b.length) (k := .i64) (i := j) Try.underlying38 sz5 (by omega)
      simpa using this
    have hld : evLoad Try.prog 5 (.ptr br j) F = some (.int .u8 y.toNat) := by rw [load_at ag5 rF, bc_get, hy]; rfl
    obtain ⟨z, hzz⟩ := u8inc y
    obtain ⟨G, s1, s2, s3, s4⟩ := store_sole0 (P := Try.prog) (t := 5) (o := j) (x := .int .u8 (z.toNat : Int)) so rF rfl sz5 (by rw [bc_len]; simp; omega) rfl
    rw [putAt_bc (by omega)] at s3
    simp only [RS, xs_some, Option.bind_some, Option.map_some, if_true, if_false, decide_true, decide_false, true_and, and_true, Bool.not_true, Bool.not_false, Bool.false_eq_true, not_false_eq_true, not_true_eq_false, Nat.reduceLT, Nat.reduceBEq, Nat.reduceEqDiff, Nat.reduceAdd, Int.reduceEq, Int.reduceLT, Int.reduceLE, Int.reduceGT, Int.reduceGE, beq_self_eq_true, List.getElem?_toArray, List.getElem?_cons_zero, List.getElem?_cons_succ, List.append_nil, List.nil_append, List.cons_append, List.append_eq, h54, h7, had, hld, hzz, s1]
    exact ⟨b.length - (j + 1), by omega, h0, h1, h5, h6, h53, j + 1, l.set j z, rfl, by omega, by rw [wrapS (by omega)], hM.row hw s2 rF hbr hf', s3, by rw [List.length_set, hl], s4⟩
  · rintro z e B hz ⟨rfl, h0, h1, h5, fo, hM⟩
    simp only [RS, xs_some, Option.bind_some, Option.map_some, if_true, if_false, decide_true, decide_false, true_and, and_true, Bool.not_true, Bool.not_false, Bool.false_eq_true, not_false_eq_true, not_true_eq_false, Nat.reduceLT, Nat.reduceBEq, Nat.reduceEqDiff, Nat.reduceAdd, Int.reduceEq, Int.reduceLT, Int.reduceLE, Int.reduceGT, Int.reduceGE, beq_self_eq_true, List.getElem?_toArray, List.getElem?_cons_zero, List.getElem?_cons_succ, List.append_nil, List.nil_append, List.cons_append, List.append_eq, h5]
    obtain ⟨_, C, k1, rfl, k2, k3⟩ := allP_spec (A := B) (bp := bp)
    refine run_call1 k1 ?_
    simp only [RS, xs_some, Option.bind_some, Option.map_some, if_true, if_false, decide_true, decide_false, true_and, and_true, Bool.not_true, Bool.not_false, Bool.false_eq_true, not_false_eq_true, not_true_eq_false, Nat.reduceLT, Nat.reduceBEq, Nat.reduceEqDiff, Nat.reduceAdd, Int.reduceEq, Int.reduceLT, Int.reduceLE, Int.reduceGT, Int.reduceGE, beq_self_eq_true, List.getElem?_toArray, List.getElem?_cons_zero, List.getElem?_cons_succ, List.append_nil, List.nil_append, List.cons_append, List.append_eq]
    have hMC := hM.fr0 k2
    have wC := hMC.fr.wf hw
    have hlC := hMC.fr.len
    have hll := List.length_replicate (n := min n 600) (a := mF b)
    refine run_goesH (S := newS C.blk.length C.blk.length) (T := S0) (K := fun r => arrHp C r ≠ none) (Fin := fun _ => True) (AR := argP) (xs := (List.replicate (min n 600) (mF b)).mapIdx fun i x => (i, x))
      (fun i B' => i = 0 ∧ MidF F0 A B' bp fo (List.replicate (min n 600) (mF b)) ∧ Fr (newS C.blk.length C.blk.length) C B') (fun z B' => Is z (.exit 4) ∧ MidF F0 A B' bp fo (List.replicate (min n 600) (mF b)))
      rfl (fun q => q) (fun q => q) ?_ ⟨rfl, hMC, .refl _ _⟩ ?_ ?_
      Try.func15 Try.ntmps15 (by simp) ?_ ?_ ?_
    · intro A0 hf0 hblk
      have g := allP_goes (S := orLoop (newS C.blk.length C.blk.length) C.loops.length) (hf0.wf wC) (hMC.po.fr0 hf0) (hf0.row0 k3) (by omega) (fun x q => by obtain ⟨_, rfl⟩ := List.mem_replicate.1 q; show b.length ≤ _; omega)
      have e : arrHp A0 = arrHp C := by funext r; unfold arrHp; rw [hblk]
      rw [e] at g; exact g
    · rintro i B' D ⟨rfl, b1, b2⟩ hf
      exact ⟨rfl, b1.loop hw hMC.fr.llen hf, b2.trans hf fun z q => .inr (by subst q; exact Nat.le_refl _)⟩
    · rintro z B' D ⟨b0, b1⟩ hf
      exact ⟨b0, b1.loop hw hMC.fr.llen hf⟩
    · rintro i ⟨i', x⟩ B' D args hi ⟨rfl, b1, b2⟩ hBD hf ⟨br, f0, rfl, a1, a2, a3, a4⟩
      have hx : i' = 0 ∧ x = mF b := by
        rw [List.getElem?_mapIdx] at hi
        cases q : (List.replicate (min n 600) (mF b))[0]? with
        | none => rw [q] at hi; simp at hi
        | some y =>
          have := List.eq_of_mem_replicate (List.mem_of_getElem? q)
          rw [q] at hi; simp at hi; exact ⟨hi.1.symm, by rw [← hi.2, this]⟩
      obtain ⟨rfl, rfl⟩ := hx
      refine ⟨_, rfl, ?_⟩
      obtain ⟨E, s1, s2, s3⟩ := newMl (A := D) (x := mF b) (v := .sl br 0 b.length 1) rfl
      have s1 : evStore Try.prog 87 (.ptr D.blk.length 0) (.agg (mcl (mF b) (.sl br 0 (mF b).b.length 1))) (D.push ⟨[.bool false, .int .i64 0, .bool false, .int .i64 0, .snil], .var⟩) = some E := s1
      simp only [RS, xs_some, Option.bind_some, Option.map_some, if_true, if_false, decide_true, decide_false, true_and, and_true, Bool.not_true, Bool.not_false, Bool.false_eq_true, not_false_eq_true, not_true_eq_false, Nat.reduceLT, Nat.reduceBEq, Nat.reduceEqDiff, Nat.reduceAdd, Int.reduceEq, Int.reduceLT, Int.reduceLE, Int.reduceGT, Int.reduceGE, beq_self_eq_true, List.getElem?_toArray, List.getElem?_cons_zero, List.getElem?_cons_succ, List.append_nil, List.nil_append, List.cons_append, List.append_eq, zc87, s1]
      refine ⟨rfl, s2.mono fun _ q => q.elim, fun E1 hE => ?_⟩
      have hM4 := ((b1.off hw (hBD.then0 s2) a3).loop hw hMC.fr.llen hE)
      have hl4 := b2.len
      have c5 := hE.loop_row s3
      have c6 := hE.loop_row (s2.row0 a1)
      have so6 := (a2.fr s2 fun q => q).fr hE fun q => by cases q
      have ld5 := (ldMl c5).2.2.2.2.1
      have fM := faMl D.blk.length
      have hlen2 : ∀ B, evLen Try.prog 38 (.sl br 0 b.length 1) B = some (.int .i64 (b.length : Nat)) := fun B => by unfold evLen; rw [Try.underlying38]
      have hff : fo ≠ some f0 := fun q => by have := b1.po.famLt _ q; omega
      have hbr : A.blk.length ≤ br := by have := b1.fr.len; omega
      have hbd : br ≠ D.blk.length := fun q => by
        have := row_lt a1; omega
      simp only [RS, xs_some, Option.bind_some, Option.map_some, if_true, if_false, decide_true, decide_false, true_and, and_true, Bool.not_true, Bool.not_false, Bool.false_eq_true, not_false_eq_true, not_true_eq_false, Nat.reduceLT, Nat.reduceBEq, Nat.reduceEqDiff, Nat.reduceAdd, Int.reduceEq, Int.reduceLT, Int.reduceLE, Int.reduceGT, Int.reduceGE, beq_self_eq_true, List.getElem?_toArray, List.getElem?_cons_zero, List.getElem?_cons_succ, List.append_nil, List.nil_append, List.cons_append, List.append_eq, fM, ld5, hlen2]
      refine run_loop_j (fun k e F => e.get 11 = .ptr D.blk.length 0 ∧ e.get 69 = .int .i64 b.length ∧ ∃ (j : Nat) (l : Bts), k = b.length - j ∧ j ≤ b.length ∧ e.get 70 = .int .i64 j ∧ MidF (· = f0) A F bp fo (List.replicate (min n 600) (mF b)) ∧ F.blk[br]? = some ⟨bc l, .arr f0 0⟩ ∧ l.length = b.length ∧ Sole0 F br f0 ∧ F.blk[D.blk.length]? = some ⟨mcl (mF b) (.sl br 0 b.length 1), .var⟩ ∧ Fr (newS C.blk.length C.blk.length) E1 F)
        (fun z e F => Is z (.exit 6) ∧ MidF F0 A F bp fo (List.replicate (min n 600) (mF b)) ∧ Fr (newS C.blk.length C.blk.length) E1 F)
        ⟨_, rfl, rfl, 0, b, rfl, by omega, rfl, hM4, c6, rfl, so6, c5, .refl _ _⟩ ?_ ?_
      rotate_left
      · rintro z e F hz ⟨rfl, hM, hfr⟩
        simp only [RS, xs_some, Option.bind_some, Option.map_some, if_true, if_false, decide_true, decide_false, true_and, and_true, Bool.not_true, Bool.not_false, Bool.false_eq_true, not_false_eq_true, not_true_eq_false, Nat.reduceLT, Nat.reduceBEq, Nat.reduceEqDiff, Nat.reduceAdd, Int.reduceEq, Int.reduceLT, Int.reduceLE, Int.reduceGT, Int.reduceGE, beq_self_eq_true, List.getElem?_toArray, List.getElem?_cons_zero, List.getElem?_cons_succ, List.append_nil, List.nil_append, List.cons_append, List.append_eq]
        exact ⟨hfr, .inr ⟨by simp, rfl, hM⟩⟩
      rintro k e F ⟨h11, h69, j, l, rfl, hj, h70, hM, rF, hl, so, rD, hfr⟩
      simp only [RS, xs_some, Option.bind_some, Option.map_some, if_true, if_false, decide_true, decide_false, true_and, and_true, Bool.not_true, Bool.not_false, Bool.false_eq_true, not_false_eq_true, not_true_eq_false, Nat.reduceLT, Nat.reduceBEq, Nat.reduceEqDiff, Nat.reduceAdd, Int.reduceEq, Int.reduceLT, Int.reduceLE, Int.reduceGT, Int.reduceGE, beq_self_eq_true, List.getElem?_toArray, List.getElem?_cons_zero, List.getElem?_cons_succ, List.append_nil, List.nil_append, List.cons_append, List.append_eq, h69, h70]
      refine condK_of (fun g1 => ?_) (fun g1 => ?_)
      rotate_left
      · simp only [RS, xs_some, Option.bind_some, Option.map_some, if_true, if_false, decide_true, decide_false, true_and, and_true, Bool.not_true, Bool.not_false, Bool.false_eq_true, not_false_eq_true, not_true_eq_false, Nat.reduceLT, Nat.reduceBEq, Nat.reduceEqDiff, Nat.reduceAdd, Int.reduceEq, Int.reduceLT, Int.reduceLE, Int.reduceGT, Int.reduceGE, beq_self_eq_true, List.getElem?_toArray, List.getElem?_cons_zero, List.getElem?_cons_succ, List.append_nil, List.nil_append, List.cons_append, List.append_eq]
        exact ⟨rfl, hM.on_, hfr⟩
      obtain ⟨y, hy⟩ := get_lt (l := l) (i := j) (by omega)
      have had : evIndexAddr Try.prog 38 (.sl br 0 b.length 1) (.int .i64 (j : Int)) = some (.ptr br j) := by
        have := sl_addr (P := Try.prog) (t := 38) (b := br) (o := 0) (n := b.length) (k := .i64) (i := j) Try.underlying38 sz5 (by omega)
        simpa using this
      have hld : evLoad Try.prog 5 (.ptr br j) F = some (.int .u8 y.toNat) := by rw [load_at ag5 rF, bc_get, hy]; rfl
      obtain ⟨z, hzz⟩ := u8inc y
      obtain ⟨G, s1, s2, s3, s4⟩ := store_sole0 (P := Try.prog) (t := 5) (o := j) (x := .int .u8 (z.toNat : Int)) so rF rfl sz5 (by rw [bc_len]; simp; omega) rfl
      rw [putAt_bc (by omega)] at s3
      have ldF := (ldMl rD).2.2.2.2.1
      simp only [RS, xs_some, Option.bind_some, Option.map_some, if_true, if_false, decide_true, decide_false, true_and, and_true, Bool.not_true, Bool.not_false, Bool.false_eq_true, not_false_eq_true, not_true_eq_false, Nat.reduceLT, Nat.reduceBEq, Nat.reduceEqDiff, Nat.reduceAdd, Int.reduceEq, Int.reduceLT, Int.reduceLE, Int.reduceGT, Int.reduceGE, beq_self_eq_true, List.getElem?_toArray, List.getElem?_cons_zero, List.getElem?_cons_succ, List.append_nil, List.nil_append, List.cons_append, List.append_eq, h70, h11, fM, ldF, had, hld, hzz, s1]
      exact ⟨b.length - (j + 1), by omega, h69, j + 1, l.set j z, rfl, by omega, by rw [wrapS (by omega)], hM.row hw s2 rF hbr hff, s3, by rw [List.length_set, hl], s4, s2.rowNe rD (fun q => hbd q.symm), hfr.trans s2 fun z q => .inl (by subst q; exact .inr (by omega))⟩
    · rintro B' D ⟨b0, _⟩
      rw [List.length_mapIdx, hll] at b0
      omega
    · rintro z D hz ⟨rfl, hM⟩ hf
      simp only [RS, xs_some, Option.bind_some, Option.map_some, if_true, if_false, decide_true, decide_false, true_and, and_true, Bool.not_true, Bool.not_false, Bool.false_eq_true, not_false_eq_true, not_true_eq_false, Nat.reduceLT, Nat.reduceBEq, Nat.reduceEqDiff, Nat.reduceAdd, Int.reduceEq, Int.reduceLT, Int.reduceLE, Int.reduceGT, Int.reduceGE, beq_self_eq_true, List.getElem?_toArray, List.getElem?_cons_zero, List.getElem?_cons_succ, List.append_nil, List.nil_append, List.cons_append, List.append_eq, h5]
      obtain ⟨_, _, y1, rfl, rfl⟩ := len_spec hM.po
      rw [hll] at y1
      refine run_call1 y1 ?_
      have hmm : evMM (fun x y => if y < x then y else x) [.int .i64 (n : Int), .int .i64 600] = some (.int .i64 ((min n 600 : Nat) : Int)) := by
        show foldMM _ _ _ _ = _
        simp only [foldMM, if_true]
        congr 2
        split <;> omega
      have hne : (((min n 600 : Nat) : Int) != ((min n 600 : Nat) : Int)) = false := by simp
      simp only [RS, xs_some, Option.bind_some, Option.map_some, if_true, if_false, decide_true, decide_false, true_and, and_true, Bool.not_true, Bool.not_false, Bool.false_eq_true, not_false_eq_true, not_true_eq_false, Nat.reduceLT, Nat.reduceBEq, Nat.reduceEqDiff, Nat.reduceAdd, Int.reduceEq, Int.reduceLT, Int.reduceLE, Int.reduceGT, Int.reduceGE, beq_self_eq_true, List.getElem?_toArray, List.getElem?_cons_zero, List.getElem?_cons_succ, List.append_nil, List.nil_append, List.cons_append, List.append_eq, h0, hmm, hne, h5]
      have hL0 : (List.replicate (min n 600) (mF b))[0]? = some (mF b) := by rw [List.getElem?_replicate]; rw [if_pos (by omega)]
      have htw : twL (List.replicate (min n 600) (mF b)) 0 = List.replicate (min (n + 1) 600) (mF b) ∧ twC (List.replicate (min n 600) (mF b)) 0 = if n < 600 then 0 else 3 := by
        have e : (if (0 : Int) < 0 then none else (List.replicate (min n 600) (mF b))[(0 : Int).toNat]?) = some (mF b) := by rw [if_neg (by omega)]; exact hL0
        unfold twL twC; rw [e]
        exact repF b n
      obtain ⟨_, D2, u1, rfl, u2, fo2, u3, u4⟩ := twice_spec (i := 0) (hM.fr.wf hw) (fun f q => q.elim) hM.po (fun x q => by obtain ⟨_, rfl⟩ := List.mem_replicate.1 q; show b.length ≤ _; omega) (by omega)
      have hM2 := hM.post hw u2 u3 u4
      rw [htw.1] at hM2
      rw [htw.2] at u1
      refine run_call1 u1 ?_
      obtain ⟨_, D3, w1, w2, v3, rfl, w3, w4⟩ := take_spec (i := 0) (hM2.fr.wf hw) hM2.po (by rw [List.length_replicate]; omega)
      have htk : tkM (List.replicate (min (n + 1) 600) (mF b)) 0 = mF b ∧ tkC (List.replicate (min (n + 1) 600) (mF b)) 0 = 0 ∧ (tkL (List.replicate (min (n + 1) 600) (mF b)) 0).length < 600 := by
        have hlr := List.length_replicate (n := min (n + 1) 600) (a := mF b)
        refine ⟨?_, ?_, ?_⟩
        · unfold tkM; rw [if_neg (by omega)]
          show ((List.replicate (min (n + 1) 600) (mF b))[0]?).getD pm0 = _
          rw [List.getElem?_replicate, if_pos (by omega)]; rfl
        · unfold tkC; rw [if_neg (by omega)]
        · unfold tkL; rw [if_neg (by omega)]
          show ((List.replicate (min (n + 1) 600) (mF b)).eraseIdx 0).length < 600
          rw [List.length_eraseIdx, hlr, if_pos (by omega)]; omega
      rw [htk.1] at w1 w3
      rw [htk.2.1] at w1
      have hM3 := hM2.post hw w2 .rfl' w4
      refine run_cut2 (fun z e E => Is z .normal ∧ e.get 1 = v ∧ e.get 5 = .ptr bp 0 ∧ Is E D2) ?_ ?_
      · by_cases q : n < 600
        · rw [if_pos q]
          have d1 : decide ((n : Int) < 600) = true := decide_eq_true (by omega)
          simp only [RS, xs_some, Option.bind_some, Option.map_some, if_true, if_false, decide_true, decide_false, true_and, and_true, Bool.not_true, Bool.not_false, Bool.false_eq_true, not_false_eq_true, not_true_eq_false, Nat.reduceLT, Nat.reduceBEq, Nat.reduceEqDiff, Nat.reduceAdd, Int.reduceEq, Int.reduceLT, Int.reduceLE, Int.reduceGT, Int.reduceGE, beq_self_eq_true, List.getElem?_toArray, List.getElem?_cons_zero, List.getElem?_cons_succ, List.append_nil, List.nil_append, List.cons_append, List.append_eq, h0, d1, eq_bool Try.underlying4]
          exact ⟨rfl, h1, h5, rfl⟩
        · rw [if_neg q]
          have d1 : decide ((n : Int) < 600) = false := decide_eq_false (by omega)
          simp only [RS, xs_some, Option.bind_some, Option.map_some, if_true, if_false, decide_true, decide_false, true_and, and_true, Bool.not_true, Bool.not_false, Bool.false_eq_true, not_false_eq_true, not_true_eq_false, Nat.reduceLT, Nat.reduceBEq, Nat.reduceEqDiff, Nat.reduceAdd, Int.reduceEq, Int.reduceLT, Int.reduceLE, Int.reduceGT, Int.reduceGE, beq_self_eq_true, List.getElem?_toArray, List.getElem?_cons_zero, List.getElem?_cons_succ, List.append_nil, List.nil_append, List.cons_append, List.append_eq, h0, d1, eq_bool Try.underlying4]
          exact ⟨rfl, h1, h5, rfl⟩
      clear h0 h1 h5
      rintro z e E ⟨rfl, h1, h5, hE⟩
      obtain rfl : D2 = E := hE.symm
      simp only [RS, xs_some, Option.bind_some, Option.map_some, if_true, if_false, decide_true, decide_false, true_and, and_true, Bool.not_true, Bool.not_false, Bool.false_eq_true, not_false_eq_true, not_true_eq_false, Nat.reduceLT, Nat.reduceBEq, Nat.reduceEqDiff, Nat.reduceAdd, Int.reduceEq, Int.reduceLT, Int.reduceLE, Int.reduceGT, Int.reduceGE, beq_self_eq_true, List.getElem?_toArray, List.getElem?_cons_zero, List.getElem?_cons_succ, List.append_nil, List.nil_append, List.cons_append, List.append_eq, h5]
      refine run_call1 w1 ?_
      obtain ⟨K, s1, s2, s3⟩ := newMl (A := D3) (x := mF b) (v := v3) w3.one
      have s1 : evStore Try.prog 87 (.ptr D3.blk.length 0) (.agg (mcl (mF b) v3)) (D3.push ⟨[.bool false, .int .i64 0, .bool false, .int .i64 0, .snil], .var⟩) = some K := s1
      have hM4 := hM3.fr0 s2
      have fM := faMl D3.blk.length
      have ldK := ldMl s3
      have hv4 : Slc eU8 (qHp (exF fo2 F0) K) v3 (mF b).b := w3.mono (qHp_fr0 s2)
      have g7 := cnv_text (P := Try.prog) (s := 38) (d := 9) (by decide) hv4 (qHp_on _ K) Try.underlying38 Try.underlying5 Try.underlying9
      have g8 := cnv_text (P := Try.prog) (s := 38) (d := 9) (by decide) h (nsOn hm hM4.fr) Try.underlying38 Try.underlying5 Try.underlying9
      have hbb : decide ((mF b).b = b) = true := decide_eq_true rfl
      obtain ⟨_, D5, x1, rfl, x2, fo5, x3, x4⟩ := put_spec (X := F0) (x := mF b) (hM4.fr.wf hw) (fun f q => q.elim) hM4.po (qHp_on _ K) hv4 (by show b.length ≤ _; omega)
      rw [(putL_small htk.2.2 (mF b)).2] at x1
      simp only [RS, xs_some, Option.bind_some, Option.map_some, if_true, if_false, decide_true, decide_false, true_and, and_true, Bool.not_true, Bool.not_false, Bool.false_eq_true, not_false_eq_true, not_true_eq_false, Nat.reduceLT, Nat.reduceBEq, Nat.reduceEqDiff, Nat.reduceAdd, Int.reduceEq, Int.reduceLT, Int.reduceLE, Int.reduceGT, Int.reduceGE, beq_self_eq_true, List.getElem?_toArray, List.getElem?_cons_zero, List.getElem?_cons_succ, List.append_nil, List.nil_append, List.cons_append, List.append_eq, zc87, s1, fM, ldK, g7, h1, g8, hbb, h5]
      refine run_call1 x1 ?_
      simp only [RS, xs_some, Option.bind_some, Option.map_some, if_true, if_false, decide_true, decide_false, true_and, and_true, Bool.not_true, Bool.not_false, Bool.false_eq_true, not_false_eq_true, not_true_eq_false, Nat.reduceLT, Nat.reduceBEq, Nat.reduceEqDiff, Nat.reduceAdd, Int.reduceEq, Int.reduceLT, Int.reduceLE, Int.reduceGT, Int.reduceGE, beq_self_eq_true, List.getElem?_toArray, List.getElem?_cons_zero, List.getElem?_cons_succ, List.append_nil, List.nil_append, List.cons_append, List.append_eq]
end Go.Sv.Try
