/- Mails on their way: what is put, taken, comes twice. -/
import Derived.Test.YtnogkphkjkbbhaaSv4
import Derived.Test.YtnogkphkjkbbhaaLaws
namespace Go.Sv.Try
open Go Go.Proofs
set_option linter.unusedVariables false
set_option linter.unusedSimpArgs false
structure PM where
  fc : Bool
  fn : Int
  tc : Bool
  tn : Int
  b : Bts
def mcl (x : PM) (v : V) : List V := [.bool x.fc, .int .i64 x.fn, .bool x.tc, .int .i64 x.tn, v]
def rcl (x : PM) : List V := [.bool x.fc, .bool x.tc, .int .i64 x.fn, .int .i64 x.tn, .str x.b]
def eMail : Enc PM := ⟨5, true, fun m cs x => ∃ v, cs = mcl x v ∧ Slc eU8 m v x.b, fun ⟨v, h, _⟩ => by rw [h]; rfl, fun h => by simp at h, fun ⟨v, h, q⟩ => by rw [h]; simp only [mcl, List.all_cons, List.all_nil, q.one]; rfl, fun hm ⟨v, h, q⟩ => ⟨v, h, q.mono hm⟩⟩
def eRM : Enc PM := ⟨5, true, fun _ cs x => cs = rcl x, fun h => by rw [h]; rfl, fun h => by simp at h, fun h => by rw [h]; simp [rcl, V.one], fun _ h => h⟩
theorem eMail_W {m : Hp} {w : V} {x : PM} : eMail.W m w x ↔ ∃ v, w = .agg (mcl x v) ∧ Slc eU8 m v x.b := by
  unfold Enc.W; rw [if_pos (by rfl)]
  exact ⟨fun ⟨cs, h, v, h1, h2⟩ => ⟨v, by rw [h, h1], h2⟩, fun ⟨v, h, h2⟩ => ⟨_, h, v, rfl, h2⟩⟩
theorem eRM_W {m : Hp} {w : V} {x : PM} : eRM.W m w x ↔ w = .agg (rcl x) := by
  unfold Enc.W; rw [if_pos (by rfl)]
  exact ⟨fun ⟨cs, h, h1⟩ => by rw [h]; rw [show cs = rcl x from h1], fun h => ⟨_, h, rfl⟩⟩
def pm0 : PM := ⟨false, 0, false, 0, []⟩
def exF (fo : Option Nat) (X : Nat → Prop) (f : Nat) : Prop := fo = some f ∨ X f
def PostIs (X : Nat → Prop) (A : AS) (bp : Nat) (fo : Option Nat) (l : List PM) : Prop := ∃ w, A.blk[bp]? = some ⟨[w], .var⟩ ∧ Lst eMail (qHp (exF fo X) A) A w l fo
def postS (A : AS) (bp : Nat) (fo : Option Nat) : Loc → Prop := fun x => x = .row bp ∨ inFamO A fo x
theorem PostIs.fr {X : Nat → Prop} {A A' : AS} {bp : Nat} {fo : Option Nat} {l : List PM} {S : Loc → Prop} (h : PostIs X A bp fo l) (hf : Fr S A A') (hw : WF A) (hT : Tch X A S) (hO : Off fo A S) (hb : ¬ S (.row bp)) : PostIs X A' bp fo l := by
  obtain ⟨w, h1, h2⟩ := h
  exact ⟨w, hf.row _ _ h1 hb, (h2.fr hf hO).mono (qHp_fr hf (hT.mono fun f q => .inr q) hw fun f q => .inl q)⟩
theorem PostIs.fr0 {X : Nat → Prop} {A A' : AS} {bp : Nat} {fo : Option Nat} {l : List PM} (h : PostIs X A bp fo l) (hf : Fr S0 A A') : PostIs X A' bp fo l := by
  obtain ⟨w, h1, h2⟩ := h
  exact ⟨w, hf.row _ _ h1 fun q => q, (h2.fr0 hf).mono (qHp_fr0 hf)⟩
theorem PostIs.famLt {X : Nat → Prop} {A : AS} {bp : Nat} {fo : Option Nat} {l : List PM} (h : PostIs X A bp fo l) : ∀ f, fo = some f → f < A.blk.length := by
  obtain ⟨w, h1, h2⟩ := h; exact h2.famLt
theorem postS_back {S : Loc → Prop} {A A' : AS} {bp : Nat} {fo : Option Nat} (hf : Fr S A A') {z : Loc} (h : postS A' bp fo z) : postS A bp fo z ∨ z.newTo A := by
  rcases h with h | h
  · exact .inl (.inl h)
  · exact (inFamO_back hf h).imp .inr id
theorem postS_tch {A : AS} {X : Nat → Prop} {bp : Nat} {fo : Option Nat} {cs : List V} (hb : A.blk[bp]? = some ⟨cs, .var⟩) : Tch (exF fo X) A (postS A bp fo) := (Tch.box hb).or (.famO fun f q => .inl q)
def putL (l : List PM) (x : PM) : List PM := if l.length ≥ 600 then l else l ++ [x]
def putC (l : List PM) : Int := if l.length ≥ 600 then 3 else 0
theorem faPo (b : Nat) : evFieldAddr Try.prog 81 (.ptr b 0) 0 = some (.ptr b 0) := by kernel_rfl
theorem faMl (b : Nat) : evFieldAddr Try.prog 87 (.ptr b 0) 0 = some (.ptr b 0) ∧ evFieldAddr Try.prog 87 (.ptr b 0) 1 = some (.ptr b 2) ∧ evFieldAddr Try.prog 87 (.ptr b 0) 2 = some (.ptr b 4) := ⟨by kernel_rfl, by kernel_rfl, by kernel_rfl⟩
theorem faPl (b : Nat) : evFieldAddr Try.prog 85 (.ptr b 0) 0 = some (.ptr b 0) ∧ evFieldAddr Try.prog 85 (.ptr b 0) 1 = some (.ptr b 1) ∧ evFieldAddr Try.prog 85 (.ptr b 2) 0 = some (.ptr b 2) ∧ evFieldAddr Try.prog 85 (.ptr b 2) 1 = some (.ptr b 3) := ⟨by kernel_rfl, by kernel_rfl, by kernel_rfl, by kernel_rfl⟩
theorem bslML (cs : List V) (h : cs.length = 5) : bsl Try.prog 79 1 (some [(0, .agg cs)]) = some (.newSl cs 1 5) := bsl_one Try.underlying79 sz87 zc87 rfl h (by decide)
theorem ldMl {A : AS} {b : Nat} {k : BK} {x : PM} {v : V} (h : A.blk[b]? = some ⟨mcl x v, k⟩) : evLoad Try.prog 4 (.ptr b 0) A = some (.bool x.fc) ∧ evLoad Try.prog 3 (.ptr b 1) A = some (.int .i64 x.fn) ∧ evLoad Try.prog 4 (.ptr b 2) A = some (.bool x.tc) ∧ evLoad Try.prog 3 (.ptr b 3) A = some (.int .i64 x.tn) ∧ evLoad Try.prog 38 (.ptr b 4) A = some v ∧ evLoad Try.prog 87 (.ptr b 0) A = some (.agg (mcl x v)) := by
  refine ⟨?_, ?_, ?_, ?_, ?_, ?_⟩
  · rw [load_at ag4 h]; rfl
  · rw [load_at ag3 h]; rfl
  · rw [load_at ag4 h]; rfl
  · rw [load_at ag3 h]; rfl
  · rw [load_at ag38 h]; rfl
  · rw [load_agg ag87 sz87]
    unfold AS.range; rw [h]; rfl
set_option maxRecDepth 10000 in
set_option maxHeartbeats 16000000 in
theorem put_spec {X : Nat → Prop} {A : AS} {bp : Nat} {fo : Option Nat} {l : List PM} {x : PM} {v : V} {m2 : Hp} (hw : WF A) (hX : ∀ f, X f → f < A.blk.length) (h : PostIs X A bp fo l) (hm2 : m2.on A) (hv : Slc eU8 m2 v x.b) (hb : x.b.length ≤ 1000000000000) :
    ∃ w A', EvF Try.prog HH 38 [.ptr bp 0, .agg (mcl x v)] A w A' ∧ w = .int .i64 (putC l) ∧ Fr (postS A bp fo) A A' ∧ ∃ fo', Gr A fo fo' ∧ PostIs X A' bp fo' (putL l x) := by
  refine run_fn2 rfl Try.func38 (by unfold Try.f38; rfl) Try.ntmps38 (by unfold Try.f38; rfl) (by simp) ?_
  simp only [RS, xs_some, Option.bind_some, Option.map_some, if_true, if_false, decide_true, decide_false, true_and, and_true, Bool.not_true, Bool.not_false, Bool.false_eq_true, not_false_eq_true, not_true_eq_false, Nat.reduceLT, Nat.reduceBEq, Nat.reduceEqDiff, Nat.reduceAdd, Int.reduceEq, Int.reduceLT, Int.reduceLE, Int.reduceGT, Int.reduceGE, beq_self_eq_true, List.getElem?_toArray, List.getElem?_cons_zero, List.getElem?_cons_succ, List.append_nil, List.nil_append, List.cons_append, List.append_eq]
  obtain ⟨A1, e1, f1, r1, n1⟩ := new_var A (mcl x v)
  rw [← e1]
  obtain ⟨bx, hbx⟩ : ∃ b, b = A.blk.length := ⟨_, rfl⟩
  rw [← hbx] at r1 ⊢
  have w1 := f1.wf hw
  have h1 := h.fr0 f1
  obtain ⟨w, hbox, hl⟩ := h1
  have hlen := fun B => hl.len (P := Try.prog) Try.underlying79 B
  have ldp : evLoad Try.prog 79 (.ptr bp 0) A1 = some w := load_one ag79 hbox
  simp only [RS, xs_some, Option.bind_some, Option.map_some, if_true, if_false, decide_true, decide_false, true_and, and_true, Bool.not_true, Bool.not_false, Bool.false_eq_true, not_false_eq_true, not_true_eq_false, Nat.reduceLT, Nat.reduceBEq, Nat.reduceEqDiff, Nat.reduceAdd, Int.reduceEq, Int.reduceLT, Int.reduceLE, Int.reduceGT, Int.reduceGE, beq_self_eq_true, List.getElem?_toArray, List.getElem?_cons_zero, List.getElem?_cons_succ, List.append_nil, List.nil_append, List.cons_append, List.append_eq, faPo, ldp, hlen]
  refine condK_of (fun g => ?_) (fun g => ?_)
  · simp only [RS, xs_some, Option.bind_some, Option.map_some, if_true, if_false, decide_true, decide_false, true_and, and_true, Bool.not_true, Bool.not_false, Bool.false_eq_true, not_false_eq_true, not_true_eq_false, Nat.reduceLT, Nat.reduceBEq, Nat.reduceEqDiff, Nat.reduceAdd, Int.reduceEq, Int.reduceLT, Int.reduceLE, Int.reduceGT, Int.reduceGE, beq_self_eq_true, List.getElem?_toArray, List.getElem?_cons_zero, List.getElem?_cons_succ, List.append_nil, List.nil_append, List.cons_append, List.append_eq]
    have e : (l.length ≥ 600) := by omega
    exact ⟨by unfold putC; rw [if_pos e], f1.mono fun _ q => q.elim, fo, .inl rfl, by unfold putL; rw [if_pos e]; exact ⟨w, hbox, hl⟩⟩
  · have e : ¬ (l.length ≥ 600) := by omega
    obtain ⟨v', A2, f2, y1, y2, y3, y4⟩ := copy_new (P := Try.prog) (n := 1) (E := eU8) (t := 38) (tx := 38) rfl w1 sl38 Try.underlying38 hv (hm2.fr0 f1) (by omega) (by omega)
    have r2 := y4.row0 r1
    have fM := faMl bx
    have ld1 := ldMl ((Fr.pushArr A1 []).row0 r1)
    simp only [RS, xs_some, Option.bind_some, Option.map_some, if_true, if_false, decide_true, decide_false, true_and, and_true, Bool.not_true, Bool.not_false, Bool.false_eq_true, not_false_eq_true, not_true_eq_false, Nat.reduceLT, Nat.reduceBEq, Nat.reduceEqDiff, Nat.reduceAdd, Int.reduceEq, Int.reduceLT, Int.reduceLE, Int.reduceGT, Int.reduceGE, beq_self_eq_true, List.getElem?_toArray, List.getElem?_cons_zero, List.getElem?_cons_succ, List.append_nil, List.nil_append, List.cons_append, List.append_eq, fM, ld1, bsl0, y1]
    obtain ⟨A3, s1, s2, s3, s4⟩ := store_var (P := Try.prog) (t := 38) (o := 4) (x := v') r2 y2.cells1 sz38 (by simp [mcl]) (by simp [y2.one])
    have s3 : A3.blk[bx]? = some ⟨mcl x v', .var⟩ := s3
    have f2' := (f1.then0 y4).row_ s2 (by omega)
    have w2 := y4.wf w1
    have w3 := s2.wf w2
    have hbp : bp ≠ bx := fun q => by subst q; rw [hbox] at r1; cases r1
    have b3 := s2.row _ _ (y4.row0 hbox) (fun q => hbp (by cases q; rfl))
    have ld3 := ldMl s3
    have ldp3 : evLoad Try.prog 79 (.ptr bp 0) A3 = some w := load_one ag79 b3
    have h3 : PostIs X A3 bp fo l := (PostIs.fr0 ⟨w, hbox, hl⟩ y4).fr s2 w2 (.box r2) (.box r2) (fun q => hbp (by cases q; rfl))
    obtain ⟨w', b3', l3⟩ := h3
    rw [b3] at b3'; cases b3'
    have hf2 : ¬ exF fo X f2 := fun q => by
      have := f1.len
      rcases q with q | q
      · have := h.famLt _ q; omega
      · have := hX _ q; omega
    have hv3 : Slc eU8 (qHp (exF fo X) A3) v' x.b := (y2.fr s2 (.box r2)).slcQ (m := Hp.emp) (fun b cs q => by simp [Hp.emp] at q) (fun f q => by cases q; exact hf2)
    obtain ⟨v4, A4, fo', p1, p2, p3, p4⟩ := l3.push (P := Try.prog) (t := 79) (tx := 79) (n := 5) rfl sl79 Try.underlying79 w3 (y := x) (cs' := mcl x v') ⟨v', rfl, hv3⟩ (by omega) (by omega)
    have b4 := p3.row _ _ b3 (inFamO_var b3)
    obtain ⟨A5, u1, u2, u3, u4⟩ := store_one (P := Try.prog) (t := 79) (x := v4) b4 p2.cells1 sz79 p2.one
    simp only [RS, xs_some, Option.bind_some, Option.map_some, if_true, if_false, decide_true, decide_false, true_and, and_true, Bool.not_true, Bool.not_false, Bool.false_eq_true, not_false_eq_true, not_true_eq_false, Nat.reduceLT, Nat.reduceBEq, Nat.reduceEqDiff, Nat.reduceAdd, Int.reduceEq, Int.reduceLT, Int.reduceLE, Int.reduceGT, Int.reduceGE, beq_self_eq_true, List.getElem?_toArray, List.getElem?_cons_zero, List.getElem?_cons_succ, List.append_nil, List.nil_append, List.cons_append, List.append_eq, s1]
    rw [pl_38_4, run_plan_id (by rfl)]
    simp only [RS, xs_some, Option.bind_some, Option.map_some, if_true, if_false, decide_true, decide_false, true_and, and_true, Bool.not_true, Bool.not_false, Bool.false_eq_true, not_false_eq_true, not_true_eq_false, Nat.reduceLT, Nat.reduceBEq, Nat.reduceEqDiff, Nat.reduceAdd, Int.reduceEq, Int.reduceLT, Int.reduceLE, Int.reduceGT, Int.reduceGE, beq_self_eq_true, List.getElem?_toArray, List.getElem?_cons_zero, List.getElem?_cons_succ, List.append_nil, List.nil_append, List.cons_append, List.append_eq, faPo, ldp3, ld3, bslML _ (show (mcl x v').length = 5 from rfl), p1, u1]
    refine ⟨by unfold putC; rw [if_neg e], ?_, fo', p4.from (by have := f2'.len; omega), v4, u3, ?_⟩
    · refine ((f2'.mono fun _ q => q.elim : Fr (postS A bp fo) A A3).trans p3 fun z q => (inFamO_back f2' q).imp .inr id).trans u2 fun z q => .inl (.inl q)
    · unfold putL; rw [if_neg e]
      refine (p2.fr u2 (.box b4)).mono (Hp.le_trans (qHp_fr (X := exF fo X) p3 (.famO fun f q => .inl q) w3 (Y := exF fo' X) fun f q => ?_) (qHp_fr u2 (.box b4) (p3.wf w3) fun f q => .inl q))
      exact q.elim (fun q => (p4.or q).imp .inl id) fun q => .inl (.inr q)
theorem len_spec {X : Nat → Prop} {A : AS} {bp : Nat} {fo : Option Nat} {l : List PM} (h : PostIs X A bp fo l) : ∃ w A', EvF Try.prog HH 41 [.ptr bp 0] A w A' ∧ A' = A ∧ w = .int .i64 l.length := by
  refine run_fn2 rfl Try.func41 (by unfold Try.f41; rfl) Try.ntmps41 (by unfold Try.f41; rfl) (by simp) ?_
  obtain ⟨w, hbox, hl⟩ := h
  have hlen := fun B => hl.len (P := Try.prog) Try.underlying79 B
  have ldp : evLoad Try.prog 79 (.ptr bp 0) A = some w := load_one ag79 hbox
  simp only [RS, xs_some, Option.bind_some, Option.map_some, if_true, if_false, decide_true, decide_false, true_and, and_true, Bool.not_true, Bool.not_false, Bool.false_eq_true, not_false_eq_true, not_true_eq_false, Nat.reduceLT, Nat.reduceBEq, Nat.reduceEqDiff, Nat.reduceAdd, Int.reduceEq, Int.reduceLT, Int.reduceLE, Int.reduceGT, Int.reduceGE, beq_self_eq_true, List.getElem?_toArray, List.getElem?_cons_zero, List.getElem?_cons_succ, List.append_nil, List.nil_append, List.cons_append, List.append_eq, faPo, ldp, hlen]
def twL (l : List PM) (i : Int) : List PM := match (if i < 0 then none else l[i.toNat]?) with | none => l | some x => putL l x
def twC (l : List PM) (i : Int) : Int := match (if i < 0 then none else l[i.toNat]?) with | none => 4 | some _ => putC l
def tkL (l : List PM) (i : Int) : List PM := if i < 0 then l else l.eraseIdx i.toNat
def tkM (l : List PM) (i : Int) : PM := ((if i < 0 then none else l[i.toNat]?) : Option PM).getD pm0
def tkC (l : List PM) (i : Int) : Int := if i < 0 ∨ (l.length : Int) ≤ i then 4 else 0
set_option maxRecDepth 10000 in
set_option maxHeartbeats 16000000 in
theorem twice_spec {X : Nat → Prop} {A : AS} {bp : Nat} {fo : Option Nat} {l : List PM} {i : Int} (hw : WF A) (hX : ∀ f, X f → f < A.blk.length) (h : PostIs X A bp fo l) (hb : ∀ x ∈ l, x.b.length ≤ 1000000000000) (hl : l.length ≤ 1000000) :
    ∃ w A', EvF Try.prog HH 39 [.ptr bp 0, .int .i64 i] A w A' ∧ w = .int .i64 (twC l i) ∧ Fr (postS A bp fo) A A' ∧ ∃ fo', Gr A fo fo' ∧ PostIs X A' bp fo' (twL l i) := by
  refine run_fn2 rfl Try.func39 (by unfold Try.f39; rfl) Try.ntmps39 (by unfold Try.f39; rfl) (by simp) ?_
  obtain ⟨w, hbox, hl'⟩ := h
  have hlen := fun B => hl'.len (P := Try.prog) Try.underlying79 B
  have ldp : evLoad Try.prog 79 (.ptr bp 0) A = some w := load_one ag79 hbox
  have out : (if i < 0 then none else l[i.toNat]?) = none → (V.int .i64 4 = .int .i64 (twC l i) ∧ Fr (postS A bp fo) A A ∧ ∃ fo', Gr A fo fo' ∧ PostIs X A bp fo' (twL l i)) := fun q =>
    ⟨by unfold twC; rw [q], .refl _ _, fo, .inl rfl, by unfold twL; rw [q]; exact ⟨w, hbox, hl'⟩⟩
  simp only [RS, xs_some, Option.bind_some, Option.map_some, if_true, if_false, decide_true, decide_false, true_and, and_true, Bool.not_true, Bool.not_false, Bool.false_eq_true, not_false_eq_true, not_true_eq_false, Nat.reduceLT, Nat.reduceBEq, Nat.reduceEqDiff, Nat.reduceAdd, Int.reduceEq, Int.reduceLT, Int.reduceLE, Int.reduceGT, Int.reduceGE, beq_self_eq_true, List.getElem?_toArray, List.getElem?_cons_zero, List.getElem?_cons_succ, List.append_nil, List.nil_append, List.cons_append, List.append_eq]
  refine contG_of (fun g => ?_) (fun g => ?_)
  · simp only [RS, xs_some, Option.bind_some, Option.map_some, if_true, if_false, decide_true, decide_false, true_and, and_true, Bool.not_true, Bool.not_false, Bool.false_eq_true, not_false_eq_true, not_true_eq_false, Nat.reduceLT, Nat.reduceBEq, Nat.reduceEqDiff, Nat.reduceAdd, Int.reduceEq, Int.reduceLT, Int.reduceLE, Int.reduceGT, Int.reduceGE, beq_self_eq_true, List.getElem?_toArray, List.getElem?_cons_zero, List.getElem?_cons_succ, List.append_nil, List.nil_append, List.cons_append, List.append_eq, g]
    have e := out (by rw [if_pos (by omega)])
    exact e
  simp only [RS, xs_some, Option.bind_some, Option.map_some, if_true, if_false, decide_true, decide_false, true_and, and_true, Bool.not_true, Bool.not_false, Bool.false_eq_true, not_false_eq_true, not_true_eq_false, Nat.reduceLT, Nat.reduceBEq, Nat.reduceEqDiff, Nat.reduceAdd, Int.reduceEq, Int.reduceLT, Int.reduceLE, Int.reduceGT, Int.reduceGE, beq_self_eq_true, List.getElem?_toArray, List.getElem?_cons_zero, List.getElem?_cons_succ, List.append_nil, List.nil_append, List.cons_append, List.append_eq, g, faPo, ldp, hlen]
  refine condK_of (fun g2 => ?_) (fun g2 => ?_)
  · simp only [RS, xs_some, Option.bind_some, Option.map_some, if_true, if_false, decide_true, decide_false, true_and, and_true, Bool.not_true, Bool.not_false, Bool.false_eq_true, not_false_eq_true, not_true_eq_false, Nat.reduceLT, Nat.reduceBEq, Nat.reduceEqDiff, Nat.reduceAdd, Int.reduceEq, Int.reduceLT, Int.reduceLE, Int.reduceGT, Int.reduceGE, beq_self_eq_true, List.getElem?_toArray, List.getElem?_cons_zero, List.getElem?_cons_succ, List.append_nil, List.nil_append, List.cons_append, List.append_eq]
    have e := out (by rw [if_neg (by omega)]; exact List.getElem?_eq_none (by omega))
    exact e
  obtain ⟨j, rfl⟩ := Int.eq_ofNat_of_zero_le (show 0 ≤ i by omega)
  obtain ⟨x, hx⟩ := get_lt (l := l) (i := j) (by omega)
  obtain ⟨b, o, c, g3, g4, g5⟩ := hl'.at (P := Try.prog) (k := .i64) (qHp_on _ A) Try.underlying79 sz87 ag87 hx
  obtain ⟨v, rfl, hv⟩ := eMail_W.1 g5
  simp only [RS, xs_some, Option.bind_some, Option.map_some, if_true, if_false, decide_true, decide_false, true_and, and_true, Bool.not_true, Bool.not_false, Bool.false_eq_true, not_false_eq_true, not_true_eq_false, Nat.reduceLT, Nat.reduceBEq, Nat.reduceEqDiff, Nat.reduceAdd, Int.reduceEq, Int.reduceLT, Int.reduceLE, Int.reduceGT, Int.reduceGE, beq_self_eq_true, List.getElem?_toArray, List.getElem?_cons_zero, List.getElem?_cons_succ, List.append_nil, List.nil_append, List.cons_append, List.append_eq, faPo, ldp, g3, g4]
  obtain ⟨u, A', k1, rfl, k2, fo', k3, k4⟩ := put_spec hw hX ⟨w, hbox, hl'⟩ (qHp_on _ A) hv (hb x (List.mem_of_getElem? hx))
  refine run_call1 k1 ?_
  simp only [RS, xs_some, Option.bind_some, Option.map_some, if_true, if_false, decide_true, decide_false, true_and, and_true, Bool.not_true, Bool.not_false, Bool.false_eq_true, not_false_eq_true, not_true_eq_false, Nat.reduceLT, Nat.reduceBEq, Nat.reduceEqDiff, Nat.reduceAdd, Int.reduceEq, Int.reduceLT, Int.reduceLE, Int.reduceGT, Int.reduceGE, beq_self_eq_true, List.getElem?_toArray, List.getElem?_cons_zero, List.getElem?_cons_succ, List.append_nil, List.nil_append, List.cons_append, List.append_eq]
  have e : (if (j : Int) < 0 then none else l[(j : Int).toNat]?) = some x := by rw [if_neg (by omega)]; exact hx
  refine ⟨by unfold twC; rw [e], k2, fo', k3, by unfold twL; rw [e]; exact k4⟩
theorem bldMl0 : evBuild Try.prog 87 [] = some (.agg (mcl pm0 .snil)) := by kernel_rfl
theorem newMl {A : AS} {x : PM} {v : V} (hv : v.one = true) : ∃ A', evStore Try.prog 87 (.ptr A.blk.length 0) (.agg (mcl x v)) (A.push ⟨mcl pm0 .snil, .var⟩) = some A' ∧ Fr S0 A A' ∧ A'.blk[A.blk.length]? = some ⟨mcl x v, .var⟩ := by
  obtain ⟨A2, s1, s2, s3, s4⟩ := new_set (P := Try.prog) A (z := mcl pm0 .snil) (t := 87) (x := .agg (mcl x v)) (cs := mcl x v) rfl sz87 rfl (by simp only [mcl, List.all_cons, List.all_nil, hv]; rfl)
  exact ⟨A2, s1, s2, s3⟩
theorem setMl {A : AS} {b : Nat} {x y : PM} {v w : V} (h : A.blk[b]? = some ⟨mcl x v, .var⟩) (hw : w.one = true) : ∃ A', evStore Try.prog 87 (.ptr b 0) (.agg (mcl y w)) A = some A' ∧ Fr (· = .row b) A A' ∧ A'.blk[b]? = some ⟨mcl y w, .var⟩ := by
  obtain ⟨A', s1, s2, s3, s4⟩ := store_var (P := Try.prog) (t := 87) (o := 0) (x := .agg (mcl y w)) (cs := mcl y w) h rfl sz87 (by simp [mcl]) (by simp only [mcl, List.all_cons, List.all_nil, hw]; rfl)
  exact ⟨A', s1, s2, s3⟩
set_option maxRecDepth 10000 in
set_option maxHeartbeats 16000000 in
theorem take_spec {X : Nat → Prop} {A : AS} {bp : Nat} {fo : Option Nat} {l : List PM} {i : Int} (hw : WF A) (h : PostIs X A bp fo l) (hl : l.length ≤ 1000000) :
    ∃ w A', EvF Try.prog HH 40 [.ptr bp 0, .int .i64 i] A w A' ∧ Fr (postS A bp fo) A A' ∧ ∃ v, w = .tup [.agg (mcl (tkM l i) v), .int .i64 (tkC l i)] ∧ Slc eU8 (qHp (exF fo X) A') v (tkM l i).b ∧ PostIs X A' bp fo (tkL l i) := by
  refine run_fn2 rfl Try.func40 (by unfold Try.f40; rfl) Try.ntmps40 (by unfold Try.f40; rfl) (by simp) ?_
  simp only [RS, xs_some, Option.bind_some, Option.map_some, if_true, if_false, decide_true, decide_false, true_and, and_true, Bool.not_true, Bool.not_false, Bool.false_eq_true, not_false_eq_true, not_true_eq_false, Nat.reduceLT, Nat.reduceBEq, Nat.reduceEqDiff, Nat.reduceAdd, Int.reduceEq, Int.reduceLT, Int.reduceLE, Int.reduceGT, Int.reduceGE, beq_self_eq_true, List.getElem?_toArray, List.getElem?_cons_zero, List.getElem?_cons_succ, List.append_nil, List.nil_append, List.cons_append, List.append_eq, zc87]
  obtain ⟨A1, e1, f1, r1, n1⟩ := new_var A (mcl pm0 .snil)
  have e1 : A1 = A.push ⟨[.bool false, .int .i64 0, .bool false, .int .i64 0, .snil], .var⟩ := e1
  rw [← e1]
  obtain ⟨bx, hbx⟩ : ∃ b, b = A.blk.length := ⟨_, rfl⟩
  rw [← hbx] at r1 ⊢
  have w1 := f1.wf hw
  have h1 := h.fr0 f1
  obtain ⟨w, hbox, hl'⟩ := h1
  have hbp : bp ≠ bx := fun q => by subst q; rw [hbox] at r1; cases r1
  have hlen := fun B => hl'.len (P := Try.prog) Try.underlying79 B
  have ldp : evLoad Try.prog 79 (.ptr bp 0) A1 = some w := load_one ag79 hbox
  obtain ⟨A2, s1, s2, s3⟩ := setMl (y := pm0) (w := .snil) r1 rfl
  have out : (i < 0 ∨ (l.length : Int) ≤ i) → Fr (postS A bp fo) A A2 ∧ ∃ v, V.tup [.agg (mcl pm0 .snil), .int .i64 4] = .tup [.agg (mcl (tkM l i) v), .int .i64 (tkC l i)] ∧ Slc eU8 (qHp (exF fo X) A2) v (tkM l i).b ∧ PostIs X A2 bp fo (tkL l i) := fun q => by
    have e : tkM l i = pm0 ∧ tkL l i = l := by
      unfold tkM tkL
      by_cases z : i < 0
      · rw [if_pos z, if_pos z]; exact ⟨rfl, rfl⟩
      · rw [if_neg z, if_neg z, List.getElem?_eq_none (by omega), List.eraseIdx_of_length_le (by omega)]; exact ⟨rfl, rfl⟩
    rw [e.1, e.2]
    refine ⟨(f1.row_ s2 (by omega)).mono fun _ q => q.elim, .snil, by unfold tkC; rw [if_pos q], .inl ⟨rfl, rfl⟩, PostIs.fr ⟨w, hbox, hl'⟩ s2 w1 (.box r1) (.box r1) fun z => hbp (by cases z; rfl)⟩
  have ld2 := ldMl s3
  refine contG_of (fun g => ?_) (fun g => ?_)
  · simp only [RS, xs_some, Option.bind_some, Option.map_some, if_true, if_false, decide_true, decide_false, true_and, and_true, Bool.not_true, Bool.not_false, Bool.false_eq_true, not_false_eq_true, not_true_eq_false, Nat.reduceLT, Nat.reduceBEq, Nat.reduceEqDiff, Nat.reduceAdd, Int.reduceEq, Int.reduceLT, Int.reduceLE, Int.reduceGT, Int.reduceGE, beq_self_eq_true, List.getElem?_toArray, List.getElem?_cons_zero, List.getElem?_cons_succ, List.append_nil, List.nil_append, List.cons_append, List.append_eq, g, bldMl0, s1, ld2]
    exact out (.inl (by omega))
  simp only [RS, xs_some, Option.bind_some, Option.map_some, if_true, if_false, decide_true, decide_false, true_and, and_true, Bool.not_true, Bool.not_false, Bool.false_eq_true, not_false_eq_true, not_true_eq_false, Nat.reduceLT, Nat.reduceBEq, Nat.reduceEqDiff, Nat.reduceAdd, Int.reduceEq, Int.reduceLT, Int.reduceLE, Int.reduceGT, Int.reduceGE, beq_self_eq_true, List.getElem?_toArray, List.getElem?_cons_zero, List.getElem?_cons_succ, List.append_nil, List.nil_append, List.cons_append, List.append_eq, g, faPo, ldp, hlen]
  refine condK_of (fun g2 => ?_) (fun g2 => ?_)
  · simp only [RS, xs_some, Option.bind_some, Option.map_some, if_true, if_false, decide_true, decide_false, true_and, and_true, Bool.not_true, Bool.not_false, Bool.false_eq_true, not_false_eq_true, not_true_eq_false, Nat.reduceLT, Nat.reduceBEq, Nat.reduceEqDiff, Nat.reduceAdd, Int.reduceEq, Int.reduceLT, Int.reduceLE, Int.reduceGT, Int.reduceGE, beq_self_eq_true, List.getElem?_toArray, List.getElem?_cons_zero, List.getElem?_cons_succ, List.append_nil, List.nil_append, List.cons_append, List.append_eq, bldMl0, s1, ld2]
    exact out (.inr (by omega))
  obtain ⟨j, rfl⟩ := Int.eq_ofNat_of_zero_le (show 0 ≤ i by omega)
  obtain ⟨x, hx⟩ := get_lt (l := l) (i := j) (by omega)
  obtain ⟨b, o, c, g3, g4, g5⟩ := hl'.at (P := Try.prog) (k := .i64) (qHp_on _ A1) Try.underlying79 sz87 ag87 hx
  obtain ⟨v, rfl, hv⟩ := eMail_W.1 g5
  obtain ⟨A3, t1, t2, t3⟩ := newMl (A := A1) (x := x) hv.one
  have r3 := t2.row0 r1
  obtain ⟨w', b3, l3⟩ := PostIs.fr0 ⟨w, hbox, hl'⟩ t2
  have b3' := t2.row0 hbox
  rw [b3] at b3'; cases b3'
  have f3 := f1.then0 t2
  have w3 := f3.wf hw
  have ldp3 : evLoad Try.prog 79 (.ptr bp 0) A3 = some w := load_one ag79 b3
  obtain ⟨wa, c1, c2⟩ := l3.to3 (P := Try.prog) Try.underlying79 sz87 (hi := j) (by omega) (kh := .i64) (km := .i64) A3
  obtain ⟨wb, c3, c4⟩ := l3.fromN (P := Try.prog) Try.underlying79 sz87 (lo := j + 1) (by omega) (kl := .i64) A3
  obtain ⟨cs, c5, c6⟩ := c4.src (P := Try.prog) (tx := 79) Try.underlying79
  obtain ⟨v4, A4, fo', p1, p2, p3, p4⟩ := c2.app (P := Try.prog) (t := 79) sl79 w3 c5 c6 (by simp; omega) (by simp; omega)
  have hfo : fo' = fo := by
    rcases p4 with q | ⟨rfl, _⟩
    · exact q
    · obtain ⟨cs, q1, ⟨_, q2, _⟩ | ⟨f, q, _⟩⟩ := hl'
      · rw [List.eq_nil_of_length_eq_zero q2] at hx; simp at hx
      · cases q
  subst hfo
  have b4 := p3.row _ _ b3 (inFamO_var b3)
  obtain ⟨A5, u1, u2, u3, u4⟩ := store_one (P := Try.prog) (t := 79) (x := v4) b4 p2.cells1 sz79 p2.one
  have r5 := u2.row _ _ (p3.row _ _ r3 (inFamO_var r3)) (fun q => hbp (by cases q; rfl))
  have t5 := u2.row _ _ (p3.row _ _ t3 (inFamO_var t3)) (fun q => by cases q; rw [t3] at b3; cases b3)
  obtain ⟨A6, x1, x2, x3⟩ := setMl (y := x) (w := v) r5 hv.one
  have ld5 := ldMl t5
  have ld6 := ldMl x3
  simp only [RS, xs_some, Option.bind_some, Option.map_some, if_true, if_false, decide_true, decide_false, true_and, and_true, Bool.not_true, Bool.not_false, Bool.false_eq_true, not_false_eq_true, not_true_eq_false, Nat.reduceLT, Nat.reduceBEq, Nat.reduceEqDiff, Nat.reduceAdd, Int.reduceEq, Int.reduceLT, Int.reduceLE, Int.reduceGT, Int.reduceGE, beq_self_eq_true, List.getElem?_toArray, List.getElem?_cons_zero, List.getElem?_cons_succ, List.append_nil, List.nil_append, List.cons_append, List.append_eq, faPo, ldp, g3, g4, zc87]
  have t1' : evStore Try.prog 87 (.ptr A1.blk.length 0) (.agg (mcl x v)) (A1.push ⟨[.bool false, .int .i64 0, .bool false, .int .i64 0, .snil], .var⟩) = some A3 := t1
  simp only [RS, xs_some, Option.bind_some, Option.map_some, if_true, if_false, decide_true, decide_false, true_and, and_true, Bool.not_true, Bool.not_false, Bool.false_eq_true, not_false_eq_true, not_true_eq_false, Nat.reduceLT, Nat.reduceBEq, Nat.reduceEqDiff, Nat.reduceAdd, Int.reduceEq, Int.reduceLT, Int.reduceLE, Int.reduceGT, Int.reduceGE, beq_self_eq_true, List.getElem?_toArray, List.getElem?_cons_zero, List.getElem?_cons_succ, List.append_nil, List.nil_append, List.cons_append, List.append_eq, t1']
  rw [pl_40_4, run_plan_id (by rfl)]
  simp only [RS, xs_some, Option.bind_some, Option.map_some, if_true, if_false, decide_true, decide_false, true_and, and_true, Bool.not_true, Bool.not_false, Bool.false_eq_true, not_false_eq_true, not_true_eq_false, Nat.reduceLT, Nat.reduceBEq, Nat.reduceEqDiff, Nat.reduceAdd, Int.reduceEq, Int.reduceLT, Int.reduceLE, Int.reduceGT, Int.reduceGE, beq_self_eq_true, List.getElem?_toArray, List.getElem?_cons_zero, List.getElem?_cons_succ, List.append_nil, List.nil_append, List.cons_append, List.append_eq, faPo, ldp3, c1, wrapS (show j < 9223372036854775807 by omega), c3, p1, u1, ld5, x1, ld6]
  have e : tkM l j = x ∧ tkL l j = l.take j ++ l.drop (j + 1) ∧ tkC l j = 0 := by
    unfold tkM tkL tkC
    rw [if_neg (by omega), if_neg (by omega), if_neg (by omega)]
    exact ⟨by show (l[j]?).getD pm0 = x; rw [hx]; rfl, List.eraseIdx_eq_take_drop_succ .., rfl⟩
  rw [e.1, e.2.1, e.2.2]
  have m45 := Hp.le_trans (qHp_fr (X := exF fo' X) p3 (.famO fun f q => .inl q) w3 (Y := exF fo' X) fun f q => .inl q) (qHp_fr u2 (.box b4) (p3.wf w3) fun f q => .inl q)
  have m46 := Hp.le_trans m45 (qHp_fr x2 (.box r5) (u2.wf (p3.wf w3)) fun f q => .inl q)
  refine ⟨?_, v, rfl, hv.mono (Hp.le_trans (qHp_fr0 t2) m46), v4, x2.row _ _ u3 (fun q => hbp (by cases q; rfl)), ((p2.fr u2 (.box b4)).fr x2 (.box r5)).mono m46⟩
  exact (((f3.mono fun _ q => q.elim : Fr (postS A bp fo') A A3).trans p3 fun z q => (inFamO_back f3 q).imp .inr id).trans u2 fun z q => .inl (.inl q)).trans x2 fun z q => .inr (by subst q; show A.blk.length ≤ bx; omega)
end Go.Sv.Try
namespace Go.Sv.Try
open Go Go.Proofs
set_option linter.unusedVariables false
set_option linter.unusedSimpArgs false
theorem bldRM (a b : Bool) (c d : Int) (s : Bts) : evBuild Try.prog 100 [(0, .bool a), (1, .bool b), (2, .int .i64 c), (3, .int .i64 d), (4, .str s)] = some (.agg [.bool a, .bool b, .int .i64 c, .int .i64 d, .str s]) := by kernel_rfl
theorem bldRM0 : evBuild Try.prog 100 [] = some (.agg (rcl pm0)) := by kernel_rfl
theorem ldRM {A : AS} {b : Nat} {k : BK} {x : PM} (h : A.blk[b]? = some ⟨rcl x, k⟩) : evLoad Try.prog 100 (.ptr b 0) A = some (.agg (rcl x)) := by
  rw [load_agg ag100 sz100]
  unfold AS.range; rw [h]; rfl
theorem rcl_one (x : PM) : (rcl x).all V.one = true := rfl
theorem newRM {A : AS} {x : PM} : ∃ A', evStore Try.prog 100 (.ptr A.blk.length 0) (.agg (rcl x)) (A.push ⟨rcl pm0, .var⟩) = some A' ∧ Fr S0 A A' ∧ A'.blk[A.blk.length]? = some ⟨rcl x, .var⟩ := by
  obtain ⟨A2, s1, s2, s3, s4⟩ := new_set (P := Try.prog) A (z := rcl pm0) (t := 100) (x := .agg (rcl x)) (cs := rcl x) rfl sz100 rfl (rcl_one x)
  exact ⟨A2, s1, s2, s3⟩
theorem setRM {A : AS} {b : Nat} {x y : PM} (h : A.blk[b]? = some ⟨rcl x, .var⟩) : ∃ A', evStore Try.prog 100 (.ptr b 0) (.agg (rcl y)) A = some A' ∧ Fr (· = .row b) A A' ∧ A'.blk[b]? = some ⟨rcl y, .var⟩ := by
  obtain ⟨A', s1, s2, s3, s4⟩ := store_var (P := Try.prog) (t := 100) (o := 0) (x := .agg (rcl y)) (cs := rcl y) h rfl sz100 (by simp [rcl]) (rcl_one y)
  exact ⟨A', s1, s2, s3⟩
theorem bslRM (x : PM) : bsl Try.prog 94 1 (some [(0, .agg (rcl x))]) = some (.newSl (rcl x) 1 5) := bsl_one Try.underlying94 sz100 zc100 rfl rfl (by decide)
theorem bslRM0 : bsl Try.prog 94 0 (some []) = some (.newSl [] 0 5) := by kernel_rfl
set_option maxRecDepth 10000 in
set_option maxHeartbeats 16000000 in
theorem plain_spec {m : Hp} {A : AS} {x : PM} {v : V} (hm : m.on A) (hv : Slc eU8 m v x.b) : ∃ w A', EvF Try.prog HH 43 [.agg (mcl x v)] A w A' ∧ w = .agg (rcl x) ∧ Fr S0 A A' := by
  refine run_fn2 rfl Try.func43 (by unfold Try.f43; rfl) Try.ntmps43 (by unfold Try.f43; rfl) (by simp) ?_
  simp only [RS, xs_some, Option.bind_some, Option.map_some, if_true, if_false, decide_true, decide_false, true_and, and_true, Bool.not_true, Bool.not_false, Bool.false_eq_true, not_false_eq_true, not_true_eq_false, Nat.reduceLT, Nat.reduceBEq, Nat.reduceEqDiff, Nat.reduceAdd, Int.reduceEq, Int.reduceLT, Int.reduceLE, Int.reduceGT, Int.reduceGE, beq_self_eq_true, List.getElem?_toArray, List.getElem?_cons_zero, List.getElem?_cons_succ, List.append_nil, List.nil_append, List.cons_append, List.append_eq, zc100]
  obtain ⟨A1, e1, f1, r1, n1⟩ := new_var A (mcl x v)
  rw [← e1]
  obtain ⟨A2, s1, s2, s3⟩ := newRM (A := A1) (x := x)
  have s1 : evStore Try.prog 100 (.ptr A1.blk.length 0) (.agg [.bool x.fc, .bool x.tc, .int .i64 x.fn, .int .i64 x.tn, .str x.b]) (A1.push ⟨[.bool false, .bool false, .int .i64 0, .int .i64 0, .str []], .var⟩) = some A2 := s1
  have fM := faMl A.blk.length
  have fP := faPl A.blk.length
  have q := Fr.pushVar A1 [.bool false, .bool false, .int .i64 0, .int .i64 0, .str []]
  have ld := ldMl (q.row0 r1)
  have g4 := cnv_text (P := Try.prog) (s := 38) (d := 9) (by decide) hv ((hm.fr0 f1).fr0 q) Try.underlying38 Try.underlying5 Try.underlying9
  have ld3 := ldRM s3
  simp only [RS, xs_some, Option.bind_some, Option.map_some, if_true, if_false, decide_true, decide_false, true_and, and_true, Bool.not_true, Bool.not_false, Bool.false_eq_true, not_false_eq_true, not_true_eq_false, Nat.reduceLT, Nat.reduceBEq, Nat.reduceEqDiff, Nat.reduceAdd, Int.reduceEq, Int.reduceLT, Int.reduceLE, Int.reduceGT, Int.reduceGE, beq_self_eq_true, List.getElem?_toArray, List.getElem?_cons_zero, List.getElem?_cons_succ, List.append_nil, List.nil_append, List.cons_append, List.append_eq, fM, fP, ld, g4, bldRM, s1, ld3]
  exact f1.then0 s2
theorem slc_mono {X : Nat → Prop} {A A' : AS} {v : V} {l : List PM} (h : Slc eRM (qHp X A) v l) (hf : Fr S0 A A') : Slc eRM (qHp X A') v l := h.mono (qHp_fr0 hf)
set_option maxRecDepth 10000 in
set_option maxHeartbeats 16000000 in
theorem refPutM_spec {X : Nat → Prop} {A : AS} {lv : V} {l : List PM} {x : PM} (hw : WF A) (hX : ∀ f, X f → f < A.blk.length) (h : Slc eRM (qHp X A) lv l) :
    ∃ w A', EvF Try.prog HH 42 [lv, .agg (rcl x)] A w A' ∧ Fr S0 A A' ∧ ∃ lv', w = .tup [lv', .int .i64 (putC l)] ∧ Slc eRM (qHp X A') lv' (putL l x) := by
  refine run_fn2 rfl Try.func42 (by unfold Try.f42; rfl) Try.ntmps42 (by unfold Try.f42; rfl) (by simp) ?_
  simp only [RS, xs_some, Option.bind_some, Option.map_some, if_true, if_false, decide_true, decide_false, true_and, and_true, Bool.not_true, Bool.not_false, Bool.false_eq_true, not_false_eq_true, not_true_eq_false, Nat.reduceLT, Nat.reduceBEq, Nat.reduceEqDiff, Nat.reduceAdd, Int.reduceEq, Int.reduceLT, Int.reduceLE, Int.reduceGT, Int.reduceGE, beq_self_eq_true, List.getElem?_toArray, List.getElem?_cons_zero, List.getElem?_cons_succ, List.append_nil, List.nil_append, List.cons_append, List.append_eq]
  obtain ⟨A1, e1, f1, r1, n1⟩ := new_var A (rcl x)
  rw [← e1]
  have w1 := f1.wf hw
  have h1 := slc_mono h f1
  have hlen := fun B => h.len (P := Try.prog) Try.underlying94 B
  simp only [RS, xs_some, Option.bind_some, Option.map_some, if_true, if_false, decide_true, decide_false, true_and, and_true, Bool.not_true, Bool.not_false, Bool.false_eq_true, not_false_eq_true, not_true_eq_false, Nat.reduceLT, Nat.reduceBEq, Nat.reduceEqDiff, Nat.reduceAdd, Int.reduceEq, Int.reduceLT, Int.reduceLE, Int.reduceGT, Int.reduceGE, beq_self_eq_true, List.getElem?_toArray, List.getElem?_cons_zero, List.getElem?_cons_succ, List.append_nil, List.nil_append, List.cons_append, List.append_eq, hlen]
  refine condK_of (fun g => ?_) (fun g => ?_)
  · simp only [RS, xs_some, Option.bind_some, Option.map_some, if_true, if_false, decide_true, decide_false, true_and, and_true, Bool.not_true, Bool.not_false, Bool.false_eq_true, not_false_eq_true, not_true_eq_false, Nat.reduceLT, Nat.reduceBEq, Nat.reduceEqDiff, Nat.reduceAdd, Int.reduceEq, Int.reduceLT, Int.reduceLE, Int.reduceGT, Int.reduceGE, beq_self_eq_true, List.getElem?_toArray, List.getElem?_cons_zero, List.getElem?_cons_succ, List.append_nil, List.nil_append, List.cons_append, List.append_eq]
    have e : (l.length ≥ 600) := by omega
    exact ⟨f1, lv, by unfold putC; rw [if_pos e], by unfold putL; rw [if_pos e]; exact h1⟩
  · have e : ¬ (l.length ≥ 600) := by omega
    obtain ⟨v', A2, f2, y1, y2, y3, y4⟩ := copy_new (P := Try.prog) (n := 5) (E := eRM) (t := 94) (tx := 94) rfl w1 sl94 Try.underlying94 h1 (qHp_on _ _) (by omega) (by omega)
    have r2 := y4.row0 r1
    have ld2 := ldRM r2
    have f12 := f1.then0 y4
    obtain ⟨v3, A3, fo', p1, p2, p3, p4⟩ := y2.push (P := Try.prog) (t := 94) (tx := 94) (n := 5) rfl sl94 Try.underlying94 (y4.wf w1) (y := x) (cs' := rcl x) rfl (by omega) (by omega)
    have f13 := y4.newFam w1 p3 fun f q => by cases q; exact y3
    have f3 := f1.then0 f13
    simp only [RS, xs_some, Option.bind_some, Option.map_some, if_true, if_false, decide_true, decide_false, true_and, and_true, Bool.not_true, Bool.not_false, Bool.false_eq_true, not_false_eq_true, not_true_eq_false, Nat.reduceLT, Nat.reduceBEq, Nat.reduceEqDiff, Nat.reduceAdd, Int.reduceEq, Int.reduceLT, Int.reduceLE, Int.reduceGT, Int.reduceGE, beq_self_eq_true, List.getElem?_toArray, List.getElem?_cons_zero, List.getElem?_cons_succ, List.append_nil, List.nil_append, List.cons_append, List.append_eq, bslRM0, y1, ld2, bslRM, p1]
    refine ⟨f3, v3, by unfold putC; rw [if_neg e], ?_⟩
    unfold putL; rw [if_neg e]
    exact p2.slcQ (qHp_fr0 f13) fun f q z => by
      have := hX f z
      have := f12.len
      rcases p4.or q with q | q
      · cases q; omega
      · omega
set_option maxRecDepth 10000 in
set_option maxHeartbeats 16000000 in
theorem refTwM_spec {X : Nat → Prop} {A : AS} {lv : V} {l : List PM} {i : Int} (hw : WF A) (hX : ∀ f, X f → f < A.blk.length) (h : Slc eRM (qHp X A) lv l) (hl : l.length ≤ 1000000) :
    ∃ w A', EvF Try.prog HH 46 [lv, .int .i64 i] A w A' ∧ Fr S0 A A' ∧ ∃ lv', w = .tup [lv', .int .i64 (twC l i)] ∧ Slc eRM (qHp X A') lv' (twL l i) := by
  refine run_fn2 rfl Try.func46 (by unfold Try.f46; rfl) Try.ntmps46 (by unfold Try.f46; rfl) (by simp) ?_
  have hlen := fun B => h.len (P := Try.prog) Try.underlying94 B
  have out : (if i < 0 then none else l[i.toNat]?) = none → (Fr S0 A A ∧ ∃ lv', V.tup [lv, .int .i64 4] = .tup [lv', .int .i64 (twC l i)] ∧ Slc eRM (qHp X A) lv' (twL l i)) := fun q =>
    ⟨.refl _ _, lv, by unfold twC; rw [q], by unfold twL; rw [q]; exact h⟩
  simp only [RS, xs_some, Option.bind_some, Option.map_some, if_true, if_false, decide_true, decide_false, true_and, and_true, Bool.not_true, Bool.not_false, Bool.false_eq_true, not_false_eq_true, not_true_eq_false, Nat.reduceLT, Nat.reduceBEq, Nat.reduceEqDiff, Nat.reduceAdd, Int.reduceEq, Int.reduceLT, Int.reduceLE, Int.reduceGT, Int.reduceGE, beq_self_eq_true, List.getElem?_toArray, List.getElem?_cons_zero, List.getElem?_cons_succ, List.append_nil, List.nil_append, List.cons_append, List.append_eq]
  refine contG_of (fun g => ?_) (fun g => ?_)
  · simp only [RS, xs_some, Option.bind_some, Option.map_some, if_true, if_false, decide_true, decide_false, true_and, and_true, Bool.not_true, Bool.not_false, Bool.false_eq_true, not_false_eq_true, not_true_eq_false, Nat.reduceLT, Nat.reduceBEq, Nat.reduceEqDiff, Nat.reduceAdd, Int.reduceEq, Int.reduceLT, Int.reduceLE, Int.reduceGT, Int.reduceGE, beq_self_eq_true, List.getElem?_toArray, List.getElem?_cons_zero, List.getElem?_cons_succ, List.append_nil, List.nil_append, List.cons_append, List.append_eq, g]
    exact out (by rw [if_pos (by omega)])
  simp only [RS, xs_some, Option.bind_some, Option.map_some, if_true, if_false, decide_true, decide_false, true_and, and_true, Bool.not_true, Bool.not_false, Bool.false_eq_true, not_false_eq_true, not_true_eq_false, Nat.reduceLT, Nat.reduceBEq, Nat.reduceEqDiff, Nat.reduceAdd, Int.reduceEq, Int.reduceLT, Int.reduceLE, Int.reduceGT, Int.reduceGE, beq_self_eq_true, List.getElem?_toArray, List.getElem?_cons_zero, List.getElem?_cons_succ, List.append_nil, List.nil_append, List.cons_append, List.append_eq, g, hlen]
  refine condK_of (fun g2 => ?_) (fun g2 => ?_)
  · simp only [RS, xs_some, Option.bind_some, Option.map_some, if_true, if_false, decide_true, decide_false, true_and, and_true, Bool.not_true, Bool.not_false, Bool.false_eq_true, not_false_eq_true, not_true_eq_false, Nat.reduceLT, Nat.reduceBEq, Nat.reduceEqDiff, Nat.reduceAdd, Int.reduceEq, Int.reduceLT, Int.reduceLE, Int.reduceGT, Int.reduceGE, beq_self_eq_true, List.getElem?_toArray, List.getElem?_cons_zero, List.getElem?_cons_succ, List.append_nil, List.nil_append, List.cons_append, List.append_eq]
    exact out (by rw [if_neg (by omega)]; exact List.getElem?_eq_none (by omega))
  obtain ⟨j, rfl⟩ := Int.eq_ofNat_of_zero_le (show 0 ≤ i by omega)
  obtain ⟨x, hx⟩ := get_lt (l := l) (i := j) (by omega)
  obtain ⟨b, o, c, g3, g4, g5⟩ := h.at (P := Try.prog) (k := .i64) (qHp_on _ A) Try.underlying94 sz100 ag100 hx
  cases eRM_W.1 g5
  simp only [RS, xs_some, Option.bind_some, Option.map_some, if_true, if_false, decide_true, decide_false, true_and, and_true, Bool.not_true, Bool.not_false, Bool.false_eq_true, not_false_eq_true, not_true_eq_false, Nat.reduceLT, Nat.reduceBEq, Nat.reduceEqDiff, Nat.reduceAdd, Int.reduceEq, Int.reduceLT, Int.reduceLE, Int.reduceGT, Int.reduceGE, beq_self_eq_true, List.getElem?_toArray, List.getElem?_cons_zero, List.getElem?_cons_succ, List.append_nil, List.nil_append, List.cons_append, List.append_eq, g3, g4]
  obtain ⟨u, A', k1, k2, lv', rfl, k3⟩ := refPutM_spec (x := x) hw hX h
  refine run_call1 k1 ?_
  simp only [RS, xs_some, Option.bind_some, Option.map_some, if_true, if_false, decide_true, decide_false, true_and, and_true, Bool.not_true, Bool.not_false, Bool.false_eq_true, not_false_eq_true, not_true_eq_false, Nat.reduceLT, Nat.reduceBEq, Nat.reduceEqDiff, Nat.reduceAdd, Int.reduceEq, Int.reduceLT, Int.reduceLE, Int.reduceGT, Int.reduceGE, beq_self_eq_true, List.getElem?_toArray, List.getElem?_cons_zero, List.getElem?_cons_succ, List.append_nil, List.nil_append, List.cons_append, List.append_eq]
  have e : (if (j : Int) < 0 then none else l[(j : Int).toNat]?) = some x := by rw [if_neg (by omega)]; exact hx
  exact ⟨k2, lv', by unfold twC; rw [e], by unfold twL; rw [e]; exact k3⟩
set_option maxRecDepth 10000 in
set_option maxHeartbeats 16000000 in
theorem refTkM_spec {X : Nat → Prop} {A : AS} {lv : V} {l : List PM} {i : Int} (hw : WF A) (hX : ∀ f, X f → f < A.blk.length) (h : Slc eRM (qHp X A) lv l) (hl : l.length ≤ 1000000) :
    ∃ w A', EvF Try.prog HH 45 [lv, .int .i64 i] A w A' ∧ Fr S0 A A' ∧ ∃ lv', w = .tup [lv', .agg (rcl (tkM l i)), .int .i64 (tkC l i)] ∧ Slc eRM (qHp X A') lv' (tkL l i) := by
  refine run_fn2 rfl Try.func45 (by unfold Try.f45; rfl) Try.ntmps45 (by unfold Try.f45; rfl) (by simp) ?_
  have hlen := fun B => h.len (P := Try.prog) Try.underlying94 B
  simp only [RS, xs_some, Option.bind_some, Option.map_some, if_true, if_false, decide_true, decide_false, true_and, and_true, Bool.not_true, Bool.not_false, Bool.false_eq_true, not_false_eq_true, not_true_eq_false, Nat.reduceLT, Nat.reduceBEq, Nat.reduceEqDiff, Nat.reduceAdd, Int.reduceEq, Int.reduceLT, Int.reduceLE, Int.reduceGT, Int.reduceGE, beq_self_eq_true, List.getElem?_toArray, List.getElem?_cons_zero, List.getElem?_cons_succ, List.append_nil, List.nil_append, List.cons_append, List.append_eq, zc100]
  obtain ⟨A1, e1, f1, r1, n1⟩ := new_var A (rcl pm0)
  have e1 : A1 = A.push ⟨[.bool false, .bool false, .int .i64 0, .int .i64 0, .str []], .var⟩ := e1
  rw [← e1]
  have w1 := f1.wf hw
  have h1 := slc_mono h f1
  obtain ⟨A2, s1, s2, s3⟩ := setRM (y := pm0) r1
  have ld2 := ldRM s3
  have out : (i < 0 ∨ (l.length : Int) ≤ i) → Fr S0 A A2 ∧ ∃ lv', V.tup [lv, .agg (rcl pm0), .int .i64 4] = .tup [lv', .agg (rcl (tkM l i)), .int .i64 (tkC l i)] ∧ Slc eRM (qHp X A2) lv' (tkL l i) := fun q => by
    have e : tkM l i = pm0 ∧ tkL l i = l := by
      unfold tkM tkL
      by_cases z : i < 0
      · rw [if_pos z, if_pos z]; exact ⟨rfl, rfl⟩
      · rw [if_neg z, if_neg z, List.getElem?_eq_none (by omega), List.eraseIdx_of_length_le (by omega)]; exact ⟨rfl, rfl⟩
    rw [e.1, e.2]
    exact ⟨f1.row_ s2 (Nat.le_refl _), lv, by unfold tkC; rw [if_pos q], slc_mono h (f1.row_ s2 (Nat.le_refl _))⟩
  refine contG_of (fun g => ?_) (fun g => ?_)
  · simp only [RS, xs_some, Option.bind_some, Option.map_some, if_true, if_false, decide_true, decide_false, true_and, and_true, Bool.not_true, Bool.not_false, Bool.false_eq_true, not_false_eq_true, not_true_eq_false, Nat.reduceLT, Nat.reduceBEq, Nat.reduceEqDiff, Nat.reduceAdd, Int.reduceEq, Int.reduceLT, Int.reduceLE, Int.reduceGT, Int.reduceGE, beq_self_eq_true, List.getElem?_toArray, List.getElem?_cons_zero, List.getElem?_cons_succ, List.append_nil, List.nil_append, List.cons_append, List.append_eq, g, bldRM0, s1, ld2]
    exact out (.inl (by omega))
  simp only [RS, xs_some, Option.bind_some, Option.map_some, if_true, if_false, decide_true, decide_false, true_and, and_true, Bool.not_true, Bool.not_false, Bool.false_eq_true, not_false_eq_true, not_true_eq_false, Nat.reduceLT, Nat.reduceBEq, Nat.reduceEqDiff, Nat.reduceAdd, Int.reduceEq, Int.reduceLT, Int.reduceLE, Int.reduceGT, Int.reduceGE, beq_self_eq_true, List.getElem?_toArray, List.getElem?_cons_zero, List.getElem?_cons_succ, List.append_nil, List.nil_append, List.cons_append, List.append_eq, g, hlen]
  refine condK_of (fun g2 => ?_) (fun g2 => ?_)
  · simp only [RS, xs_some, Option.bind_some, Option.map_some, if_true, if_false, decide_true, decide_false, true_and, and_true, Bool.not_true, Bool.not_false, Bool.false_eq_true, not_false_eq_true, not_true_eq_false, Nat.reduceLT, Nat.reduceBEq, Nat.reduceEqDiff, Nat.reduceAdd, Int.reduceEq, Int.reduceLT, Int.reduceLE, Int.reduceGT, Int.reduceGE, beq_self_eq_true, List.getElem?_toArray, List.getElem?_cons_zero, List.getElem?_cons_succ, List.append_nil, List.nil_append, List.cons_append, List.append_eq, bldRM0, s1, ld2]
    exact out (.inr (by omega))
  obtain ⟨j, rfl⟩ := Int.eq_ofNat_of_zero_le (show 0 ≤ i by omega)
  obtain ⟨x, hx⟩ := get_lt (l := l) (i := j) (by omega)
  obtain ⟨wa, c1, c2⟩ := h1.subTo (P := Try.prog) Try.underlying94 sz100 (hi := j) (by omega) (kh := .i64) (A1.push ⟨[], .arr A1.blk.length 0⟩)
  obtain ⟨v', A3, f3, y1, y2, y3, y4⟩ := copy_new (P := Try.prog) (n := 5) (E := eRM) (t := 94) (tx := 94) rfl w1 sl94 Try.underlying94 c2 (qHp_on _ _) (by simp; omega) (by simp; omega)
  have h3 := slc_mono h1 y4
  have w3 := y4.wf w1
  obtain ⟨wb, c3, c4⟩ := h1.subFrom (P := Try.prog) Try.underlying94 sz100 (lo := j + 1) (by omega) (kl := .i64) A3
  obtain ⟨b, o, c, g3, g4, g5⟩ := h3.at (P := Try.prog) (k := .i64) (qHp_on _ A3) Try.underlying94 sz100 ag100 hx
  cases eRM_W.1 g5
  obtain ⟨cs, c5, c6⟩ := c4.src (P := Try.prog) (tx := 94) Try.underlying94 ((qHp_on _ A1).fr0 y4)
  obtain ⟨v4, A4, fo', p1, p2, p3, p4⟩ := y2.app (P := Try.prog) (t := 94) sl94 w3 c5 c6 (by simp; omega) (by simp; omega)
  have f14 := y4.newFam w1 p3 fun f q => by cases q; exact y3
  have h4 := slc_mono h1 f14
  obtain ⟨b', o', c', z3, z4, z5⟩ := h4.at (P := Try.prog) (k := .i64) (qHp_on _ A4) Try.underlying94 sz100 ag100 hx
  cases eRM_W.1 z5
  rw [g3] at z3; cases z3
  have r4 := f14.row0 r1
  obtain ⟨A5, u1, u2, u3⟩ := setRM (y := x) r4
  have ld5 := ldRM u3
  have c1 : evSlice Try.prog 94 lv none (some (.int .i64 (j : Int))) none (A1.push ⟨[], .arr A1.blk.length 0⟩) = some wa := c1
  simp only [RS, xs_some, Option.bind_some, Option.map_some, if_true, if_false, decide_true, decide_false, true_and, and_true, Bool.not_true, Bool.not_false, Bool.false_eq_true, not_false_eq_true, not_true_eq_false, Nat.reduceLT, Nat.reduceBEq, Nat.reduceEqDiff, Nat.reduceAdd, Int.reduceEq, Int.reduceLT, Int.reduceLE, Int.reduceGT, Int.reduceGE, beq_self_eq_true, List.getElem?_toArray, List.getElem?_cons_zero, List.getElem?_cons_succ, List.append_nil, List.nil_append, List.cons_append, List.append_eq, bslRM0, c1, y1]
  simp only [RS, xs_some, Option.bind_some, Option.map_some, if_true, if_false, decide_true, decide_false, true_and, and_true, Bool.not_true, Bool.not_false, Bool.false_eq_true, not_false_eq_true, not_true_eq_false, Nat.reduceLT, Nat.reduceBEq, Nat.reduceEqDiff, Nat.reduceAdd, Int.reduceEq, Int.reduceLT, Int.reduceLE, Int.reduceGT, Int.reduceGE, beq_self_eq_true, List.getElem?_toArray, List.getElem?_cons_zero, List.getElem?_cons_succ, List.append_nil, List.nil_append, List.cons_append, List.append_eq, pl_45_4, wrapS (show j < 9223372036854775807 by omega), c3, g3, g4, p1, rc_nil]
  refine ⟨rc_load (ha := rfl) rfl z4 rfl rc_nil, ?_⟩
  simp only [RS, xs_some, Option.bind_some, Option.map_some, if_true, if_false, decide_true, decide_false, true_and, and_true, Bool.not_true, Bool.not_false, Bool.false_eq_true, not_false_eq_true, not_true_eq_false, Nat.reduceLT, Nat.reduceBEq, Nat.reduceEqDiff, Nat.reduceAdd, Int.reduceEq, Int.reduceLT, Int.reduceLE, Int.reduceGT, Int.reduceGE, beq_self_eq_true, List.getElem?_toArray, List.getElem?_cons_zero, List.getElem?_cons_succ, List.append_nil, List.nil_append, List.cons_append, List.append_eq, u1, ld5, rc_nil]
  have e : tkM l j = x ∧ tkL l j = l.take j ++ l.drop (j + 1) ∧ tkC l j = 0 := by
    unfold tkM tkL tkC
    rw [if_neg (by omega), if_neg (by omega), if_neg (by omega)]
    exact ⟨by show (l[j]?).getD pm0 = x; rw [hx]; rfl, List.eraseIdx_eq_take_drop_succ .., rfl⟩
  rw [e.1, e.2.1, e.2.2]
  have f5 := (f1.then0 f14).row_ u2 (Nat.le_refl _)
  refine ⟨f5, v4, rfl, ?_⟩
  refine (p2.fr u2 (.box r4)).slcQ (Hp.le_trans (qHp_fr0 f14) (qHp_fr u2 (.box r4) (f14.wf w1) fun f q => .inl q)) fun f q z => ?_
  have := hX f z
  have := f1.len
  rcases p4.or q with q | q
  · cases q; omega
  · have := y4.len; omega
end Go.Sv.Try
namespace Go.Sv.Try
open Go Go.Proofs
set_option linter.unusedVariables false
set_option linter.unusedSimpArgs false
theorem bldMlS (a b : Bool) (c d : Int) (b' o n z : Nat) : evBuild Try.prog 87 [(0, .agg [.bool a, .int .i64 c]), (1, .agg [.bool b, .int .i64 d]), (2, .sl b' o n z)] = some (.agg [.bool a, .int .i64 c, .bool b, .int .i64 d, .sl b' o n z]) := by kernel_rfl
theorem bldMlN (a b : Bool) (c d : Int) : evBuild Try.prog 87 [(0, .agg [.bool a, .int .i64 c]), (1, .agg [.bool b, .int .i64 d]), (2, .snil)] = some (.agg [.bool a, .int .i64 c, .bool b, .int .i64 d, .snil]) := by kernel_rfl
theorem bldMl {v : V} (h : v = .snil ∨ ∃ b o n z, v = .sl b o n z) (a b : Bool) (c d : Int) : evBuild Try.prog 87 [(0, .agg [.bool a, .int .i64 c]), (1, .agg [.bool b, .int .i64 d]), (2, v)] = some (.agg (mcl ⟨a, c, b, d, []⟩ v)) := by
  rcases h with rfl | ⟨b', o, n, z, rfl⟩
  · exact bldMlN a b c d
  · exact bldMlS a b c d b' o n z
theorem ldPl {A : AS} {b : Nat} {k : BK} {p : Bool} {n : Int} (h : A.blk[b]? = some ⟨[.bool p, .int .i64 n], k⟩) : evLoad Try.prog 85 (.ptr b 0) A = some (.agg [.bool p, .int .i64 n]) := by
  rw [load_agg ag85 sz85]
  unfold AS.range; rw [h]; rfl
set_option maxRecDepth 10000 in
set_option maxHeartbeats 16000000 in
theorem send_spec {X : Nat → Prop} {A : AS} {bp : Nat} {fo : Option Nat} {l : List PM} {a b : Bool} {c d : Int} {m2 : Hp} {x : Go.Sv.M} {dv iv lv : V} (hw : WF A) (hX : ∀ f, X f → f < A.blk.length) (h : PostIs X A bp fo l) (hm2 : m2.on A) (hx : MsgIn m2 x dv iv lv) (hz : Sized x) :
    ∃ w A', EvF Try.prog HH 44 [.ptr bp 0, .agg [.bool a, .int .i64 c], .agg [.bool b, .int .i64 d], .agg (mc x dv iv lv)] A w A' ∧ w = .int .i64 (if checkM x = 0 then putC l else checkM x) ∧ Fr (postS A bp fo) A A' ∧ ∃ fo', Gr A fo fo' ∧ PostIs X A' bp fo' (if checkM x = 0 then putL l ⟨a, c, b, d, writeB x⟩ else l) := by
  refine run_fn2 rfl Try.func44 (by unfold Try.f44; rfl) Try.ntmps44 (by unfold Try.f44; rfl) (by simp) ?_
  simp only [RS, xs_some, Option.bind_some, Option.map_some, if_true, if_false, decide_true, decide_false, true_and, and_true, Bool.not_true, Bool.not_false, Bool.false_eq_true, not_false_eq_true, not_true_eq_false, Nat.reduceLT, Nat.reduceBEq, Nat.reduceEqDiff, Nat.reduceAdd, Int.reduceEq, Int.reduceLT, Int.reduceLE, Int.reduceGT, Int.reduceGE, beq_self_eq_true, List.getElem?_toArray, List.getElem?_cons_zero, List.getElem?_cons_succ, List.append_nil, List.nil_append, List.cons_append, List.append_eq]
  obtain ⟨A1, e1, f1, r1, n1⟩ := new_var A [.bool a, .int .i64 c]
  rw [← e1]
  obtain ⟨A2, e2, f2, r2, n2⟩ := new_var A1 [.bool b, .int .i64 d]
  rw [← e2]
  obtain ⟨A3, e3, f3, r3, n3⟩ := new_var A2 (mc x dv iv lv)
  rw [← e3]
  have f13 := (f1.then0 f2).then0 f3
  have w3 := f13.wf hw
  have ld3 := (ldM r3 hx.id).2.2.2.2.2.2.2.2.2.2
  simp only [RS, xs_some, Option.bind_some, Option.map_some, if_true, if_false, decide_true, decide_false, true_and, and_true, Bool.not_true, Bool.not_false, Bool.false_eq_true, not_false_eq_true, not_true_eq_false, Nat.reduceLT, Nat.reduceBEq, Nat.reduceEqDiff, Nat.reduceAdd, Int.reduceEq, Int.reduceLT, Int.reduceLE, Int.reduceGT, Int.reduceGE, beq_self_eq_true, List.getElem?_toArray, List.getElem?_cons_zero, List.getElem?_cons_succ, List.append_nil, List.nil_append, List.cons_append, List.append_eq, ld3]
  obtain ⟨w, A4, k1, k2, v, rfl, k3, k4⟩ := write_spec w3 (hm2.fr0 f13) hx hz
  refine run_call1 k1 ?_
  have f4 := f13.then0 k2
  simp only [RS, xs_some, Option.bind_some, Option.map_some, if_true, if_false, decide_true, decide_false, true_and, and_true, Bool.not_true, Bool.not_false, Bool.false_eq_true, not_false_eq_true, not_true_eq_false, Nat.reduceLT, Nat.reduceBEq, Nat.reduceEqDiff, Nat.reduceAdd, Int.reduceEq, Int.reduceLT, Int.reduceLE, Int.reduceGT, Int.reduceGE, beq_self_eq_true, List.getElem?_toArray, List.getElem?_cons_zero, List.getElem?_cons_succ, List.append_nil, List.nil_append, List.cons_append, List.append_eq]
  by_cases q : checkM x = 0
  rotate_left
  · simp only [RS, xs_some, Option.bind_some, Option.map_some, if_true, if_false, decide_true, decide_false, true_and, and_true, Bool.not_true, Bool.not_false, Bool.false_eq_true, not_false_eq_true, not_true_eq_false, Nat.reduceLT, Nat.reduceBEq, Nat.reduceEqDiff, Nat.reduceAdd, Int.reduceEq, Int.reduceLT, Int.reduceLE, Int.reduceGT, Int.reduceGE, beq_self_eq_true, List.getElem?_toArray, List.getElem?_cons_zero, List.getElem?_cons_succ, List.append_nil, List.nil_append, List.cons_append, List.append_eq, q]
    exact ⟨f4.mono fun _ q => q.elim, fo, .inl rfl, h.fr0 f4⟩
  · have ldb := ldPl (k2.row0 (f3.row0 r2))
    have lda := ldPl (k2.row0 (f3.row0 (f2.row0 r1)))
    have hv := (k4 q).arrBts
    simp only [RS, xs_some, Option.bind_some, Option.map_some, if_true, if_false, decide_true, decide_false, true_and, and_true, Bool.not_true, Bool.not_false, Bool.false_eq_true, not_false_eq_true, not_true_eq_false, Nat.reduceLT, Nat.reduceBEq, Nat.reduceEqDiff, Nat.reduceAdd, Int.reduceEq, Int.reduceLT, Int.reduceLE, Int.reduceGT, Int.reduceGE, beq_self_eq_true, List.getElem?_toArray, List.getElem?_cons_zero, List.getElem?_cons_succ, List.append_nil, List.nil_append, List.cons_append, List.append_eq, q, lda, ldb, bldMl (k4 q).form]
    obtain ⟨w, A5, u1, rfl, u2, fo', u3, u4⟩ := put_spec (X := X) (x := ⟨a, c, b, d, writeB x⟩) (f4.wf hw) (fun f z => by have := hX f z; have := f4.len; omega) (h.fr0 f4) (arrHp_on A4) hv (by have := writeB_len hx (okM_of q); show (writeB x).length ≤ _; omega)
    have u1 : EvF Try.prog HH 38 [.ptr bp 0, .agg (mcl ⟨a, c, b, d, []⟩ v)] A4 _ A5 := u1
    refine run_call1 u1 ?_
    simp only [RS, xs_some, Option.bind_some, Option.map_some, if_true, if_false, decide_true, decide_false, true_and, and_true, Bool.not_true, Bool.not_false, Bool.false_eq_true, not_false_eq_true, not_true_eq_false, Nat.reduceLT, Nat.reduceBEq, Nat.reduceEqDiff, Nat.reduceAdd, Int.reduceEq, Int.reduceLT, Int.reduceLE, Int.reduceGT, Int.reduceGE, beq_self_eq_true, List.getElem?_toArray, List.getElem?_cons_zero, List.getElem?_cons_succ, List.append_nil, List.nil_append, List.cons_append, List.append_eq]
    exact ⟨(f4.mono fun _ q => q.elim : Fr (postS A bp fo) A A4).trans u2 fun z q => postS_back f4 q, fo', u3.from f4.len, u4⟩
theorem allP_spec {A : AS} {bp : Nat} : ∃ w A', EvF Try.prog HH 48 [.ptr bp 0] A w A' ∧ w = .fn 74 [] [.ptr A.blk.length 0] ∧ Fr S0 A A' ∧ A'.blk[A.blk.length]? = some ⟨[.ptr bp 0], .var⟩ := by
  refine run_fn2 rfl Try.func48 (by unfold Try.f48; rfl) Try.ntmps48 (by unfold Try.f48; rfl) (by simp) ?_
  simp only [RS, xs_some, Option.bind_some, Option.map_some, if_true, if_false, decide_true, decide_false, true_and, and_true, Bool.not_true, Bool.not_false, Bool.false_eq_true, not_false_eq_true, not_true_eq_false, Nat.reduceLT, Nat.reduceBEq, Nat.reduceEqDiff, Nat.reduceAdd, Int.reduceEq, Int.reduceLT, Int.reduceLE, Int.reduceGT, Int.reduceGE, beq_self_eq_true, List.getElem?_toArray, List.getElem?_cons_zero, List.getElem?_cons_succ, List.append_nil, List.nil_append, List.cons_append, List.append_eq]
  exact ⟨Fr.pushVar A _, push_row A _⟩
def argP (A A1 : AS) (args : List V) (y : Nat × PM) : Prop := ∃ b f, args = [.int .i64 (y.1 : Int), .agg (mcl y.2 (.sl b 0 y.2.b.length 1))] ∧ A1.blk[b]? = some ⟨bc y.2.b, .arr f 0⟩ ∧ Sole0 A1 b f ∧ A.blk.length ≤ f ∧ A.blk.length ≤ b
set_option maxRecDepth 10000 in
set_option maxHeartbeats 16000000 in
theorem allP_goes {X : Nat → Prop} {A : AS} {bp bx : Nat} {fo : Option Nat} {l : List PM} {S : Loc → Prop} (hw : WF A) (h : PostIs X A bp fo l) (hb : A.blk[bx]? = some ⟨[.ptr bp 0], .var⟩) (hl : l.length ≤ 1000000) (hbt : ∀ x ∈ l, x.b.length ≤ 1000000000000) :
    GoesH Try.prog HH 74 [] [.ptr bx 0] A S S0 (fun r => arrHp A r ≠ none) (fun _ => True) argP (l.mapIdx fun i x => (i, x)) := by
  intro lo J D hstep hJ0
  refine run_fn2 rfl Try.func74 (by unfold Try.f74; rfl) Try.ntmps74 (by unfold Try.f74; rfl) (by simp) ?_
  obtain ⟨w, hbox, hl'⟩ := h
  have hsl := hl'.slcArr (qHp_arr _ _)
  have hlen := fun B => hsl.len (P := Try.prog) Try.underlying79 B
  have ldx : evLoad Try.prog 107 (.ptr bx 0) A = some (.ptr bp 0) := load_one ag107 hb
  have ldp : evLoad Try.prog 79 (.ptr bp 0) A = some w := load_one ag79 hbox
  simp only [RS, xs_some, Option.bind_some, Option.map_some, if_true, if_false, decide_true, decide_false, true_and, and_true, Bool.not_true, Bool.not_false, Bool.false_eq_true, not_false_eq_true, not_true_eq_false, Nat.reduceLT, Nat.reduceBEq, Nat.reduceEqDiff, Nat.reduceAdd, Int.reduceEq, Int.reduceLT, Int.reduceLE, Int.reduceGT, Int.reduceGE, beq_self_eq_true, List.getElem?_toArray, List.getElem?_cons_zero, List.getElem?_cons_succ, List.append_nil, List.nil_append, List.cons_append, List.append_eq, ldx, faPo, ldp, hlen]
  refine run_loop_j (fun n e B => Fr S A B ∧ e.get 0 = .yield lo ∧ e.get 8 = w ∧ e.get 9 = .int .i64 l.length ∧ (∀ r, arrHp A r ≠ none → B.blk[r]? = A.blk[r]?) ∧ ∃ i : Nat, n = l.length - i ∧ i ≤ l.length ∧ e.get 10 = .int .i64 i ∧ J i B)
    (fun z e B => Fr S A B ∧ (Is z (.exit 0) ∨ Is z .ret) ∧ ((∃ A2, J l.length A2 ∧ Fr S0 A2 B) ∨ ∃ i A2, i < l.length ∧ D i A2 ∧ Fr S0 A2 B))
    ⟨_, .refl S A, rfl, rfl, rfl, fun r _ => rfl, 0, rfl, by simp, rfl, hJ0⟩ ?_ ?_
  rotate_left
  · rintro z e B hz ⟨hf, rfl | rfl, hd⟩
    · simp only [RS, xs_some, Option.bind_some, Option.map_some, if_true, if_false, decide_true, decide_false, true_and, and_true, Bool.not_true, Bool.not_false, Bool.false_eq_true, not_false_eq_true, not_true_eq_false, Nat.reduceLT, Nat.reduceBEq, Nat.reduceEqDiff, Nat.reduceAdd, Int.reduceEq, Int.reduceLT, Int.reduceLE, Int.reduceGT, Int.reduceGE, beq_self_eq_true, List.getElem?_toArray, List.getElem?_cons_zero, List.getElem?_cons_succ, List.append_nil, List.nil_append, List.cons_append, List.append_eq]
      exact ⟨hf, by simpa using hd⟩
    · simp only [RS, xs_some, Option.bind_some, Option.map_some, if_true, if_false, decide_true, decide_false, true_and, and_true, Bool.not_true, Bool.not_false, Bool.false_eq_true, not_false_eq_true, not_true_eq_false, Nat.reduceLT, Nat.reduceBEq, Nat.reduceEqDiff, Nat.reduceAdd, Int.reduceEq, Int.reduceLT, Int.reduceLE, Int.reduceGT, Int.reduceGE, beq_self_eq_true, List.getElem?_toArray, List.getElem?_cons_zero, List.getElem?_cons_succ, List.append_nil, List.nil_append, List.cons_append, List.append_eq]
      exact ⟨hf, by simpa using hd⟩
  rintro n e B ⟨hf, h0, h8, h9, hK, i, rfl, hi, h10, hj⟩
  simp only [RS, xs_some, Option.bind_some, Option.map_some, if_true, if_false, decide_true, decide_false, true_and, and_true, Bool.not_true, Bool.not_false, Bool.false_eq_true, not_false_eq_true, not_true_eq_false, Nat.reduceLT, Nat.reduceBEq, Nat.reduceEqDiff, Nat.reduceAdd, Int.reduceEq, Int.reduceLT, Int.reduceLE, Int.reduceGT, Int.reduceGE, beq_self_eq_true, List.getElem?_toArray, List.getElem?_cons_zero, List.getElem?_cons_succ, List.append_nil, List.nil_append, List.cons_append, List.append_eq, h9, h10]
  refine condK_of (fun g => ?_) (fun g => ?_)
  rotate_left
  · simp only [RS, xs_some, Option.bind_some, Option.map_some, if_true, if_false, decide_true, decide_false, true_and, and_true, Bool.not_true, Bool.not_false, Bool.false_eq_true, not_false_eq_true, not_true_eq_false, Nat.reduceLT, Nat.reduceBEq, Nat.reduceEqDiff, Nat.reduceAdd, Int.reduceEq, Int.reduceLT, Int.reduceLE, Int.reduceGT, Int.reduceGE, beq_self_eq_true, List.getElem?_toArray, List.getElem?_cons_zero, List.getElem?_cons_succ, List.append_nil, List.nil_append, List.cons_append, List.append_eq]
    have : i = l.length := by omega
    subst this
    exact ⟨hf, .inl rfl, .inl ⟨B, hj, .refl _ _⟩⟩
  have hmB : (arrHp A).on B := fun b cs q => by
    obtain ⟨k, hk⟩ := arrHp_on A b cs q
    exact ⟨k, by rw [hK b (by rw [q]; simp)]; exact hk⟩
  have hwB := hf.wf hw
  obtain ⟨x, hx⟩ := get_lt (l := l) (i := i) (by omega)
  have hxb := hbt x (List.mem_of_getElem? hx)
  obtain ⟨b, o, c, g3, g4, g5⟩ := hsl.at (P := Try.prog) (k := .i64) hmB Try.underlying79 sz87 ag87 hx
  obtain ⟨v, rfl, hv⟩ := eMail_W.1 g5
  obtain ⟨B1, s1, s2, s3⟩ := newMl (A := B) (x := x) hv.one
  have s1 : evStore Try.prog 87 (.ptr B.blk.length 0) (.agg (mcl x v)) (B.push ⟨[.bool false, .int .i64 0, .bool false, .int .i64 0, .snil], .var⟩) = some B1 := s1
  have w1 := s2.wf hwB
  obtain ⟨b', B2, y1, y2, y3, y4, y5⟩ := copy_bytes (P := Try.prog) (t := 38) (tx := 38) w1 sl38 Try.underlying38 hv (hmB.fr0 s2) (by omega) (by omega)
  have fM := faMl B.blk.length
  have ld1 := ldMl ((Fr.pushArr B1 []).row0 s3)
  have r2 := y5.row0 s3
  obtain ⟨B3, t1, t2, t3, t4⟩ := store_var (P := Try.prog) (t := 38) (o := 4) (x := .sl b' 0 x.b.length 1) r2 rfl sz38 (by simp [mcl]) rfl
  have t3 : B3.blk[B.blk.length]? = some ⟨mcl x (.sl b' 0 x.b.length 1), .var⟩ := t3
  have ld3 := ldMl t3
  have f3 := (s2.then0 y5).row_ t2 (Nat.le_refl _)
  have hlb := s2.len
  have r3 := t2.row _ _ y2 (fun q => by cases q; rw [r2] at y2; simp at y2)
  simp only [RS, xs_some, Option.bind_some, Option.map_some, if_true, if_false, decide_true, decide_false, true_and, and_true, Bool.not_true, Bool.not_false, Bool.false_eq_true, not_false_eq_true, not_true_eq_false, Nat.reduceLT, Nat.reduceBEq, Nat.reduceEqDiff, Nat.reduceAdd, Int.reduceEq, Int.reduceLT, Int.reduceLE, Int.reduceGT, Int.reduceGE, beq_self_eq_true, List.getElem?_toArray, List.getElem?_cons_zero, List.getElem?_cons_succ, List.append_nil, List.nil_append, List.cons_append, List.append_eq, h8, h10, g3, g4, zc87, s1, fM, ld1, bsl0, y1, t1, h0, ld3]
  have hat : (l.mapIdx fun i x => (i, x))[i]? = some (i, x) := by rw [List.getElem?_mapIdx, hx]; rfl
  obtain ⟨bo, B4, z1, z2, z3, z4⟩ := hstep i _ B B3 _ hat hj f3 (hf.then0 f3) ⟨b', B1.blk.length, rfl, r3, y3.fr t2 (fun q => by cases q), hlb, by omega⟩
  refine ⟨_, B4, z1, ?_⟩
  simp only [RS, xs_some, Option.bind_some, Option.map_some, if_true, if_false, decide_true, decide_false, true_and, and_true, Bool.not_true, Bool.not_false, Bool.false_eq_true, not_false_eq_true, not_true_eq_false, Nat.reduceLT, Nat.reduceBEq, Nat.reduceEqDiff, Nat.reduceAdd, Int.reduceEq, Int.reduceLT, Int.reduceLE, Int.reduceGT, Int.reduceGE, beq_self_eq_true, List.getElem?_toArray, List.getElem?_cons_zero, List.getElem?_cons_succ, List.append_nil, List.nil_append, List.cons_append, List.append_eq]
  cases bo with
  | true =>
    simp only [RS, xs_some, Option.bind_some, Option.map_some, if_true, if_false, decide_true, decide_false, true_and, and_true, Bool.not_true, Bool.not_false, Bool.false_eq_true, not_false_eq_true, not_true_eq_false, Nat.reduceLT, Nat.reduceBEq, Nat.reduceEqDiff, Nat.reduceAdd, Int.reduceEq, Int.reduceLT, Int.reduceLE, Int.reduceGT, Int.reduceGE, beq_self_eq_true, List.getElem?_toArray, List.getElem?_cons_zero, List.getElem?_cons_succ, List.append_nil, List.nil_append, List.cons_append, List.append_eq, h10]
    obtain ⟨z5, z6⟩ := z3 rfl
    refine ⟨l.length - (i + 1), by omega, (hf.then0 f3).thn z2, h0, h8, h9, fun r hr => ?_, i + 1, rfl, by omega, by rw [wrapS (by omega)], z5⟩
    rw [z6 r hr]
    have := hK r hr
    cases hr' : A.blk[r]? with
    | none => exact absurd (by unfold arrHp; rw [hr']) hr
    | some k =>
      rw [hr'] at this
      exact f3.row r k this fun q => q
  | false =>
    simp only [RS, xs_some, Option.bind_some, Option.map_some, if_true, if_false, decide_true, decide_false, true_and, and_true, Bool.not_true, Bool.not_false, Bool.false_eq_true, not_false_eq_true, not_true_eq_false, Nat.reduceLT, Nat.reduceBEq, Nat.reduceEqDiff, Nat.reduceAdd, Int.reduceEq, Int.reduceLT, Int.reduceLE, Int.reduceGT, Int.reduceGE, beq_self_eq_true, List.getElem?_toArray, List.getElem?_cons_zero, List.getElem?_cons_succ, List.append_nil, List.nil_append, List.cons_append, List.append_eq]
    exact ⟨(hf.then0 f3).thn z2, .inr rfl, .inr ⟨i, B4, by omega, z4 rfl, .refl _ _⟩⟩
end Go.Sv.Try
namespace Go.Sv.Try
open Go Go.Proofs
set_option linter.unusedVariables false
set_option linter.unusedSimpArgs false
def newS (c N : Nat) : Loc → Prop
  | .row b => b = c ∨ N ≤ b
  | .fam f => N ≤ f
  | _ => False
def F0 : Nat → Prop := fun _ => False
set_option maxRecDepth 10000 in
set_option maxHeartbeats 16000000 in
theorem mails_spec {X : Nat → Prop} {A : AS} {bp : Nat} {fo : Option Nat} {l : List PM} (hw : WF A) (h : PostIs X A bp fo l) (hl : l.length ≤ 1000000) (hbt : ∀ x ∈ l, x.b.length ≤ 1000000000000) :
    ∃ w A', EvF Try.prog HH 47 [.ptr bp 0] A w A' ∧ Fr S0 A A' ∧ Slc eMail (arrHp A') w l := by
  refine run_fn2 rfl Try.func47 (by unfold Try.f47; rfl) Try.ntmps47 (by unfold Try.f47; rfl) (by simp) ?_
  simp only [RS, xs_some, Option.bind_some, Option.map_some, if_true, if_false, decide_true, decide_false, true_and, and_true, Bool.not_true, Bool.not_false, Bool.false_eq_true, not_false_eq_true, not_true_eq_false, Nat.reduceLT, Nat.reduceBEq, Nat.reduceEqDiff, Nat.reduceAdd, Int.reduceEq, Int.reduceLT, Int.reduceLE, Int.reduceGT, Int.reduceGE, beq_self_eq_true, List.getElem?_toArray, List.getElem?_cons_zero, List.getElem?_cons_succ, List.append_nil, List.nil_append, List.cons_append, List.append_eq, zc79]
  obtain ⟨A1, e1, f1, r1, n1⟩ := new_var A [.snil]
  rw [← e1]
  obtain ⟨A2, e2, f2, r2, n2⟩ := new_var A1 [.snil]
  rw [← e2]
  obtain ⟨w, A3, k1, rfl, k2, k3⟩ := allP_spec (A := A2) (bp := bp)
  refine run_call1 k1 ?_
  have f3 := (f1.then0 f2).then0 k2
  obtain ⟨c2, hc2⟩ : ∃ b, b = A.blk.length := ⟨_, rfl⟩
  obtain ⟨c3, hc3⟩ : ∃ b, b = A1.blk.length := ⟨_, rfl⟩
  rw [← hc2] at r1 ⊢
  rw [← hc3] at r2 ⊢
  have q2 := k2.row0 (f2.row0 r1)
  have q3 := k2.row0 r2
  have w3 := f3.wf hw
  have h3 := h.fr0 f3
  have hlen3 := f3.len
  have hne : c2 ≠ c3 := by omega
  simp only [RS, xs_some, Option.bind_some, Option.map_some, if_true, if_false, decide_true, decide_false, true_and, and_true, Bool.not_true, Bool.not_false, Bool.false_eq_true, not_false_eq_true, not_true_eq_false, Nat.reduceLT, Nat.reduceBEq, Nat.reduceEqDiff, Nat.reduceAdd, Int.reduceEq, Int.reduceLT, Int.reduceLE, Int.reduceGT, Int.reduceGE, beq_self_eq_true, List.getElem?_toArray, List.getElem?_cons_zero, List.getElem?_cons_succ, List.append_nil, List.nil_append, List.cons_append, List.append_eq]
  refine run_goesH (S := newS c3 A3.blk.length) (T := S0) (K := fun r => arrHp A3 r ≠ none) (Fin := fun _ => True) (AR := argP) (xs := l.mapIdx fun i x => (i, x))
    (fun i B => WF B ∧ Fr (newS c3 A3.blk.length) A3 B ∧ B.blk[c2]? = some ⟨[.snil], .var⟩ ∧ ∃ w fo3, B.blk[c3]? = some ⟨[w], .var⟩ ∧ Lst eMail (qHp (exF fo3 F0) B) B w (l.take i) fo3 ∧ ∀ f, fo3 = some f → A3.blk.length ≤ f) (fun _ _ => False)
    rfl (fun q => q) (fun q => q) ?_ ⟨w3, .refl _ _, q2, .snil, none, q3, .nil, fun f q => by cases q⟩ ?_ (fun _ _ _ q => q.elim)
    Try.func47 Try.ntmps47 (by simp) ?_ ?_ (fun _ _ _ q => q.elim)
  · intro A0 hf0 hblk
    have g := allP_goes (S := orLoop (newS c3 A3.blk.length) A3.loops.length) (hf0.wf w3) (h3.fr0 hf0) (hf0.row0 k3) hl hbt
    have e : arrHp A0 = arrHp A3 := by funext r; unfold arrHp; rw [hblk]
    rw [e] at g; exact g
  · rintro i B C ⟨b1, b2, b3, w, fo3, b4, b5, b6⟩ hf
    exact ⟨hf.wf b1, b2.trans hf fun z q => .inr (by subst q; exact Nat.le_refl _), hf.loop_row b3, w, fo3, hf.loop_row b4, (b5.fr hf fun b q => by cases q).mono (qHp_fr hf (fun b k q => by cases q) b1 fun f q => .inl q), b6⟩
  · rintro i ⟨i', x⟩ B C args hi ⟨b1, b2, b3, w, fo3, b4, b5, b6⟩ hBC hf ⟨b, f, rfl, a1, a2, a3, a4⟩
    have hx : i' = i ∧ l[i]? = some x := by
      rw [List.getElem?_mapIdx] at hi
      cases q : l[i]? with
      | none => rw [q] at hi; simp at hi
      | some y => rw [q] at hi; simp at hi; exact ⟨hi.1.symm, by rw [hi.2]⟩
    obtain ⟨rfl, hx⟩ := hx
    have hilt := (List.getElem?_eq_some_iff.1 hx).1
    refine ⟨_, rfl, ?_⟩
    have hwC := hBC.wf b1
    obtain ⟨D, s1, s2, s3⟩ := newMl (A := C) (x := x) (v := .sl b 0 x.b.length 1) rfl
    have s1 : evStore Try.prog 87 (.ptr C.blk.length 0) (.agg (mcl x (.sl b 0 x.b.length 1))) (C.push ⟨[.bool false, .int .i64 0, .bool false, .int .i64 0, .snil], .var⟩) = some D := s1
    simp only [RS, xs_some, Option.bind_some, Option.map_some, if_true, if_false, decide_true, decide_false, true_and, and_true, Bool.not_true, Bool.not_false, Bool.false_eq_true, not_false_eq_true, not_true_eq_false, Nat.reduceLT, Nat.reduceBEq, Nat.reduceEqDiff, Nat.reduceAdd, Int.reduceEq, Int.reduceLT, Int.reduceLE, Int.reduceGT, Int.reduceGE, beq_self_eq_true, List.getElem?_toArray, List.getElem?_cons_zero, List.getElem?_cons_succ, List.append_nil, List.nil_append, List.cons_append, List.append_eq, zc87, s1]
    refine ⟨rfl, s2.mono fun _ q => q.elim, fun D1 hD => ?_⟩
    have hCD := s2.mono (S' := (· = .loop A3.loops.length)) fun _ q => q.elim
    have hBD : Fr (· = .loop A3.loops.length) B D1 := ((hBC.then0 s2).mono fun _ q => q.elim : Fr (· = .loop A3.loops.length) B D).thn hD
    have c3' := hBD.loop_row b4
    have c5 := hD.loop_row s3
    have l5 := (b5.fr hBD fun b q => by cases q).mono (qHp_fr hBD (fun b k q => by cases q) b1 fun f q => .inl q)
    have hwD := hBD.wf b1
    have hbr := hD.loop_row (s2.row0 a1)
    have hf3 : ¬ exF fo3 F0 f := fun q => by
      rcases q with q | q
      · have := b5.famLt _ q; omega
      · exact q
    have hv := row_slcQ (X := exF fo3 F0) hbr hf3
    have hlen := fun B => l5.len (P := Try.prog) Try.underlying79 B
    have hli : (l.take i').length = i' := by rw [List.length_take]; omega
    have ld3 : ∀ {B : AS}, B.blk[c3]? = some ⟨[w], .var⟩ → evLoad Try.prog 79 (.ptr c3 0) B = some w := fun q => load_one ag79 q
    have ld5 := (ldMl c5).2.2.2.2.2
    obtain ⟨v4, E, fo', p1, p2, p3, p4⟩ := l5.push (P := Try.prog) (t := 79) (tx := 79) (n := 5) rfl sl79 Try.underlying79 hwD (y := x) (cs' := mcl x (.sl b 0 x.b.length 1)) ⟨_, rfl, hv⟩ (by omega) (by omega)
    have e4 := p3.row _ _ c3' (inFamO_var c3')
    obtain ⟨G, u1, u2, u3, u4⟩ := store_one (P := Try.prog) (t := 79) (x := v4) e4 p2.cells1 sz79 p2.one
    have hA3D : Fr (newS c3 A3.blk.length) A3 D1 := b2.trans hBD fun z q => .inr (by subst q; exact Nat.le_refl _)
    have p3' : Fr (newS c3 A3.blk.length) D1 E := by
      refine p3.mono fun z q => ?_
      rcases inFamO_back hA3D q with q | q
      · cases fo3 with
        | none => exact q.elim
        | some g =>
          have := b6 g rfl
          cases z with
          | row b => obtain ⟨k, base, z1, z2⟩ := q; have := w3 b k _ base z1 z2; omega
          | fam g' => show A3.blk.length ≤ g'; rw [show g' = g from q]; exact this
          | map r => exact q.elim
          | loop r => exact q.elim
          | it r => exact q.elim
      · cases z with
        | row b => exact .inr q
        | fam g => exact q
        | map r => cases fo3 <;> exact absurd ‹_› (fun q => q)
        | loop r => cases fo3 <;> exact absurd ‹_› (fun q => q)
        | it r => cases fo3 <;> exact absurd ‹_› (fun q => q)
    have p4' : Fr (newS c3 A3.blk.length) D1 G := p3'.trans u2 fun z q => .inl (by subst q; exact .inl rfl)
    simp only [RS, xs_some, Option.bind_some, Option.map_some, if_true, if_false, decide_true, decide_false, true_and, and_true, Bool.not_true, Bool.not_false, Bool.false_eq_true, not_false_eq_true, not_true_eq_false, Nat.reduceLT, Nat.reduceBEq, Nat.reduceEqDiff, Nat.reduceAdd, Int.reduceEq, Int.reduceLT, Int.reduceLE, Int.reduceGT, Int.reduceGE, beq_self_eq_true, List.getElem?_toArray, List.getElem?_cons_zero, List.getElem?_cons_succ, List.append_nil, List.nil_append, List.cons_append, List.append_eq, ld3 c3', hlen, hli]
    simp only [RS, xs_some, Option.bind_some, Option.map_some, if_true, if_false, decide_true, decide_false, true_and, and_true, Bool.not_true, Bool.not_false, Bool.false_eq_true, not_false_eq_true, not_true_eq_false, Nat.reduceLT, Nat.reduceBEq, Nat.reduceEqDiff, Nat.reduceAdd, Int.reduceEq, Int.reduceLT, Int.reduceLE, Int.reduceGT, Int.reduceGE, beq_self_eq_true, List.getElem?_toArray, List.getElem?_cons_zero, List.getElem?_cons_succ, List.append_nil, List.nil_append, List.cons_append, List.append_eq, ld3 c3', ld5, bslML _ (show (mcl x (.sl b 0 x.b.length 1)).length = 5 from rfl), p1, u1]
    have htk : l.take (i' + 1) = l.take i' ++ [x] := by rw [List.take_add_one, hx]; rfl
    refine ⟨p4', .inl ⟨rfl, ⟨p4'.wf hwD, hA3D.thn p4', ?_, v4, fo', u3, ?_, fun g q => ?_⟩, fun r hr => ?_⟩⟩
    · exact u2.row _ _ (p3.row _ _ (hBD.loop_row b3) (inFamO_var (hBD.loop_row b3))) (fun q => hne (by cases q; rfl))
    · rw [htk]
      refine (p2.fr u2 (.box e4)).mono (Hp.le_trans (qHp_fr (X := exF fo3 F0) p3 (.famO fun f q => .inl q) hwD (Y := exF fo' F0) fun f q => ?_) (qHp_fr u2 (.box e4) (p3.wf hwD) fun f q => .inl q))
      exact q.elim (fun q => (p4.or q).imp .inl id) fun q => .inl (.inr q)
    · rcases p4.or q with q | q
      · exact b6 g q
      · have := hA3D.len; omega
    · have hr3 : ¬ (newS c3 A3.blk.length) (.row r) := fun q => by
        rcases q with q | q
        · subst q; exact hr (arrHp_var q3)
        · exact hr ((arrHp_on A3).fresh q)
      cases hk : C.blk[r]? with
      | none =>
        have : A3.blk[r]? = none := by
          have h1 := hf.len
          have h2 := List.getElem?_eq_none_iff.1 hk
          exact List.getElem?_eq_none (by omega)
        exact absurd (by unfold arrHp; rw [this]) hr
      | some k =>
        exact p4'.row r k (hD.loop_row (s2.row0 hk)) hr3
  · rintro B C ⟨b1, b2, b3, w, fo3, b4, b5, b6⟩ hBC hfin hf
    have hBC : Fr (· = .loop A3.loops.length) B C := hBC.mono fun z q => q.elim (fun q => q.elim) id
    have c2' := hBC.loop_row b3
    have c3' := hBC.loop_row b4
    have l5 := (b5.fr hBC fun b q => by cases q).mono (qHp_arr _ _ |> Hp.le_trans (qHp_fr hBC (fun b k q => by cases q) b1 (Y := exF fo3 F0) fun f q => .inl q))
    have e : l.take (l.mapIdx fun i x => (i, x)).length = l := by rw [List.length_mapIdx, List.take_length]
    rw [e] at l5
    have ld3 : evLoad Try.prog 79 (.ptr c3 0) C = some w := load_one ag79 c3'
    obtain ⟨G, u1, u2, u3, u4⟩ := store_one (P := Try.prog) (t := 79) (x := w) c2' l5.cells1 sz79 l5.one
    have ld2 : evLoad Try.prog 79 (.ptr c2 0) G = some w := load_one ag79 u3
    simp only [RS, xs_some, Option.bind_some, Option.map_some, if_true, if_false, decide_true, decide_false, true_and, and_true, Bool.not_true, Bool.not_false, Bool.false_eq_true, not_false_eq_true, not_true_eq_false, Nat.reduceLT, Nat.reduceBEq, Nat.reduceEqDiff, Nat.reduceAdd, Int.reduceEq, Int.reduceLT, Int.reduceLE, Int.reduceGT, Int.reduceGE, beq_self_eq_true, List.getElem?_toArray, List.getElem?_cons_zero, List.getElem?_cons_succ, List.append_nil, List.nil_append, List.cons_append, List.append_eq, ld3, u1, ld2]
    refine ⟨?_, (l5.slcArr fun _ _ q => q).mono (arrHp_le u2 fun b q => by cases q; exact arrHp_var c2')⟩
    refine ((f3.trans hf (S' := newS c3 A3.blk.length) fun z q => .inr ?_).trans u2 fun z q => .inr (by subst q; show A.blk.length ≤ c2; omega))
    cases z with
    | row b => show A.blk.length ≤ b; rcases q with q | q <;> omega
    | fam g => show A.blk.length ≤ g; have : A3.blk.length ≤ g := q; omega
    | map r => exact q.elim
    | loop r => exact q.elim
    | it r => exact q.elim
end Go.Sv.Try
namespace Go.Sv.Try
open Go Go.Proofs
set_option linter.unusedVariables false
set_option linter.unusedSimpArgs false
abbrev OpP := Int × Int × (Bool × Int) × (Bool × Int) × Go.Sv.M × Bts
def ePl : Enc (Bool × Int) := ePair eBool (eInt .i64)
def eOp : Enc OpP := ePair (eInt .i64) (ePair (eInt .i64) (ePair ePl (ePair ePl (ePair eMsg (eSl eU8)))))
def ocl (o : OpP) (dv iv lv bv : V) : List V := .int .i64 o.1 :: .int .i64 o.2.1 :: .bool o.2.2.1.1 :: .int .i64 o.2.2.1.2 :: .bool o.2.2.2.1.1 :: .int .i64 o.2.2.2.1.2 :: (mc o.2.2.2.2.1 dv iv lv ++ [bv])
theorem eOp_R {m : Hp} {cs : List V} {o : OpP} (h : eOp.R m cs o) : ∃ dv iv lv bv, cs = ocl o dv iv lv bv ∧ MsgIn m o.2.2.2.2.1 dv iv lv ∧ Slc eU8 m bv o.2.2.2.2.2 := by
  obtain ⟨_, _, rfl, rfl, _, _, rfl, rfl, _, _, rfl, ⟨_, _, rfl, rfl, rfl⟩, _, _, rfl, ⟨_, _, rfl, rfl, rfl⟩, _, _, rfl, ⟨dv, iv, lv, rfl, h⟩, bv, rfl, h'⟩ := h
  exact ⟨dv, iv, lv, bv, rfl, h, h'⟩
def shP : Sh := .struct [(.bool, 0, 1), (.int .i64, 1, 1)] 2
def shO : Sh := .struct [(.int .i64, 0, 1), (.int .i64, 1, 1), (shP, 2, 2), (shP, 4, 2), (shM, 6, 41), (.sl (.int .u8) 1, 47, 1)] 48
theorem Reads.place : Reads ePl shP (fun _ => True) (fun _ => 0) :=
  Reads.weak (Reads.struct (.cons Reads.bool rfl rfl (.last (Reads.int .i64) rfl)) rfl) (fun _ _ => trivial) fun _ => Nat.zero_le _
def bulkO (o : OpP) : Nat := bulkM o.2.2.2.2.1 + sumOf (fun _ => 1) o.2.2.2.2.2 + 1
theorem Reads.op : Reads eOp shO (fun o => Sized o.2.2.2.2.1) bulkO :=
  Reads.weak (Reads.struct (.cons (Reads.int .i64) rfl rfl (.cons (Reads.int .i64) rfl rfl (.cons Reads.place rfl rfl (.cons Reads.place rfl rfl (.cons Reads.msg rfl rfl (.last Reads.u8.sl rfl)))))) rfl)
    (fun _ h => h.2.2.2.2.1.1) fun o => by
      show _ ≤ (1 + (1 + (0 + (0 + (bulkM o.2.2.2.2.1 + (sumOf (fun _ => 1) o.2.2.2.2.2 + 1)))))) + 1
      unfold bulkO; omega
theorem ocl_len {o : OpP} {dv iv lv bv : V} (h : o.2.2.2.2.1.id.length = 32) : (ocl o dv iv lv bv).length = 48 := by simp [ocl, mc_len h]
theorem faO (b : Nat) : evFieldAddr Try.prog 96 (.ptr b 0) 0 = some (.ptr b 0) ∧ evFieldAddr Try.prog 96 (.ptr b 0) 1 = some (.ptr b 1) ∧ evFieldAddr Try.prog 96 (.ptr b 0) 2 = some (.ptr b 2) ∧ evFieldAddr Try.prog 96 (.ptr b 0) 3 = some (.ptr b 4) ∧ evFieldAddr Try.prog 96 (.ptr b 0) 4 = some (.ptr b 6) ∧ evFieldAddr Try.prog 96 (.ptr b 0) 5 = some (.ptr b 47) ∧ evFieldAddr Try.prog 41 (.ptr b 6) 7 = some (.ptr b 44) :=
  ⟨by kernel_rfl, by kernel_rfl, by kernel_rfl, by kernel_rfl, by kernel_rfl, by kernel_rfl, by kernel_rfl⟩
theorem ldO {A : AS} {b : Nat} {k : BK} {o : OpP} {dv iv lv bv : V} (h : A.blk[b]? = some ⟨ocl o dv iv lv bv, k⟩) (hid : o.2.2.2.2.1.id.length = 32) :
    evLoad Try.prog 3 (.ptr b 0) A = some (.int .i64 o.1) ∧ evLoad Try.prog 3 (.ptr b 1) A = some (.int .i64 o.2.1) ∧ evLoad Try.prog 85 (.ptr b 2) A = some (.agg [.bool o.2.2.1.1, .int .i64 o.2.2.1.2]) ∧ evLoad Try.prog 85 (.ptr b 4) A = some (.agg [.bool o.2.2.2.1.1, .int .i64 o.2.2.2.1.2])
    ∧ evLoad Try.prog 41 (.ptr b 6) A = some (.agg (mc o.2.2.2.2.1 dv iv lv)) ∧ evLoad Try.prog 38 (.ptr b 47) A = some bv ∧ evLoad Try.prog 38 (.ptr b 44) A = some dv := by
  have hl := mc_len (dv := dv) (iv := iv) (lv := lv) hid
  have hr : ∀ a n, a + n ≤ 48 → A.range b a n = some (((ocl o dv iv lv bv).drop a).take n) := fun a n q => by
    unfold AS.range; rw [h]; simp only []; rw [if_pos (by rw [ocl_len hid]; exact q)]
  refine ⟨?_, ?_, ?_, ?_, ?_, ?_, ?_⟩
  · rw [load_at ag3 h]; rfl
  · rw [load_at ag3 h]; rfl
  · rw [load_agg ag85 sz85, hr 2 2 (by decide)]; rfl
  · rw [load_agg ag85 sz85, hr 4 2 (by decide)]; rfl
  · rw [load_agg ag41 sz41, hr 6 41 (by decide)]
    show some (V.agg ((mc o.2.2.2.2.1 dv iv lv ++ [bv]).take 41)) = _
    rw [← hl, List.take_append_of_le_length (Nat.le_refl _), List.take_length]
  · rw [load_at ag38 h]
    show (mc o.2.2.2.2.1 dv iv lv ++ [bv])[41]? = _
    rw [List.getElem?_append_right (by omega), hl]; rfl
  · rw [load_at ag38 h]
    show (mc o.2.2.2.2.1 dv iv lv ++ [bv])[38]? = _
    rw [List.getElem?_append_left (by omega)]
    exact (mc_at hid).1
theorem newO {A : AS} {m : Hp} {o : OpP} {dv iv lv bv : V} (h : MsgIn m o.2.2.2.2.1 dv iv lv) (hb : bv.one = true) {z : List V} (hz : z.length = 48) : ∃ A', evStore Try.prog 96 (.ptr A.blk.length 0) (.agg (ocl o dv iv lv bv)) (A.push ⟨z, .var⟩) = some A' ∧ Fr S0 A A' ∧ A'.blk[A.blk.length]? = some ⟨ocl o dv iv lv bv, .var⟩ := by
  obtain ⟨A2, s1, s2, s3, s4⟩ := new_set (P := Try.prog) A (z := z) (t := 96) (x := .agg (ocl o dv iv lv bv)) (cs := ocl o dv iv lv bv) rfl (by rw [ocl_len h.id]; exact sz96) (by rw [ocl_len h.id, hz])
    (by simp only [ocl, List.all_cons, List.all_append, mc_one h, hb, List.all_nil]; rfl)
  exact ⟨A2, s1, s2, s3⟩
def opC (l : List PM) (o : OpP) : Int :=
  if o.1 = 0 then (if checkM o.2.2.2.2.1 = 0 then putC l else checkM o.2.2.2.2.1) else if o.1 = 1 then putC l else if o.1 = 2 then tkC l o.2.1 else if o.1 = 3 then twC l o.2.1 else 0
def opL (l : List PM) (o : OpP) : List PM :=
  if o.1 = 0 then (if checkM o.2.2.2.2.1 = 0 then putL l ⟨o.2.2.1.1, o.2.2.1.2, o.2.2.2.1.1, o.2.2.2.1.2, writeB o.2.2.2.2.1⟩ else l)
  else if o.1 = 1 then putL l ⟨o.2.2.1.1, o.2.2.1.2, o.2.2.2.1.1, o.2.2.2.1.2, o.2.2.2.2.2⟩ else if o.1 = 2 then tkL l o.2.1 else if o.1 = 3 then twL l o.2.1 else l
theorem putL_mem {l : List PM} {x y : PM} (h : y ∈ putL l x) : y ∈ l ∨ y = x := by
  unfold putL at h
  split at h
  · exact .inl h
  · simpa using h
theorem putL_len (l : List PM) (x : PM) : (putL l x).length ≤ l.length + 1 := by
  unfold putL; split <;> simp
theorem twL_mem {l : List PM} {i : Int} {y : PM} (h : y ∈ twL l i) : y ∈ l := by
  unfold twL at h
  split at h
  · exact h
  · rename_i x hx
    rcases putL_mem h with h | rfl
    · exact h
    · split at hx
      · simp at hx
      · exact List.mem_of_getElem? hx
theorem twL_len (l : List PM) (i : Int) : (twL l i).length ≤ l.length + 1 := by
  unfold twL
  split
  · omega
  · exact putL_len l _
theorem tkL_mem {l : List PM} {i : Int} {y : PM} (h : y ∈ tkL l i) : y ∈ l := by
  unfold tkL at h
  split at h
  · exact h
  · exact List.mem_of_mem_eraseIdx h
theorem tkL_len (l : List PM) (i : Int) : (tkL l i).length ≤ l.length + 1 := by
  unfold tkL
  split
  · omega
  · have := List.length_eraseIdx_le l i.toNat; omega
theorem opL_len (l : List PM) (o : OpP) : (opL l o).length ≤ l.length + 1 := by
  unfold opL
  split
  · split
    · exact putL_len _ _
    · omega
  split
  · exact putL_len _ _
  split
  · exact tkL_len _ _
  split
  · exact twL_len _ _
  · omega
theorem eqRM (x y : PM) : evEq Try.prog 100 (.agg (rcl x)) (.agg (rcl y)) = some (x.fc == y.fc && (x.tc == y.tc && (x.fn == y.fn && (x.tn == y.tn && (x.b == y.b && true))))) := by kernel_rfl
theorem eqRM1 (x : PM) : evEq Try.prog 100 (.agg (rcl x)) (.agg (rcl x)) = some true := by rw [eqRM]; simp
end Go.Sv.Try
namespace Go.Sv.Try
open Go Go.Proofs
set_option linter.unusedVariables false
set_option linter.unusedSimpArgs false
def NS (A : AS) : Loc → Prop := fun x => x.newTo A
theorem inFamO_new {S : Loc → Prop} {A B : AS} {fo : Option Nat} (hw : WF A) (hf : Fr S A B) (hfo : ∀ f, fo = some f → A.blk.length ≤ f) {z : Loc} (h : inFamO B fo z) : z.newTo A := by
  rcases inFamO_back hf h with q | q
  · cases fo with
    | none => exact q.elim
    | some g =>
      have := hfo g rfl
      cases z with
      | row b => obtain ⟨k, base, z1, z2⟩ := q; have := hw b k _ base z1 z2; omega
      | fam g' => show A.blk.length ≤ g'; rw [show g' = g from q]; exact this
      | map r => exact q.elim
      | loop r => exact q.elim
      | it r => exact q.elim
  · exact q
theorem postS_new {S : Loc → Prop} {A B : AS} {bp : Nat} {fo : Option Nat} (hw : WF A) (hf : Fr S A B) (hb : A.blk.length ≤ bp) (hfo : ∀ f, fo = some f → A.blk.length ≤ f) {z : Loc} (h : postS B bp fo z) : z.newTo A := by
  rcases h with h | h
  · subst h; exact hb
  · exact inFamO_new hw hf hfo h
theorem nsF {S : Loc → Prop} {A B C : AS} (h : Fr (NS A) A B) (k : Fr S B C) (hs : ∀ z, S z → z.newTo A) : Fr (NS A) A C := h.trans k fun z q => .inl (hs z q)
theorem nsF0 {A B C : AS} (h : Fr (NS A) A B) (k : Fr S0 B C) : Fr (NS A) A C := nsF h k fun _ q => q.elim
theorem nsOn {m : Hp} {A B : AS} (h : m.on A) (hf : Fr (NS A) A B) : m.on B := h.fr hf fun b q => h.fresh q
structure Mid (A B : AS) (bp : Nat) (fo fo2 : Option Nat) (l : List PM) (w : V) (wl : List Bts) : Prop where
  fr : Fr (NS A) A B
  hbp : A.blk.length ≤ bp
  po : PostIs (fun f => fo2 = some f) B bp fo l
  ls : Lst eStr Hp.emp B w wl fo2
  hfo : ∀ f, fo = some f → A.blk.length ≤ f
  hfo2 : ∀ f, fo2 = some f → A.blk.length ≤ f
  ne : ∀ f, fo = some f → fo2 ≠ some f
theorem Mid.fr0 {A B C : AS} {bp : Nat} {fo fo2 : Option Nat} {l : List PM} {w : V} {wl : List Bts} (h : Mid A B bp fo fo2 l w wl) (hf : Fr S0 B C) : Mid A C bp fo fo2 l w wl :=
  ⟨nsF0 h.fr hf, h.hbp, h.po.fr0 hf, h.ls.fr0 hf, h.hfo, h.hfo2, h.ne⟩
theorem Mid.tt {A B : AS} {bp : Nat} {fo fo2 : Option Nat} {l : List PM} {w : V} {wl : List Bts} (h : Mid A B bp fo fo2 l w wl) : ∀ f, fo2 = some f → f < B.blk.length := h.ls.famLt
theorem Mid.post {A B C : AS} {bp : Nat} {fo fo2 fo' : Option Nat} {l l' : List PM} {w : V} {wl : List Bts} (h : Mid A B bp fo fo2 l w wl) (hw : WF A) (hf : Fr (postS B bp fo) B C) (hg : Gr B fo fo') (hp : PostIs (fun f => fo2 = some f) C bp fo' l') : Mid A C bp fo' fo2 l' w wl := by
  obtain ⟨v, hb, _⟩ := h.po
  refine ⟨nsF h.fr hf fun z q => postS_new hw h.fr h.hbp h.hfo q, h.hbp, hp, h.ls.fr hf ((Off.box hb).or ?_), fun f q => ?_, h.hfo2, fun f q z => ?_⟩
  · cases fo with
    | none => exact fun _ q => q.elim
    | some g => exact Off.fam (h.ne g rfl)
  · rcases hg.or q with q | q
    · exact h.hfo f q
    · have := h.fr.len; omega
  · rcases hg.or q with q | q
    · exact h.ne f q z
    · have := h.tt f z; omega
set_option maxHeartbeats 4000000 in
theorem Mid.want {A B : AS} {bp : Nat} {fo fo2 : Option Nat} {l : List PM} {w : V} {wl : List Bts} (h : Mid A B bp fo fo2 l w wl) (hw : WF A) (s : Bts) (hl : wl.length ≤ 1000000) :
    ∃ v' C fo2', evAppend Try.prog 82 82 w (.sl B.blk.length 0 1 1) (B.push ⟨[.str s], .arr B.blk.length 0⟩) = some (v', C) ∧ Mid A C bp fo fo2' l v' (wl ++ [s]) := by
  have wB := h.fr.wf hw
  obtain ⟨v', C, fo', p1, p2, p3, p4⟩ := h.ls.push (P := Try.prog) (t := 82) (tx := 82) (n := 1) rfl sl82 Try.underlying82 wB (y := s) (cs' := [.str s]) rfl (by omega) (by omega)
  obtain ⟨v, hb, hl'⟩ := h.po
  refine ⟨v', C, fo', p1, nsF h.fr p3 fun z q => inFamO_new hw h.fr h.hfo2 q, h.hbp, ?_, p2, h.hfo, fun f q => ?_, fun f q z => ?_⟩
  · refine ⟨v, p3.row _ _ hb (inFamO_var hb), (hl'.fr p3 ?_).mono (qHp_fr p3 (.famO fun f q => .inr q) wB fun f q => ?_)⟩
    · cases fo2 with
      | none => exact fun _ q => q.elim
      | some g => exact Off.fam fun q => h.ne g q rfl
    · rcases q with q | q
      · exact .inl (.inl q)
      · exact (p4.or q).imp .inr id
  · rcases p4.or q with q | q
    · exact h.hfo2 f q
    · have := h.fr.len; omega
  · rcases p4.or z with z | z
    · exact h.ne f q z
    · have := h.po.famLt f q; omega
end Go.Sv.Try
namespace Go.Sv.Try
open Go Go.Proofs
set_option linter.unusedVariables false
set_option linter.unusedSimpArgs false
structure Mid2 (A B : AS) (bp : Nat) (fo : Option Nat) (l : List PM) (lv : V) : Prop where
  fr : Fr (NS A) A B
  hbp : A.blk.length ≤ bp
  po : PostIs F0 B bp fo l
  lst : Slc eRM (qHp (exF fo F0) B) lv l
  hfo : ∀ f, fo = some f → A.blk.length ≤ f
theorem Mid2.fr0 {A B C : AS} {bp : Nat} {fo : Option Nat} {l : List PM} {lv : V} (h : Mid2 A B bp fo l lv) (hf : Fr S0 B C) : Mid2 A C bp fo l lv :=
  ⟨nsF0 h.fr hf, h.hbp, h.po.fr0 hf, h.lst.mono (qHp_fr0 hf), h.hfo⟩
theorem Mid2.xlt {A B : AS} {bp : Nat} {fo : Option Nat} {l : List PM} {lv : V} (h : Mid2 A B bp fo l lv) : ∀ f, exF fo F0 f → f < B.blk.length := fun f q => q.elim (fun q => h.po.famLt f q) (fun q => q.elim)
theorem Mid2.both {A B C D : AS} {bp : Nat} {fo fo' : Option Nat} {l l' : List PM} {lv lv' : V} (h : Mid2 A B bp fo l lv) (hw : WF A) (hf : Fr S0 B C) (hl : Slc eRM (qHp (exF fo F0) C) lv' l') (hf' : Fr (postS C bp fo) C D) (hg : Gr C fo fo') (hp : PostIs F0 D bp fo' l') : Mid2 A D bp fo' l' lv' := by
  have h1 := h.fr0 hf
  obtain ⟨w, hb, _⟩ := h1.po
  refine ⟨nsF h1.fr hf' fun z q => postS_new hw h1.fr h1.hbp h1.hfo q, h.hbp, hp, hl.mono (qHp_fr hf' (postS_tch hb) (h1.fr.wf hw) fun f q => ?_), fun f q => ?_⟩
  · exact q.elim (fun q => (hg.or q).imp .inl id) fun q => q.elim
  · rcases hg.or q with q | q
    · exact h.hfo f q
    · have := h1.fr.len; omega
set_option maxRecDepth 10000 in
set_option maxHeartbeats 16000000 in
theorem postPlays_spec {m : Hp} {A : AS} {v : V} {script : List OpP} (hw : WF A) (hm : m.on A) (h : Slc eOp m v script) (hz : ∀ o ∈ script, Sized o.2.2.2.2.1) : ∃ w A', EvF Try.prog HH 14 [v] A w A' ∧ w = .bool true := by
  refine run_fn2 rfl Try.func14 (by unfold Try.f14; rfl) Try.ntmps14 (by unfold Try.f14; rfl) (by simp) ?_
  simp only [RS, xs_some, Option.bind_some, Option.map_some, if_true, if_false, decide_true, decide_false, true_and, and_true, Bool.not_true, Bool.not_false, Bool.false_eq_true, not_false_eq_true, not_true_eq_false, Nat.reduceLT, Nat.reduceBEq, Nat.reduceEqDiff, Nat.reduceAdd, Int.reduceEq, Int.reduceLT, Int.reduceLE, Int.reduceGT, Int.reduceGE, beq_self_eq_true, List.getElem?_toArray, List.getElem?_cons_zero, List.getElem?_cons_succ, List.append_nil, List.nil_append, List.cons_append, List.append_eq]
  refine run_call1 (evF_ground rfl) ?_
  have hlen := fun B => h.len (P := Try.prog) Try.underlying93 B
  simp only [RS, xs_some, Option.bind_some, Option.map_some, if_true, if_false, decide_true, decide_false, true_and, and_true, Bool.not_true, Bool.not_false, Bool.false_eq_true, not_false_eq_true, not_true_eq_false, Nat.reduceLT, Nat.reduceBEq, Nat.reduceEqDiff, Nat.reduceAdd, Int.reduceEq, Int.reduceLT, Int.reduceLE, Int.reduceGT, Int.reduceGE, beq_self_eq_true, List.getElem?_toArray, List.getElem?_cons_zero, List.getElem?_cons_succ, List.append_nil, List.nil_append, List.cons_append, List.append_eq, hlen]
  refine condK_of (fun g => ?_) (fun g => ?_)
  · simp only [RS, xs_some, Option.bind_some, Option.map_some, if_true, if_false, decide_true, decide_false, true_and, and_true, Bool.not_true, Bool.not_false, Bool.false_eq_true, not_false_eq_true, not_true_eq_false, Nat.reduceLT, Nat.reduceBEq, Nat.reduceEqDiff, Nat.reduceAdd, Int.reduceEq, Int.reduceLT, Int.reduceLE, Int.reduceGT, Int.reduceGE, beq_self_eq_true, List.getElem?_toArray, List.getElem?_cons_zero, List.getElem?_cons_succ, List.append_nil, List.nil_append, List.cons_append, List.append_eq]
  simp only [RS, xs_some, Option.bind_some, Option.map_some, if_true, if_false, decide_true, decide_false, true_and, and_true, Bool.not_true, Bool.not_false, Bool.false_eq_true, not_false_eq_true, not_true_eq_false, Nat.reduceLT, Nat.reduceBEq, Nat.reduceEqDiff, Nat.reduceAdd, Int.reduceEq, Int.reduceLT, Int.reduceLE, Int.reduceGT, Int.reduceGE, beq_self_eq_true, List.getElem?_toArray, List.getElem?_cons_zero, List.getElem?_cons_succ, List.append_nil, List.nil_append, List.cons_append, List.append_eq, zc81, hlen]
  obtain ⟨A1, e1, f1, r1, n1⟩ := new_var A [.snil]
  rw [← e1]
  obtain ⟨bp, hbp⟩ : ∃ b, b = A.blk.length := ⟨_, rfl⟩
  rw [← hbp] at r1 ⊢
  have M0 : Mid2 A A1 bp none [] .snil := ⟨f1.mono fun _ q => q.elim, by omega, ⟨.snil, r1, .nil⟩, .inl ⟨rfl, rfl⟩, (fun _ q => by cases q)⟩
  refine run_loop_j (fun n e B => e.get 3 = .ptr bp 0 ∧ e.get 22 = v ∧ e.get 23 = .int .i64 script.length ∧ ∃ (i : Nat) (lv : V) (fo : Option Nat) (l : List PM), n = script.length - i ∧ i ≤ script.length ∧ e.get 24 = .int .i64 i ∧ e.get 4 = lv ∧ Mid2 A B bp fo l lv ∧ l.length ≤ i ∧ ∀ x ∈ l, x.b.length ≤ 1800091)
    (fun z e B => Is z (.exit 0))
    ⟨_, rfl, rfl, rfl, 0, .snil, none, [], rfl, by omega, rfl, rfl, M0, by simp, by simp⟩ ?_ ?_
  rotate_left
  · rintro z e B hz rfl
    simp only [RS, xs_some, Option.bind_some, Option.map_some, if_true, if_false, decide_true, decide_false, true_and, and_true, Bool.not_true, Bool.not_false, Bool.false_eq_true, not_false_eq_true, not_true_eq_false, Nat.reduceLT, Nat.reduceBEq, Nat.reduceEqDiff, Nat.reduceAdd, Int.reduceEq, Int.reduceLT, Int.reduceLE, Int.reduceGT, Int.reduceGE, beq_self_eq_true, List.getElem?_toArray, List.getElem?_cons_zero, List.getElem?_cons_succ, List.append_nil, List.nil_append, List.cons_append, List.append_eq]
  rintro n e B ⟨h3, h22, h23, i, lv, fo, l, rfl, hi, h24, h4, hM, hli, hlb⟩
  simp only [RS, xs_some, Option.bind_some, Option.map_some, if_true, if_false, decide_true, decide_false, true_and, and_true, Bool.not_true, Bool.not_false, Bool.false_eq_true, not_false_eq_true, not_true_eq_false, Nat.reduceLT, Nat.reduceBEq, Nat.reduceEqDiff, Nat.reduceAdd, Int.reduceEq, Int.reduceLT, Int.reduceLE, Int.reduceGT, Int.reduceGE, beq_self_eq_true, List.getElem?_toArray, List.getElem?_cons_zero, List.getElem?_cons_succ, List.append_nil, List.nil_append, List.cons_append, List.append_eq, h23, h24]
  refine condK_of (fun g => ?_) (fun g => ?_)
  rotate_left
  · simp only [RS, xs_some, Option.bind_some, Option.map_some, if_true, if_false, decide_true, decide_false, true_and, and_true, Bool.not_true, Bool.not_false, Bool.false_eq_true, not_false_eq_true, not_true_eq_false, Nat.reduceLT, Nat.reduceBEq, Nat.reduceEqDiff, Nat.reduceAdd, Int.reduceEq, Int.reduceLT, Int.reduceLE, Int.reduceGT, Int.reduceGE, beq_self_eq_true, List.getElem?_toArray, List.getElem?_cons_zero, List.getElem?_cons_succ, List.append_nil, List.nil_append, List.cons_append, List.append_eq]
    rfl
  obtain ⟨o, hx⟩ := get_lt (l := script) (i := i) (by omega)
  obtain ⟨b, of, c, g3, g4, g5⟩ := h.at (P := Try.prog) (k := .i64) (nsOn hm hM.fr) Try.underlying93 sz96 ag96 hx
  obtain ⟨cs, rfl, g6⟩ := (agg_W rfl).1 g5
  obtain ⟨dv, iv, mv, bv, rfl, hmsg, hbv⟩ := eOp_R g6
  have hsz := hz o (List.mem_of_getElem? hx)
  obtain ⟨z0, hz0⟩ : ∃ z, (zeroT Try.prog 96).bind V.cells = some z := ⟨_, zc96⟩
  have hz1 : z0.length = 48 := by rw [zc96] at hz0; cases hz0; rfl
  obtain ⟨B1, s1, s2, s3⟩ := newO (A := B) (o := o) hmsg hbv.one hz1
  have hM1 := hM.fr0 s2
  have fO := faO B.blk.length
  have ldo := ldO s3 hmsg.id
  have hl1 := fun B => hbv.len (P := Try.prog) Try.underlying38 B
  have hl2 := fun B => hmsg.data.len (P := Try.prog) Try.underlying38 B
  simp only [RS, xs_some, Option.bind_some, Option.map_some, if_true, if_false, decide_true, decide_false, true_and, and_true, Bool.not_true, Bool.not_false, Bool.false_eq_true, not_false_eq_true, not_true_eq_false, Nat.reduceLT, Nat.reduceBEq, Nat.reduceEqDiff, Nat.reduceAdd, Int.reduceEq, Int.reduceLT, Int.reduceLE, Int.reduceGT, Int.reduceGE, beq_self_eq_true, List.getElem?_toArray, List.getElem?_cons_zero, List.getElem?_cons_succ, List.append_nil, List.nil_append, List.cons_append, List.append_eq, h22, h24, g3, g4, hz0, s1, fO, ldo, hl1]
  refine contG_cut2 (fun z e C => C = B1 ∧ e.get 3 = .ptr bp 0 ∧ e.get 22 = v ∧ e.get 23 = .int .i64 script.length ∧ e.get 24 = .int .i64 i ∧ e.get 4 = lv ∧ e.get 6 = .ptr B.blk.length 0 ∧ ((Is z .normal ∧ o.2.2.2.2.2.length ≤ 500 ∧ o.2.2.2.2.1.data.length ≤ 500) ∨ Is z (.exit 1))) ?_ ?_
  · refine contG_of (fun q => ?_) (fun q => ?_)
    · simp only [RS, xs_some, Option.bind_some, Option.map_some, if_true, if_false, decide_true, decide_false, true_and, and_true, Bool.not_true, Bool.not_false, Bool.false_eq_true, not_false_eq_true, not_true_eq_false, Nat.reduceLT, Nat.reduceBEq, Nat.reduceEqDiff, Nat.reduceAdd, Int.reduceEq, Int.reduceLT, Int.reduceLE, Int.reduceGT, Int.reduceGE, beq_self_eq_true, List.getElem?_toArray, List.getElem?_cons_zero, List.getElem?_cons_succ, List.append_nil, List.nil_append, List.cons_append, List.append_eq, q]
      exact ⟨h3, h22, h23, h24, h4, .inr rfl⟩
    · simp only [RS, xs_some, Option.bind_some, Option.map_some, if_true, if_false, decide_true, decide_false, true_and, and_true, Bool.not_true, Bool.not_false, Bool.false_eq_true, not_false_eq_true, not_true_eq_false, Nat.reduceLT, Nat.reduceBEq, Nat.reduceEqDiff, Nat.reduceAdd, Int.reduceEq, Int.reduceLT, Int.reduceLE, Int.reduceGT, Int.reduceGE, beq_self_eq_true, List.getElem?_toArray, List.getElem?_cons_zero, List.getElem?_cons_succ, List.append_nil, List.nil_append, List.cons_append, List.append_eq, q, fO, ldo, hl2]
      refine condK_of (fun q2 => ?_) (fun q2 => ?_)
      · simp only [RS, xs_some, Option.bind_some, Option.map_some, if_true, if_false, decide_true, decide_false, true_and, and_true, Bool.not_true, Bool.not_false, Bool.false_eq_true, not_false_eq_true, not_true_eq_false, Nat.reduceLT, Nat.reduceBEq, Nat.reduceEqDiff, Nat.reduceAdd, Int.reduceEq, Int.reduceLT, Int.reduceLE, Int.reduceGT, Int.reduceGE, beq_self_eq_true, List.getElem?_toArray, List.getElem?_cons_zero, List.getElem?_cons_succ, List.append_nil, List.nil_append, List.cons_append, List.append_eq]
        exact ⟨h3, h22, h23, h24, h4, .inr rfl⟩
      · simp only [RS, xs_some, Option.bind_some, Option.map_some, if_true, if_false, decide_true, decide_false, true_and, and_true, Bool.not_true, Bool.not_false, Bool.false_eq_true, not_false_eq_true, not_true_eq_false, Nat.reduceLT, Nat.reduceBEq, Nat.reduceEqDiff, Nat.reduceAdd, Int.reduceEq, Int.reduceLT, Int.reduceLE, Int.reduceGT, Int.reduceGE, beq_self_eq_true, List.getElem?_toArray, List.getElem?_cons_zero, List.getElem?_cons_succ, List.append_nil, List.nil_append, List.cons_append, List.append_eq]
        exact ⟨h3, h22, h23, h24, h4, .inl ⟨rfl, by omega, by omega⟩⟩
  clear h3 h22 h23 h24 h4
  rintro z e C ⟨hC, h3, h22, h23, h24, h4, h6, ⟨rfl, hb1, hb2⟩ | rfl⟩ <;> obtain rfl : B1 = C := hC.symm
  rotate_left
  · simp only [RS, xs_some, Option.bind_some, Option.map_some, if_true, if_false, decide_true, decide_false, true_and, and_true, Bool.not_true, Bool.not_false, Bool.false_eq_true, not_false_eq_true, not_true_eq_false, Nat.reduceLT, Nat.reduceBEq, Nat.reduceEqDiff, Nat.reduceAdd, Int.reduceEq, Int.reduceLT, Int.reduceLE, Int.reduceGT, Int.reduceGE, beq_self_eq_true, List.getElem?_toArray, List.getElem?_cons_zero, List.getElem?_cons_succ, List.append_nil, List.nil_append, List.cons_append, List.append_eq, h24]
    exact ⟨script.length - (i + 1), by omega, h3, h22, h23, i + 1, lv, fo, l, rfl, by omega, by rw [wrapS (by omega)], h4, hM1, by omega, hlb⟩
  simp only [RS, xs_some, Option.bind_some, Option.map_some, if_true, if_false, decide_true, decide_false, true_and, and_true, Bool.not_true, Bool.not_false, Bool.false_eq_true, not_false_eq_true, not_true_eq_false, Nat.reduceLT, Nat.reduceBEq, Nat.reduceEqDiff, Nat.reduceAdd, Int.reduceEq, Int.reduceLT, Int.reduceLE, Int.reduceGT, Int.reduceGE, beq_self_eq_true, List.getElem?_toArray, List.getElem?_cons_zero, List.getElem?_cons_succ, List.append_nil, List.nil_append, List.cons_append, List.append_eq, h6, fO, ldo]
  refine condK_cut (fun z e D => Is z .normal ∧ e.get 3 = .ptr bp 0 ∧ e.get 22 = v ∧ e.get 23 = .int .i64 script.length ∧ e.get 24 = .int .i64 i ∧ e.get 7 = .int .i64 (opC l o) ∧ e.get 8 = .int .i64 (opC l o) ∧ ∃ lv' fo', e.get 4 = lv' ∧ Mid2 A D bp fo' (opL l o) lv' ∧ ∀ x ∈ opL l o, x.b.length ≤ 1800091) ?_ ?_
  · have wB1 := hM1.fr.wf hw
    have mB1 := nsOn hm hM1.fr
    have hbO : ∀ x ∈ opL l o, x.b.length ≤ 1800091 := by
      intro x hx
      unfold opL at hx
      split at hx
      · split at hx
        · rename_i q _ q2
          rcases putL_mem hx with hx | rfl
          · exact hlb x hx
          · exact writeB_len hmsg (okM_of q2)
        · exact hlb x hx
      split at hx
      · rcases putL_mem hx with hx | rfl
        · exact hlb x hx
        · show o.2.2.2.2.2.length ≤ _; omega
      split at hx
      · exact hlb x (tkL_mem hx)
      split at hx
      · exact hlb x (twL_mem hx)
      · exact hlb x hx
    have hl100 : l.length ≤ 1000000 := by omega
    by_cases q0 : o.1 = 0
    · have e0 : decide (o.1 = 0) = true := decide_eq_true q0
      obtain ⟨x, hxe⟩ : ∃ x : PM, x = ⟨o.2.2.1.1, o.2.2.1.2, o.2.2.2.1.1, o.2.2.2.1.2, writeB o.2.2.2.2.1⟩ := ⟨_, rfl⟩
      have eL : opL l o = (if checkM o.2.2.2.2.1 = 0 then putL l x else l) ∧ opC l o = (if checkM o.2.2.2.2.1 = 0 then putC l else checkM o.2.2.2.2.1) := by unfold opL opC; rw [if_pos q0, if_pos q0, hxe]; exact ⟨rfl, rfl⟩
      simp only [RS, xs_some, Option.bind_some, Option.map_some, if_true, if_false, decide_true, decide_false, true_and, and_true, Bool.not_true, Bool.not_false, Bool.false_eq_true, not_false_eq_true, not_true_eq_false, Nat.reduceLT, Nat.reduceBEq, Nat.reduceEqDiff, Nat.reduceAdd, Int.reduceEq, Int.reduceLT, Int.reduceLE, Int.reduceGT, Int.reduceGE, beq_self_eq_true, List.getElem?_toArray, List.getElem?_cons_zero, List.getElem?_cons_succ, List.append_nil, List.nil_append, List.cons_append, List.append_eq, e0, h6, fO, ldo]
      obtain ⟨_, C, k1, k2, rfl⟩ := refWrite_spec wB1 mB1 hmsg hsz
      refine run_call1 k1 ?_
      simp only [RS, xs_some, Option.bind_some, Option.map_some, if_true, if_false, decide_true, decide_false, true_and, and_true, Bool.not_true, Bool.not_false, Bool.false_eq_true, not_false_eq_true, not_true_eq_false, Nat.reduceLT, Nat.reduceBEq, Nat.reduceEqDiff, Nat.reduceAdd, Int.reduceEq, Int.reduceLT, Int.reduceLE, Int.reduceGT, Int.reduceGE, beq_self_eq_true, List.getElem?_toArray, List.getElem?_cons_zero, List.getElem?_cons_succ, List.append_nil, List.nil_append, List.cons_append, List.append_eq]
      refine condK_cut (fun z e D => Is z .normal ∧ e.get 3 = .ptr bp 0 ∧ e.get 22 = v ∧ e.get 23 = .int .i64 script.length ∧ e.get 24 = .int .i64 i ∧ e.get 6 = .ptr B.blk.length 0 ∧ e.get 8 = .int .i64 (opC l o) ∧ Fr S0 B1 D ∧ ∃ lv', e.get 4 = lv' ∧ Slc eRM (qHp (exF fo F0) D) lv' (opL l o)) ?_ ?_
      · by_cases qc : checkM o.2.2.2.2.1 = 0
        · rw [if_pos qc, if_pos qc] at eL
          have ldo2 := ldO (k2.row0 s3) hmsg.id
          have hcv := cnv_bytes (P := Try.prog) (A := C) (l := writeB o.2.2.2.2.1) (s := 9) (d := 38) (by decide) Try.underlying9 Try.underlying38 Try.underlying5
          have eqc : decide (checkM o.2.2.2.2.1 = 0) = true := decide_eq_true qc
          obtain ⟨D, hD⟩ : ∃ D, D = C.push ⟨(writeB o.2.2.2.2.1).map fun u => .int .u8 u.toNat, .arr C.blk.length 0⟩ := ⟨_, rfl⟩
          have fD : Fr S0 C D := by rw [hD]; exact Fr.pushArr C _
          have rD : D.blk[C.blk.length]? = some ⟨bc (writeB o.2.2.2.2.1), .arr C.blk.length 0⟩ := by rw [hD]; exact push_row C _
          have bld : evBuild Try.prog 87 [(0, .agg [.bool o.2.2.1.1, .int .i64 o.2.2.1.2]), (1, .agg [.bool o.2.2.2.1.1, .int .i64 o.2.2.2.1.2]), (2, .sl C.blk.length 0 (writeB o.2.2.2.2.1).length 1)] = some (.agg (mcl x (.sl C.blk.length 0 (writeB o.2.2.2.2.1).length 1))) := by rw [hxe]; exact bldMlS _ _ _ _ _ _ _ _
          rw [if_pos qc]
          simp only [RS, xs_some, Option.bind_some, Option.map_some, if_true, if_false, decide_true, decide_false, true_and, and_true, Bool.not_true, Bool.not_false, Bool.false_eq_true, not_false_eq_true, not_true_eq_false, Nat.reduceLT, Nat.reduceBEq, Nat.reduceEqDiff, Nat.reduceAdd, Int.reduceEq, Int.reduceLT, Int.reduceLE, Int.reduceGT, Int.reduceGE, beq_self_eq_true, List.getElem?_toArray, List.getElem?_cons_zero, List.getElem?_cons_succ, List.append_nil, List.nil_append, List.cons_append, List.append_eq, eqc, h4, h6, fO, ldo2, hcv]
          rw [← hD]
          have ldo3 := ldO ((k2.then0 fD).row0 s3) hmsg.id
          have hvx : Slc eU8 (arrHp D) (.sl C.blk.length 0 (writeB o.2.2.2.2.1).length 1) x.b := by
            rw [hxe]
            exact (row_slcQ (X := F0) (l := writeB o.2.2.2.2.1) rD (fun q => q)).mono (qHp_arr _ _)
          simp only [RS, xs_some, Option.bind_some, Option.map_some, if_true, if_false, decide_true, decide_false, true_and, and_true, Bool.not_true, Bool.not_false, Bool.false_eq_true, not_false_eq_true, not_true_eq_false, Nat.reduceLT, Nat.reduceBEq, Nat.reduceEqDiff, Nat.reduceAdd, Int.reduceEq, Int.reduceLT, Int.reduceLE, Int.reduceGT, Int.reduceGE, beq_self_eq_true, List.getElem?_toArray, List.getElem?_cons_zero, List.getElem?_cons_succ, List.append_nil, List.nil_append, List.cons_append, List.append_eq, bld]
          obtain ⟨_, E, u1, rfl, u2⟩ := plain_spec (arrHp_on D) hvx
          refine run_call1 u1 ?_
          have f3 := (k2.then0 fD).then0 u2
          have hM3 := hM1.fr0 f3
          obtain ⟨_, G, i1, i2, lv', rfl, i3⟩ := refPutM_spec (x := x) (hM3.fr.wf hw) hM3.xlt hM3.lst
          simp only [RS, xs_some, Option.bind_some, Option.map_some, if_true, if_false, decide_true, decide_false, true_and, and_true, Bool.not_true, Bool.not_false, Bool.false_eq_true, not_false_eq_true, not_true_eq_false, Nat.reduceLT, Nat.reduceBEq, Nat.reduceEqDiff, Nat.reduceAdd, Int.reduceEq, Int.reduceLT, Int.reduceLE, Int.reduceGT, Int.reduceGE, beq_self_eq_true, List.getElem?_toArray, List.getElem?_cons_zero, List.getElem?_cons_succ, List.append_nil, List.nil_append, List.cons_append, List.append_eq]
          refine run_call1 i1 ?_
          simp only [RS, xs_some, Option.bind_some, Option.map_some, if_true, if_false, decide_true, decide_false, true_and, and_true, Bool.not_true, Bool.not_false, Bool.false_eq_true, not_false_eq_true, not_true_eq_false, Nat.reduceLT, Nat.reduceBEq, Nat.reduceEqDiff, Nat.reduceAdd, Int.reduceEq, Int.reduceLT, Int.reduceLE, Int.reduceGT, Int.reduceGE, beq_self_eq_true, List.getElem?_toArray, List.getElem?_cons_zero, List.getElem?_cons_succ, List.append_nil, List.nil_append, List.cons_append, List.append_eq]
          rw [eL.2, eL.1]
          exact ⟨rfl, h3, h22, h23, h24, h6, rfl, f3.then0 i2, lv', rfl, i3⟩
        · rw [if_neg qc, if_neg qc] at eL
          have eqc : decide (checkM o.2.2.2.2.1 = 0) = false := decide_eq_false qc
          simp only [RS, xs_some, Option.bind_some, Option.map_some, if_true, if_false, decide_true, decide_false, true_and, and_true, Bool.not_true, Bool.not_false, Bool.false_eq_true, not_false_eq_true, not_true_eq_false, Nat.reduceLT, Nat.reduceBEq, Nat.reduceEqDiff, Nat.reduceAdd, Int.reduceEq, Int.reduceLT, Int.reduceLE, Int.reduceGT, Int.reduceGE, beq_self_eq_true, List.getElem?_toArray, List.getElem?_cons_zero, List.getElem?_cons_succ, List.append_nil, List.nil_append, List.cons_append, List.append_eq, eqc]
          rw [eL.2, eL.1]
          exact ⟨rfl, h3, h22, h23, h24, h6, rfl, k2, lv, h4, (hM1.fr0 k2).lst⟩
      · clear h3 h22 h23 h24 h4 h6
        rintro z e D ⟨rfl, h3, h22, h23, h24, h6, h8, fD, lv', h4, hlv⟩
        have ldo2 := ldO (fD.row0 s3) hmsg.id
        have hM3 := hM1.fr0 fD
        obtain ⟨_, G, i1, rfl, i2, fo', i3, i4⟩ := send_spec (X := F0) (a := o.2.2.1.1) (c := o.2.2.1.2) (b := o.2.2.2.1.1) (d := o.2.2.2.1.2) (hM3.fr.wf hw) (fun f q => q.elim) hM3.po (mB1.fr0 fD) hmsg hsz
        rw [← eL.2] at i1
        rw [← hxe, ← eL.1] at i4
        simp only [RS, xs_some, Option.bind_some, Option.map_some, if_true, if_false, decide_true, decide_false, true_and, and_true, Bool.not_true, Bool.not_false, Bool.false_eq_true, not_false_eq_true, not_true_eq_false, Nat.reduceLT, Nat.reduceBEq, Nat.reduceEqDiff, Nat.reduceAdd, Int.reduceEq, Int.reduceLT, Int.reduceLE, Int.reduceGT, Int.reduceGE, beq_self_eq_true, List.getElem?_toArray, List.getElem?_cons_zero, List.getElem?_cons_succ, List.append_nil, List.nil_append, List.cons_append, List.append_eq, h6, fO, ldo2, h3]
        refine run_call1 i1 ?_
        simp only [RS, xs_some, Option.bind_some, Option.map_some, if_true, if_false, decide_true, decide_false, true_and, and_true, Bool.not_true, Bool.not_false, Bool.false_eq_true, not_false_eq_true, not_true_eq_false, Nat.reduceLT, Nat.reduceBEq, Nat.reduceEqDiff, Nat.reduceAdd, Int.reduceEq, Int.reduceLT, Int.reduceLE, Int.reduceGT, Int.reduceGE, beq_self_eq_true, List.getElem?_toArray, List.getElem?_cons_zero, List.getElem?_cons_succ, List.append_nil, List.nil_append, List.cons_append, List.append_eq]
        exact ⟨rfl, h3, h22, h23, h24, h8, lv', fo', h4, hM1.both hw fD hlv i2 i3 i4, hbO⟩
    have e0 : decide (o.1 = 0) = false := decide_eq_false q0
    by_cases q1 : o.1 = 1
    · have e1 : decide (o.1 = 1) = true := decide_eq_true q1
      have eL : opL l o = putL l ⟨o.2.2.1.1, o.2.2.1.2, o.2.2.2.1.1, o.2.2.2.1.2, o.2.2.2.2.2⟩ ∧ opC l o = putC l := by unfold opL opC; rw [if_neg q0, if_pos q1, if_neg q0, if_pos q1]; exact ⟨rfl, rfl⟩
      obtain ⟨x, hxe⟩ : ∃ x : PM, x = ⟨o.2.2.1.1, o.2.2.1.2, o.2.2.2.1.1, o.2.2.2.1.2, o.2.2.2.2.2⟩ := ⟨_, rfl⟩
      rw [← hxe] at eL
      have bld : evBuild Try.prog 87 [(0, .agg [.bool o.2.2.1.1, .int .i64 o.2.2.1.2]), (1, .agg [.bool o.2.2.2.1.1, .int .i64 o.2.2.2.1.2]), (2, bv)] = some (.agg (mcl x bv)) := by rw [hxe]; exact bldMl hbv.form _ _ _ _
      obtain ⟨C, t1, t2, t3⟩ := newMl (A := B1) (x := x) hbv.one
      have t1 : evStore Try.prog 87 (.ptr B1.blk.length 0) (.agg (mcl x bv)) (B1.push ⟨[.bool false, .int .i64 0, .bool false, .int .i64 0, .snil], .var⟩) = some C := t1
      have ldx := (ldMl t3).2.2.2.2.2
      have hxb : x.b = o.2.2.2.2.2 := by rw [hxe]
      have hbv' : Slc eU8 m bv x.b := by rw [hxb]; exact hbv
      simp only [RS, xs_some, Option.bind_some, Option.map_some, if_true, if_false, decide_true, decide_false, true_and, and_true, Bool.not_true, Bool.not_false, Bool.false_eq_true, not_false_eq_true, not_true_eq_false, Nat.reduceLT, Nat.reduceBEq, Nat.reduceEqDiff, Nat.reduceAdd, Int.reduceEq, Int.reduceLT, Int.reduceLE, Int.reduceGT, Int.reduceGE, beq_self_eq_true, List.getElem?_toArray, List.getElem?_cons_zero, List.getElem?_cons_succ, List.append_nil, List.nil_append, List.cons_append, List.append_eq, e0, e1, h6, fO, ldo, bld, zc87, t1, ldx, h4]
      obtain ⟨_, D, k1, rfl, k2⟩ := plain_spec (mB1.fr0 t2) hbv'
      refine run_call1 k1 ?_
      have f2 := t2.then0 k2
      have hM3 := hM1.fr0 f2
      obtain ⟨_, E, u1, u2, lv', rfl, u3⟩ := refPutM_spec (x := x) (hM3.fr.wf hw) hM3.xlt hM3.lst
      simp only [RS, xs_some, Option.bind_some, Option.map_some, if_true, if_false, decide_true, decide_false, true_and, and_true, Bool.not_true, Bool.not_false, Bool.false_eq_true, not_false_eq_true, not_true_eq_false, Nat.reduceLT, Nat.reduceBEq, Nat.reduceEqDiff, Nat.reduceAdd, Int.reduceEq, Int.reduceLT, Int.reduceLE, Int.reduceGT, Int.reduceGE, beq_self_eq_true, List.getElem?_toArray, List.getElem?_cons_zero, List.getElem?_cons_succ, List.append_nil, List.nil_append, List.cons_append, List.append_eq]
      refine run_call1 u1 ?_
      have f3 := f2.then0 u2
      have ldx2 := (ldMl ((k2.then0 u2).row0 t3)).2.2.2.2.2
      have hM4 := hM3.fr0 u2
      obtain ⟨_, G, i1, rfl, i2, fo', i3, i4⟩ := put_spec (X := F0) (x := x) (hM4.fr.wf hw) (fun f q => q.elim) hM4.po (mB1.fr0 f3) hbv' (by rw [hxb]; omega)
      simp only [RS, xs_some, Option.bind_some, Option.map_some, if_true, if_false, decide_true, decide_false, true_and, and_true, Bool.not_true, Bool.not_false, Bool.false_eq_true, not_false_eq_true, not_true_eq_false, Nat.reduceLT, Nat.reduceBEq, Nat.reduceEqDiff, Nat.reduceAdd, Int.reduceEq, Int.reduceLT, Int.reduceLE, Int.reduceGT, Int.reduceGE, beq_self_eq_true, List.getElem?_toArray, List.getElem?_cons_zero, List.getElem?_cons_succ, List.append_nil, List.nil_append, List.cons_append, List.append_eq, ldx2, h3]
      refine run_call1 i1 ?_
      simp only [RS, xs_some, Option.bind_some, Option.map_some, if_true, if_false, decide_true, decide_false, true_and, and_true, Bool.not_true, Bool.not_false, Bool.false_eq_true, not_false_eq_true, not_true_eq_false, Nat.reduceLT, Nat.reduceBEq, Nat.reduceEqDiff, Nat.reduceAdd, Int.reduceEq, Int.reduceLT, Int.reduceLE, Int.reduceGT, Int.reduceGE, beq_self_eq_true, List.getElem?_toArray, List.getElem?_cons_zero, List.getElem?_cons_succ, List.append_nil, List.nil_append, List.cons_append, List.append_eq]
      rw [eL.2]
      refine ⟨rfl, h3, h22, h23, h24, rfl, rfl, lv', fo', rfl, ?_, hbO⟩
      rw [eL.1]
      exact hM3.both hw u2 u3 i2 i3 i4
    have e1 : decide (o.1 = 1) = false := decide_eq_false q1
    by_cases q2 : o.1 = 2
    · have e2 : decide (o.1 = 2) = true := decide_eq_true q2
      have eL : opL l o = tkL l o.2.1 ∧ opC l o = tkC l o.2.1 := by unfold opL opC; rw [if_neg q0, if_neg q1, if_pos q2, if_neg q0, if_neg q1, if_pos q2]; exact ⟨rfl, rfl⟩
      simp only [RS, xs_some, Option.bind_some, Option.map_some, if_true, if_false, decide_true, decide_false, true_and, and_true, Bool.not_true, Bool.not_false, Bool.false_eq_true, not_false_eq_true, not_true_eq_false, Nat.reduceLT, Nat.reduceBEq, Nat.reduceEqDiff, Nat.reduceAdd, Int.reduceEq, Int.reduceLT, Int.reduceLE, Int.reduceGT, Int.reduceGE, beq_self_eq_true, List.getElem?_toArray, List.getElem?_cons_zero, List.getElem?_cons_succ, List.append_nil, List.nil_append, List.cons_append, List.append_eq, e0, e1, e2, zc100, h4, h6]
      obtain ⟨C, t1, t2, t3, t4⟩ := new_var B1 (rcl pm0)
      have t1 : C = B1.push ⟨[.bool false, .bool false, .int .i64 0, .int .i64 0, .str []], .var⟩ := t1
      rw [← t1]
      have ldo2 := ldO (t2.row0 s3) hmsg.id
      simp only [RS, xs_some, Option.bind_some, Option.map_some, if_true, if_false, decide_true, decide_false, true_and, and_true, Bool.not_true, Bool.not_false, Bool.false_eq_true, not_false_eq_true, not_true_eq_false, Nat.reduceLT, Nat.reduceBEq, Nat.reduceEqDiff, Nat.reduceAdd, Int.reduceEq, Int.reduceLT, Int.reduceLE, Int.reduceGT, Int.reduceGE, beq_self_eq_true, List.getElem?_toArray, List.getElem?_cons_zero, List.getElem?_cons_succ, List.append_nil, List.nil_append, List.cons_append, List.append_eq, fO, ldo2]
      have hM3 := hM1.fr0 t2
      obtain ⟨_, E, u1, u2, lv', rfl, u3⟩ := refTkM_spec (i := o.2.1) (hM3.fr.wf hw) hM3.xlt hM3.lst hl100
      refine run_call1 u1 ?_
      obtain ⟨G, j1, j2, j3⟩ := setRM (y := tkM l o.2.1) (u2.row0 t3)
      have f3 : Fr S0 B1 G := (t2.then0 u2).row_ j2 (Nat.le_refl _)
      have hlv3 : Slc eRM (qHp (exF fo F0) G) lv' (tkL l o.2.1) := u3.mono (qHp_fr j2 (.box (u2.row0 t3)) ((t2.then0 u2).wf wB1) fun f q => .inl q)
      have ldo3 := ldO (f3.row0 s3) hmsg.id
      obtain ⟨K, y1, y2, y3, y4⟩ := new_var G (mcl pm0 .snil)
      have y1 : K = G.push ⟨[.bool false, .int .i64 0, .bool false, .int .i64 0, .snil], .var⟩ := y1
      have ldo4 := ldO (y2.row0 (f3.row0 s3)) hmsg.id
      simp only [RS, xs_some, Option.bind_some, Option.map_some, if_true, if_false, decide_true, decide_false, true_and, and_true, Bool.not_true, Bool.not_false, Bool.false_eq_true, not_false_eq_true, not_true_eq_false, Nat.reduceLT, Nat.reduceBEq, Nat.reduceEqDiff, Nat.reduceAdd, Int.reduceEq, Int.reduceLT, Int.reduceLE, Int.reduceGT, Int.reduceGE, beq_self_eq_true, List.getElem?_toArray, List.getElem?_cons_zero, List.getElem?_cons_succ, List.append_nil, List.nil_append, List.cons_append, List.append_eq, j1, zc87]
      rw [← y1]
      simp only [RS, xs_some, Option.bind_some, Option.map_some, if_true, if_false, decide_true, decide_false, true_and, and_true, Bool.not_true, Bool.not_false, Bool.false_eq_true, not_false_eq_true, not_true_eq_false, Nat.reduceLT, Nat.reduceBEq, Nat.reduceEqDiff, Nat.reduceAdd, Int.reduceEq, Int.reduceLT, Int.reduceLE, Int.reduceGT, Int.reduceGE, beq_self_eq_true, List.getElem?_toArray, List.getElem?_cons_zero, List.getElem?_cons_succ, List.append_nil, List.nil_append, List.cons_append, List.append_eq, h6, fO, ldo4, h3]
      have f4 := f3.then0 y2
      have hM4 := hM1.fr0 f4
      obtain ⟨_, N, i1, i2, v', rfl, i3, i4⟩ := take_spec (i := o.2.1) (hM4.fr.wf hw) hM4.po hl100
      refine run_call1 i1 ?_
      obtain ⟨bw, hbw, _⟩ := hM4.po
      have hbp4 : K.blk[bp]? = some ⟨[bw], .var⟩ := hbw
      have y5 : N.blk[G.blk.length]? = some ⟨mcl pm0 .snil, .var⟩ := i2.row _ _ y3 (fun q => by
        rcases q with q | q
        · cases q; rw [y3] at hbp4; cases hbp4
        · exact inFamO_var y3 q)
      obtain ⟨Q, w1, w2, w3⟩ := setMl (y := tkM l o.2.1) (w := v') y5 i3.one
      have j4 : N.blk[B1.blk.length]? = some ⟨rcl (tkM l o.2.1), .var⟩ := i2.row _ _ (y2.row0 j3) (fun q => by
        rcases q with q | q
        · cases q; rw [y2.row0 j3] at hbp4; cases hbp4
        · exact inFamO_var (y2.row0 j3) q)
      have hne : B1.blk.length ≠ G.blk.length := by have := (List.getElem?_eq_some_iff.1 j3).1; omega
      have j5 := w2.row _ _ j4 (fun q => hne (by injection q))
      have ldm := (ldMl w3).2.2.2.2.2
      have ldr := ldRM j5
      have hv5 : Slc eU8 (qHp (exF fo F0) Q) v' (tkM l o.2.1).b := i3.mono (qHp_fr w2 (.box y5) (i2.wf (hM4.fr.wf hw)) fun f q => .inl q)
      obtain ⟨_, T, z1, rfl, z2⟩ := plain_spec (qHp_on _ Q) hv5
      simp only [RS, xs_some, Option.bind_some, Option.map_some, if_true, if_false, decide_true, decide_false, true_and, and_true, Bool.not_true, Bool.not_false, Bool.false_eq_true, not_false_eq_true, not_true_eq_false, Nat.reduceLT, Nat.reduceBEq, Nat.reduceEqDiff, Nat.reduceAdd, Int.reduceEq, Int.reduceLT, Int.reduceLE, Int.reduceGT, Int.reduceGE, beq_self_eq_true, List.getElem?_toArray, List.getElem?_cons_zero, List.getElem?_cons_succ, List.append_nil, List.nil_append, List.cons_append, List.append_eq, w1, pl_14_28, ldm, ldr, rc_nil]
      refine run_call1 z1 ?_
      simp only [RS, xs_some, Option.bind_some, Option.map_some, if_true, if_false, decide_true, decide_false, true_and, and_true, Bool.not_true, Bool.not_false, Bool.false_eq_true, not_false_eq_true, not_true_eq_false, Nat.reduceLT, Nat.reduceBEq, Nat.reduceEqDiff, Nat.reduceAdd, Int.reduceEq, Int.reduceLT, Int.reduceLE, Int.reduceGT, Int.reduceGE, beq_self_eq_true, List.getElem?_toArray, List.getElem?_cons_zero, List.getElem?_cons_succ, List.append_nil, List.nil_append, List.cons_append, List.append_eq, rc_nil]
      refine ⟨rc_load (ha := rfl) rfl (ldRM (z2.row0 j5)) rfl rc_nil, ?_⟩
      simp only [RS, xs_some, Option.bind_some, Option.map_some, if_true, if_false, decide_true, decide_false, true_and, and_true, Bool.not_true, Bool.not_false, Bool.false_eq_true, not_false_eq_true, not_true_eq_false, Nat.reduceLT, Nat.reduceBEq, Nat.reduceEqDiff, Nat.reduceAdd, Int.reduceEq, Int.reduceLT, Int.reduceLE, Int.reduceGT, Int.reduceGE, beq_self_eq_true, List.getElem?_toArray, List.getElem?_cons_zero, List.getElem?_cons_succ, List.append_nil, List.nil_append, List.cons_append, List.append_eq, rc_nil, eqRM1]
      rw [eL.2]
      have i4' : PostIs F0 Q bp fo (tkL l o.2.1) := i4.fr w2 (i2.wf (hM4.fr.wf hw)) (.box y5) (.box y5) (fun q => by cases q; rw [y3] at hbp4; cases hbp4)
      refine ⟨rfl, h3, h22, h23, h24, rfl, rfl, lv', fo, rfl, ?_, hbO⟩
      rw [eL.1]
      have wN := i2.wf (hM4.fr.wf hw)
      have frN := nsF hM4.fr i2 fun z q => postS_new hw hM4.fr hM4.hbp hM4.hfo q
      have frQ := nsF frN w2 fun z q => by subst q; show A.blk.length ≤ _; have := (hM1.fr.trans f3 fun _ q => q.elim : Fr (NS A) A G).len; omega
      refine ⟨nsF0 frQ z2, hM4.hbp, i4'.fr0 z2, ?_, hM4.hfo⟩
      exact ((((hlv3.mono (qHp_fr0 y2)).mono (qHp_fr i2 (postS_tch hbp4) (hM4.fr.wf hw) fun f q => .inl q)).mono (qHp_fr w2 (.box y5) wN fun f q => .inl q)).mono (qHp_fr0 z2))
    have e2 : decide (o.1 = 2) = false := decide_eq_false q2
    by_cases q3 : o.1 = 3
    · have e3 : decide (o.1 = 3) = true := decide_eq_true q3
      have eL : opL l o = twL l o.2.1 ∧ opC l o = twC l o.2.1 := by unfold opL opC; rw [if_neg q0, if_neg q1, if_neg q2, if_pos q3, if_neg q0, if_neg q1, if_neg q2, if_pos q3]; exact ⟨rfl, rfl⟩
      simp only [RS, xs_some, Option.bind_some, Option.map_some, if_true, if_false, decide_true, decide_false, true_and, and_true, Bool.not_true, Bool.not_false, Bool.false_eq_true, not_false_eq_true, not_true_eq_false, Nat.reduceLT, Nat.reduceBEq, Nat.reduceEqDiff, Nat.reduceAdd, Int.reduceEq, Int.reduceLT, Int.reduceLE, Int.reduceGT, Int.reduceGE, beq_self_eq_true, List.getElem?_toArray, List.getElem?_cons_zero, List.getElem?_cons_succ, List.append_nil, List.nil_append, List.cons_append, List.append_eq, e0, e1, e2, e3, h4, h6, fO, ldo]
      obtain ⟨_, E, u1, u2, lv', rfl, u3⟩ := refTwM_spec (i := o.2.1) wB1 hM1.xlt hM1.lst hl100
      refine run_call1 u1 ?_
      have ldo2 := ldO (u2.row0 s3) hmsg.id
      have hM4 := hM1.fr0 u2
      obtain ⟨_, G, i1, rfl, i2, fo', i3, i4⟩ := twice_spec (X := F0) (i := o.2.1) (hM4.fr.wf hw) (fun f q => q.elim) hM4.po (fun x q => by have := hlb x q; omega) hl100
      simp only [RS, xs_some, Option.bind_some, Option.map_some, if_true, if_false, decide_true, decide_false, true_and, and_true, Bool.not_true, Bool.not_false, Bool.false_eq_true, not_false_eq_true, not_true_eq_false, Nat.reduceLT, Nat.reduceBEq, Nat.reduceEqDiff, Nat.reduceAdd, Int.reduceEq, Int.reduceLT, Int.reduceLE, Int.reduceGT, Int.reduceGE, beq_self_eq_true, List.getElem?_toArray, List.getElem?_cons_zero, List.getElem?_cons_succ, List.append_nil, List.nil_append, List.cons_append, List.append_eq, fO, ldo2, h3, h6]
      refine run_call1 i1 ?_
      simp only [RS, xs_some, Option.bind_some, Option.map_some, if_true, if_false, decide_true, decide_false, true_and, and_true, Bool.not_true, Bool.not_false, Bool.false_eq_true, not_false_eq_true, not_true_eq_false, Nat.reduceLT, Nat.reduceBEq, Nat.reduceEqDiff, Nat.reduceAdd, Int.reduceEq, Int.reduceLT, Int.reduceLE, Int.reduceGT, Int.reduceGE, beq_self_eq_true, List.getElem?_toArray, List.getElem?_cons_zero, List.getElem?_cons_succ, List.append_nil, List.nil_append, List.cons_append, List.append_eq]
      rw [eL.2]
      refine ⟨rfl, h3, h22, h23, h24, rfl, rfl, lv', fo', rfl, ?_, hbO⟩
      rw [eL.1]
      exact hM1.both hw u2 u3 i2 i3 i4
    have e3 : decide (o.1 = 3) = false := decide_eq_false q3
    have eL : opL l o = l ∧ opC l o = 0 := by unfold opL opC; rw [if_neg q0, if_neg q1, if_neg q2, if_neg q3, if_neg q0, if_neg q1, if_neg q2, if_neg q3]; exact ⟨rfl, rfl⟩
    simp only [RS, xs_some, Option.bind_some, Option.map_some, if_true, if_false, decide_true, decide_false, true_and, and_true, Bool.not_true, Bool.not_false, Bool.false_eq_true, not_false_eq_true, not_true_eq_false, Nat.reduceLT, Nat.reduceBEq, Nat.reduceEqDiff, Nat.reduceAdd, Int.reduceEq, Int.reduceLT, Int.reduceLE, Int.reduceGT, Int.reduceGE, beq_self_eq_true, List.getElem?_toArray, List.getElem?_cons_zero, List.getElem?_cons_succ, List.append_nil, List.nil_append, List.cons_append, List.append_eq, e0, e1, e2, e3]
    rw [eL.2]
    refine ⟨rfl, h3, h22, h23, h24, rfl, rfl, lv, fo, h4, ?_, hbO⟩
    rw [eL.1]; exact hM1
  · rintro z e D ⟨rfl, h3, h22, h23, h24, h7, h8, lv', fo', h4, hM2, hb⟩
    have hl' := opL_len l o
    have hne : (opC l o != opC l o) = false := by simp
    obtain ⟨_, _, k1, rfl, rfl⟩ := len_spec hM2.po
    simp only [RS, xs_some, Option.bind_some, Option.map_some, if_true, if_false, decide_true, decide_false, true_and, and_true, Bool.not_true, Bool.not_false, Bool.false_eq_true, not_false_eq_true, not_true_eq_false, Nat.reduceLT, Nat.reduceBEq, Nat.reduceEqDiff, Nat.reduceAdd, Int.reduceEq, Int.reduceLT, Int.reduceLE, Int.reduceGT, Int.reduceGE, beq_self_eq_true, List.getElem?_toArray, List.getElem?_cons_zero, List.getElem?_cons_succ, List.append_nil, List.nil_append, List.cons_append, List.append_eq, h7, h8, hne, h3]
    refine run_call1 k1 ?_
    have hll := fun B => hM2.lst.len (P := Try.prog) Try.underlying94 B
    have hne2 : ((((opL l o).length : Nat) : Int) != (((opL l o).length : Nat) : Int)) = false := by simp
    simp only [RS, xs_some, Option.bind_some, Option.map_some, if_true, if_false, decide_true, decide_false, true_and, and_true, Bool.not_true, Bool.not_false, Bool.false_eq_true, not_false_eq_true, not_true_eq_false, Nat.reduceLT, Nat.reduceBEq, Nat.reduceEqDiff, Nat.reduceAdd, Int.reduceEq, Int.reduceLT, Int.reduceLE, Int.reduceGT, Int.reduceGE, beq_self_eq_true, List.getElem?_toArray, List.getElem?_cons_zero, List.getElem?_cons_succ, List.append_nil, List.nil_append, List.cons_append, List.append_eq, h4, hll, hne2, h3]
    obtain ⟨w, E, u1, u2, u3⟩ := mails_spec (hM2.fr.wf hw) hM2.po (by omega) (fun x q => by have := hb x q; omega)
    refine run_call1 u1 ?_
    have hlw := fun B => u3.len (P := Try.prog) Try.underlying79 B
    simp only [RS, xs_some, Option.bind_some, Option.map_some, if_true, if_false, decide_true, decide_false, true_and, and_true, Bool.not_true, Bool.not_false, Bool.false_eq_true, not_false_eq_true, not_true_eq_false, Nat.reduceLT, Nat.reduceBEq, Nat.reduceEqDiff, Nat.reduceAdd, Int.reduceEq, Int.reduceLT, Int.reduceLE, Int.reduceGT, Int.reduceGE, beq_self_eq_true, List.getElem?_toArray, List.getElem?_cons_zero, List.getElem?_cons_succ, List.append_nil, List.nil_append, List.cons_append, List.append_eq, hlw, h4, hll, hne2]
    have hM3 := hM2.fr0 u2
    refine run_loop_j (fun n e F => e.get 3 = .ptr bp 0 ∧ e.get 22 = v ∧ e.get 23 = .int .i64 script.length ∧ e.get 24 = .int .i64 i ∧ e.get 4 = lv' ∧ e.get 137 = w ∧ e.get 138 = .int .i64 (opL l o).length ∧ Fr S0 E F ∧ ∃ j : Nat, n = (opL l o).length - j ∧ j ≤ (opL l o).length ∧ e.get 139 = .int .i64 j)
      (fun z e F => Is z (.exit 3) ∧ e.get 3 = .ptr bp 0 ∧ e.get 22 = v ∧ e.get 23 = .int .i64 script.length ∧ e.get 24 = .int .i64 i ∧ e.get 4 = lv' ∧ Fr S0 E F)
      ⟨_, h3, h22, h23, h24, h4, rfl, rfl, .refl _ _, 0, rfl, by omega, rfl⟩ ?_ ?_
    rotate_left
    · rintro z e F hz ⟨rfl, h3, h22, h23, h24, h4, hf⟩
      simp only [RS, xs_some, Option.bind_some, Option.map_some, if_true, if_false, decide_true, decide_false, true_and, and_true, Bool.not_true, Bool.not_false, Bool.false_eq_true, not_false_eq_true, not_true_eq_false, Nat.reduceLT, Nat.reduceBEq, Nat.reduceEqDiff, Nat.reduceAdd, Int.reduceEq, Int.reduceLT, Int.reduceLE, Int.reduceGT, Int.reduceGE, beq_self_eq_true, List.getElem?_toArray, List.getElem?_cons_zero, List.getElem?_cons_succ, List.append_nil, List.nil_append, List.cons_append, List.append_eq, h24]
      exact ⟨script.length - (i + 1), by omega, h3, h22, h23, i + 1, lv', fo', opL l o, rfl, by omega, by rw [wrapS (by omega)], h4, hM3.fr0 hf, by omega, hb⟩
    rintro n e F ⟨h3, h22, h23, h24, h4, h137, h138, hf, j, rfl, hj, h139⟩
    simp only [RS, xs_some, Option.bind_some, Option.map_some, if_true, if_false, decide_true, decide_false, true_and, and_true, Bool.not_true, Bool.not_false, Bool.false_eq_true, not_false_eq_true, not_true_eq_false, Nat.reduceLT, Nat.reduceBEq, Nat.reduceEqDiff, Nat.reduceAdd, Int.reduceEq, Int.reduceLT, Int.reduceLE, Int.reduceGT, Int.reduceGE, beq_self_eq_true, List.getElem?_toArray, List.getElem?_cons_zero, List.getElem?_cons_succ, List.append_nil, List.nil_append, List.cons_append, List.append_eq, h138, h139]
    refine condK_of (fun q => ?_) (fun q => ?_)
    rotate_left
    · simp only [RS, xs_some, Option.bind_some, Option.map_some, if_true, if_false, decide_true, decide_false, true_and, and_true, Bool.not_true, Bool.not_false, Bool.false_eq_true, not_false_eq_true, not_true_eq_false, Nat.reduceLT, Nat.reduceBEq, Nat.reduceEqDiff, Nat.reduceAdd, Int.reduceEq, Int.reduceLT, Int.reduceLE, Int.reduceGT, Int.reduceGE, beq_self_eq_true, List.getElem?_toArray, List.getElem?_cons_zero, List.getElem?_cons_succ, List.append_nil, List.nil_append, List.cons_append, List.append_eq]
      exact ⟨rfl, h3, h22, h23, h24, h4, hf⟩
    obtain ⟨x, hxj⟩ := get_lt (l := opL l o) (i := j) (by omega)
    obtain ⟨b1, o1, c1, p3, p4, p5⟩ := u3.at (P := Try.prog) (k := .i64) ((arrHp_on E).fr0 hf) Try.underlying79 sz87 ag87 hxj
    obtain ⟨v1, rfl, hv1⟩ := eMail_W.1 p5
    obtain ⟨G, t1, t2, t3⟩ := newMl (A := F) (x := x) hv1.one
    have t1 : evStore Try.prog 87 (.ptr F.blk.length 0) (.agg (mcl x v1)) (F.push ⟨[.bool false, .int .i64 0, .bool false, .int .i64 0, .snil], .var⟩) = some G := t1
    have ldx := (ldMl t3).2.2.2.2.2
    have lst4 := hM3.lst.mono (qHp_fr0 (hf.then0 t2))
    obtain ⟨b2, o2, c2, y3, y4, y5⟩ := lst4.at (P := Try.prog) (k := .i64) (qHp_on _ G) Try.underlying94 sz100 ag100 hxj
    cases eRM_W.1 y5
    obtain ⟨_, G2, i1, rfl, i2⟩ := plain_spec ((arrHp_on E).fr0 (hf.then0 t2)) hv1
    obtain ⟨b3, o3, c3, r3, r4, r5⟩ := (lst4.mono (qHp_fr0 i2)).at (P := Try.prog) (k := .i64) (qHp_on _ G2) Try.underlying94 sz100 ag100 hxj
    cases eRM_W.1 r5
    rw [y3] at r3; cases r3
    simp only [RS, xs_some, Option.bind_some, Option.map_some, if_true, if_false, decide_true, decide_false, true_and, and_true, Bool.not_true, Bool.not_false, Bool.false_eq_true, not_false_eq_true, not_true_eq_false, Nat.reduceLT, Nat.reduceBEq, Nat.reduceEqDiff, Nat.reduceAdd, Int.reduceEq, Int.reduceLT, Int.reduceLE, Int.reduceGT, Int.reduceGE, beq_self_eq_true, List.getElem?_toArray, List.getElem?_cons_zero, List.getElem?_cons_succ, List.append_nil, List.nil_append, List.cons_append, List.append_eq, h137, h139, p3, p4, zc87, t1, pl_14_41, ldx, h4, y3, y4, rc_nil]
    refine run_call1 i1 ?_
    simp only [RS, xs_some, Option.bind_some, Option.map_some, if_true, if_false, decide_true, decide_false, true_and, and_true, Bool.not_true, Bool.not_false, Bool.false_eq_true, not_false_eq_true, not_true_eq_false, Nat.reduceLT, Nat.reduceBEq, Nat.reduceEqDiff, Nat.reduceAdd, Int.reduceEq, Int.reduceLT, Int.reduceLE, Int.reduceGT, Int.reduceGE, beq_self_eq_true, List.getElem?_toArray, List.getElem?_cons_zero, List.getElem?_cons_succ, List.append_nil, List.nil_append, List.cons_append, List.append_eq, rc_nil]
    refine ⟨rc_load (ha := rfl) rfl r4 rfl rc_nil, ?_⟩
    simp only [RS, xs_some, Option.bind_some, Option.map_some, if_true, if_false, decide_true, decide_false, true_and, and_true, Bool.not_true, Bool.not_false, Bool.false_eq_true, not_false_eq_true, not_true_eq_false, Nat.reduceLT, Nat.reduceBEq, Nat.reduceEqDiff, Nat.reduceAdd, Int.reduceEq, Int.reduceLT, Int.reduceLE, Int.reduceGT, Int.reduceGE, beq_self_eq_true, List.getElem?_toArray, List.getElem?_cons_zero, List.getElem?_cons_succ, List.append_nil, List.nil_append, List.cons_append, List.append_eq, rc_nil, eqRM1, h139]
    exact ⟨_, Nat.sub_lt_sub_left (show j < (opL l o).length by omega) (Nat.lt_succ_self j), h3, h22, h23, h24, h4, h137, h138, (hf.then0 t2).then0 i2, j + 1, rfl, by omega, by rw [wrapS (by omega)]⟩
end Go.Sv.Try
