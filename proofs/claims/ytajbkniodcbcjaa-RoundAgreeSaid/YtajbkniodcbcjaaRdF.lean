/- The law's hall: what holds of it, without memory. -/
import Derived.Test.YtajbkniodcbcjaaRdE
namespace Go.Sv
set_option linter.unusedVariables false
theorem after_up {n me : Nat} {kn : List Bts} {s : Led} {a : Act} (k : s.ok n me kn a) : Up s.v (s.after me a).v := by
  cases k with
  | send R val id _ _ _ _ => rw [after_send]; exact fun _ _ _ _ => rfl
  | tim R K _ _ _ _ _ _ => rw [after_tim]; exact fun _ _ _ _ => rfl
  | done R id _ _ _ => rw [after_done]; exact fun _ _ _ _ => rfl
  | vote R K id hd c1 c2 c3 => rw [after_vote]; exact Up.set (putC_right0 c1).2.2
theorem after_else {me : Nat} {s : Led} {a : Act} {R K w : Nat} (h : w ≠ me) : (s.after me a).v R K w = s.v R K w := by
  unfold Led.after
  split
  · rfl
  split
  · exact setV_other h
  split
  · rfl
  · rfl
theorem Up.trans {a b c : Vt} (h : Up a b) (k : Up b c) : Up a c := fun R K w q => by
  have := h R K w q
  rw [k R K w (by rw [this]; exact q), this]
theorem Up.rfl' {v : Vt} : Up v v := fun _ _ _ _ => rfl
theorem fold_up {n me : Nat} {kn : List Bts} : ∀ {l : List Act} {s : Led}, Led.good n me kn s l → Up s.v (l.foldl (Led.after me) s).v
  | [], s, _ => .rfl'
  | a :: l, s, g => (after_up g.1).trans (fold_up (l := l) g.2)
theorem fold_else {me : Nat} {R K w : Nat} (h : w ≠ me) : ∀ (l : List Act) (s : Led), (l.foldl (Led.after me) s).v R K w = s.v R K w
  | [], s => rfl
  | a :: l, s => (fold_else h l (s.after me a)).trans (after_else h)
theorem fold_voted {n me : Nat} {kn : List Bts} : ∀ {l : List Act} {s : Led}, Led.good n me kn s l → ∀ a ∈ l, a.kind = 2 → a.id ≠ z32 ∧ (l.foldl (Led.after me) s).v a.round.toNat a.num.toNat me = a.id
  | [], s, _, a, h, _ => by simp at h
  | b :: l, s, g, a, h, k => by
    rcases List.mem_cons.1 h with rfl | h
    · obtain ⟨c1, _⟩ := ok_vote g.1 k
      have hz := (putC_right0 c1).2.1
      have e : (s.after me a).v a.round.toNat a.num.toNat me = a.id := by rw [after_kind2 k]; exact setV_at
      refine ⟨hz, ?_⟩
      have := fold_up (l := l) g.2 a.round.toNat a.num.toNat me (by rw [e]; exact hz)
      rw [e] at this
      exact this
    · exact fold_voted (l := l) g.2 a h k
theorem fold_dn {n me : Nat} {kn : List Bts} : ∀ {l : List Act} {s : Led}, Led.good n me kn s l → ∀ a ∈ l, a.kind = 4 → Dn n (l.foldl (Led.after me) s).v a.id
  | [], s, _, a, h, _ => by simp at h
  | b :: l, s, g, a, h, k => by
    rcases List.mem_cons.1 h with rfl | h
    · exact (ok_dn g.1 k).up ((after_up g.1).trans (fold_up (l := l) g.2))
    · exact fold_dn (l := l) g.2 a h k
theorem sendTo_mem {who : Nat} {a : Act} : ∀ {l : List Nat} {ml : List Ml} {m : Ml}, m ∈ l.foldl (sendTo who a) ml → m ∈ ml ∨ (m.src = who ∧ m.dst ∈ l ∧ m.act = a)
  | [], ml, m, h => .inl h
  | i :: l, ml, m, h => by
    rcases sendTo_mem (l := l) h with h | ⟨h1, h2, h3⟩
    · unfold sendTo at h
      split at h
      · rcases List.mem_append.1 h with h | h
        · exact .inl h
        · simp at h; subst h; exact .inr ⟨rfl, by simp, rfl⟩
      · exact .inl h
    · exact .inr ⟨h1, List.mem_cons_of_mem _ h2, h3⟩
theorem sendAll_mem {g who : Nat} : ∀ {L : List Act} {ml : List Ml} {m : Ml}, m ∈ L.foldl (sendAll g who) ml → m ∈ ml ∨ (m.src = who ∧ m.dst < g ∧ m.act ∈ L ∧ (m.act.kind = 1 ∨ m.act.kind = 2))
  | [], ml, m, h => .inl h
  | a :: L, ml, m, h => by
    rcases sendAll_mem (L := L) h with h | ⟨h1, h2, h3, h4⟩
    · unfold sendAll at h
      split at h
      · rename_i q
        rcases sendTo_mem h with h | ⟨h1, h2, h3⟩
        · exact .inl h
        · exact .inr ⟨h1, List.mem_range.1 h2, by rw [h3]; simp, by rw [h3]; exact q⟩
      · exact .inl h
    · exact .inr ⟨h1, h2, List.mem_cons_of_mem _ h3, h4⟩
theorem tkD_fold {who : Nat} : ∀ (L : List Act) (dn : Nat → Bts) (i : Nat), (L.foldl (tkD who) dn) i = dn i ∨ (i = who ∧ ∃ a ∈ L, a.kind = 4 ∧ (L.foldl (tkD who) dn) i = a.id)
  | [], dn, i => .inl rfl
  | a :: L, dn, i => by
    rcases tkD_fold L (tkD who dn a) i with h | ⟨h1, b, h2, h3, h4⟩
    · have h : ((a :: L).foldl (tkD who) dn) i = tkD who dn a i := h
      rw [h]
      unfold tkD
      split
      · rename_i q
        by_cases w : i = who
        · exact .inr ⟨w, a, by simp, q, by show (if i = who then a.id else dn i) = a.id; rw [if_pos w]⟩
        · exact .inl (if_neg w)
      · exact .inl rfl
    · exact .inr ⟨h1, b, List.mem_cons_of_mem _ h2, h3, h4⟩
end Go.Sv
namespace Go.Sv.Try
open Go Go.Proofs
set_option linter.unusedVariables false
set_option linter.unusedSimpArgs false
structure HOk (n g : Nat) (s : Nat → Led) (rs : Nat → Rd) (ml : List Ml) (dn : Nat → Bts) : Prop where
  all : All n s
  hg : g = n - flts n
  mt : ∀ i, i < g → Mt (s i) (rs i)
  rng : ∀ i, i < g → Rng (rs i)
  acts : ∀ i, i < g → (rs i).acts = []
  nm : ∀ i, i < g → (rs i).n = n ∧ (rs i).me = i
  mls : ∀ m ∈ ml, m.src < g ∧ m.dst < g ∧ (m.act.kind = 2 → m.act.id ≠ z32 ∧ (s m.src).v m.act.round.toNat m.act.num.toNat m.src = m.act.id)
  mlen : ml.length ≤ 2000
  dns : ∀ i, i < g → dn i ≠ z32 → Dn n (s i).v (dn i)
variable {n g : Nat} {s : Nat → Led} {rs : Nat → Rd} {ml : List Ml} {dn : Nat → Bts}
def Fair (g : Nat) (s : Nat → Led) (i : Nat) (x : RIn) : Prop := x.kind ≠ 6 ∧ (x.kind = 3 → ∀ j, j < g → j ≠ i → x.who = (j : Int) → x.id ≠ z32 ∧ (s j).v x.round.toNat x.num.toNat j = x.id)
theorem HOk.step (h : HOk n g s rs ml dn) {i : Nat} (hi : i < g) {x : RIn} (hf : Fair g s i x) :
    ∃ s', HOk n g s' (upd rs i ((rs i).give x).1) (((rs i).give x).2.foldl (sendAll g i) ml) (((rs i).give x).2.foldl (tkD i) dn) := by
  obtain ⟨s1, u1, u2, u3, u4, u5, u6, u7, u8⟩ := give_ok (h.mt i hi) (h.acts i hi) hf.1
  obtain ⟨hn, hme⟩ := h.nm i hi
  obtain ⟨v1, v2⟩ := (h.rng i hi).give (h.acts i hi) x
  have gd := u7.good
  have mt2 := u7.mt
  have kp := u7.kp
  have gd : Led.good n i (giveK (rs i) x) s1 ((rs i).give x).2 := by
    have : Led.good (rs i).n (rs i).me (giveK (rs i) x) s1 ((rs i).give x).2 := gd
    rw [hn, hme] at this; exact this
  have mt2 : Mt (((rs i).give x).2.foldl (Led.after i) s1) ((rs i).give x).1 := by
    have : Mt (((rs i).give x).2.foldl (Led.after (rs i).me) s1) ((rs i).give x).1 := mt2
    rw [hme] at this; exact this
  rw [hn, hme] at u1
  obtain ⟨g1, g2⟩ := up_give (n := n) (me := i) (v := (s i).v) (i := x)
  rw [← u1] at g1 g2
  obtain ⟨L, hL⟩ : ∃ L, L = ((rs i).give x).2 := ⟨_, rfl⟩
  rw [← hL] at gd mt2 ⊢
  obtain ⟨s', hs'⟩ : ∃ t, t = L.foldl (Led.after i) s1 := ⟨_, rfl⟩
  have hup1 := fold_up gd
  rw [← hs'] at mt2 hup1
  have hup : Up (s i).v s'.v := g1.trans hup1
  have hgn : ∀ j, j < g → j < n - flts n := fun j hj => by rw [← h.hg]; exact hj
  have hng : ∀ j, j < n - flts n → j < g := fun j hj => by rw [h.hg]; exact hj
  have upall : ∀ j, Up (s j).v (upd s i s' j).v := fun j => by
    by_cases e : j = i
    · subst e; rw [upd_at]; exact hup
    · rw [upd_ne _ _ e]; exact .rfl'
  have hhist : Hist n i s' := by
    rw [hs']
    exact Hist.fold ((h.all.hist i (hgn i hi)).up g1 g2 u4 u5) gd
  refine ⟨upd s i s', { all := { ok := h.all.ok, hist := fun j hj => ?_, auth := fun a b ha hb R K q => ?_ }, hg := h.hg, mt := fun j hj => ?_, rng := fun j hj => ?_, acts := fun j hj => ?_, nm := fun j hj => ?_, mls := fun m hm => ?_, mlen := ?_, dns := fun j hj q => ?_ }⟩
  · by_cases e : j = i
    · subst e; rw [upd_at]; exact hhist
    · rw [upd_ne _ _ e]; exact h.all.hist j hj
  · by_cases ea : a = i
    · subst ea
      rw [upd_at] at q ⊢
      by_cases eb : b = a
      · subst eb; rw [upd_at]
      · rw [upd_ne _ _ eb]
        rw [hs', fold_else eb] at q ⊢
        rw [u1] at q ⊢
        unfold giveV at q ⊢
        split at q
        · rename_i z
          rw [if_pos z]
          unfold putV at q ⊢
          split at q
          · rename_i c0
            rw [if_pos c0]
            unfold setV at q ⊢
            split at q
            · rename_i y
              rw [if_pos y]
              obtain ⟨y1, y2, y3⟩ := y
              obtain ⟨r1, _, _⟩ := putC_right0 c0
              have hw : x.who = (b : Int) := by have := r1.2.2.2.1; omega
              rw [y1, y2]
              exact (hf.2 z.1 b (hng b hb) eb hw).2
            · rename_i y
              rw [if_neg y]
              exact h.all.auth a b ha hb R K q
          · rename_i c0
            rw [if_neg c0]
            exact h.all.auth a b ha hb R K q
        · rename_i z
          rw [if_neg z]
          exact h.all.auth a b ha hb R K q
    · rw [upd_ne _ _ ea] at q ⊢
      have y := h.all.auth a b ha hb R K q
      rw [← y]
      exact upall b R K b (by rw [y]; exact q)
  · by_cases e : j = i
    · subst e; rw [upd_at, upd_at]; exact mt2
    · rw [upd_ne _ _ e, upd_ne _ _ e]; exact h.mt j hj
  · by_cases e : j = i
    · subst e; rw [upd_at]; exact v1
    · rw [upd_ne _ _ e]; exact h.rng j hj
  · by_cases e : j = i
    · subst e; rw [upd_at]; exact v2
    · rw [upd_ne _ _ e]; exact h.acts j hj
  · by_cases e : j = i
    · subst e; rw [upd_at]; exact ⟨kp.n.trans hn, kp.me.trans hme⟩
    · rw [upd_ne _ _ e]; exact h.nm j hj
  · rcases sendAll_mem hm with hm | ⟨m1, m2, m3, m4⟩
    · obtain ⟨y1, y2, y3⟩ := h.mls m hm
      refine ⟨y1, y2, fun k => ?_⟩
      obtain ⟨z1, z2⟩ := y3 k
      refine ⟨z1, ?_⟩
      rw [upall m.src _ _ _ (by rw [z2]; exact z1), z2]
    · refine ⟨by rw [m1]; exact hi, m2, fun k => ?_⟩
      obtain ⟨z1, z2⟩ := fold_voted gd m.act m3 k
      rw [m1, upd_at, hs']
      exact ⟨z1, z2⟩
  · have : ∀ (l : List Act) (m : List Ml), m.length ≤ 2000 → (l.foldl (sendAll g i) m).length ≤ 2000 := by
      intro l
      induction l with
      | nil => exact fun m h => h
      | cons a l ih => exact fun m h => ih _ (sendAll_len h)
    exact this L ml h.mlen
  · rcases tkD_fold (who := i) L dn j with y | ⟨rfl, a, y1, y2, y3⟩
    · rw [y] at q ⊢
      exact (h.dns j hj q).up (upall j)
    · rw [y3, upd_at, hs']
      exact fold_dn gd a y1 y2
theorem HOk.agree (h : HOk n g s rs ml dn) {i j : Nat} (hi : i < g) (hj : j < g) (h1 : dn i ≠ z32) (h2 : dn j ≠ z32) : dn i = dn j :=
  h.all.agree (by rw [← h.hg]; exact hi) (by rw [← h.hg]; exact hj) (h.dns i hi h1) (h.dns j hj h2)
section
variable {A B C : AS} {hp : Nat} {rps cps : Nat → Nat} {vbs : Nat → Nat → Nat} {fks : Nat → Option Nat} {fal fm : Option Nat} {db : Nat}
theorem IsHall.give (h : IsHall B hp g rps cps vbs rs fks fal fm db ml dn) {i : Nat} (hi : i < g) {x : Rd × List Act} {w : V} (k : GRes B (rps i) (cps i) (vbs i) (fks i) none C x w) :
    ∃ fk' fo, IsHall C hp g rps cps vbs (upd rs i x.1) (upd fks i fk') fal fm db ml dn ∧ Lst eAct Hp.emp C w x.2 fo ∧ (∀ f, fo = some f → ¬ XH db fm f) ∧ Gr B (fks i) fk' ∧ Fr (TS (· = rps i) (XR (vbs i) (fks i)) B) B C := by
  obtain ⟨fk', fo, k1, k2, k3, k4, k5, k6⟩ := h.rds.give hi k
  obtain ⟨av, mv, b1, b2, b3⟩ := h.box
  have hdb : db < B.blk.length := row_lt h.row
  have hx := h.hx i hi
  have e1 := hx
  refine ⟨fk', fo, { h with box := ⟨av, mv, k6.row _ _ b1 (TS.box b1 fun q => (h.hb i hi).1 q.symm), b2.fr k6 (TS.off fun f q w => (hx f w).2.2 q), b3.fr k6 (TS.off fun f q w => (hx f w).2.1 q)⟩, row := k6.row _ _ h.row (TS.arr h.row fun q => (hx db q).1 rfl), sole := h.sole.fr k6 (fun q => (hx db q).1 rfl), rds := k1, hx := fun j hj f q => ?_ }, k2, fun f q w => ?_, k5, k6⟩
  · by_cases e : j = i
    · subst e
      rw [upd_at] at q
      rcases q with q | q
      · exact hx f (.inl q)
      · rcases k5.or q with y | y
        · exact hx f (.inr y)
        · refine ⟨by omega, fun z => ?_, fun z => ?_⟩
          · have := b3.famLt f z; omega
          · have := b2.famLt f z; omega
    · rw [upd_ne _ _ e] at q
      exact h.hx j hj f q
  · have := k3 f q
    rcases w with w | w
    · omega
    · have := b3.famLt f w; omega
end
end Go.Sv.Try
namespace Go.Sv.Try
open Go Go.Proofs
set_option linter.unusedVariables false
set_option linter.unusedSimpArgs false
structure Calm (n me : Nat) (r : Rd) : Prop where
  rng : Rng r
  acts : r.acts = []
  nm : r.n = n ∧ r.me = me
  neg : r.now < 0
  led : ∃ s, Mt s r ∧ Hist n me s ∧ s.v = v0
theorem calm0 {n me : Nat} {h : Int} (hn : okN n) (hm : me < n) (h0 : 0 ≤ h) (h1 : h ≤ 9223372036854775807) : Calm n me (rd0 n me h) :=
  ⟨rng0 hm h0 h1, rfl, ⟨rfl, rfl⟩, by show (-1 : Int) < 0; omega, led0, mt0 hn hm, hist0 n me, rfl⟩
theorem Calm.know {n me : Nat} {r : Rd} (h : Calm n me r) (id : Bts) : Calm n me (r.Know id).1 := by
  obtain ⟨s, h1, h2, h3⟩ := h.led
  obtain ⟨s1, u1, u2, u3, u4, u5, u6, u7, u8⟩ := give_ok (i := ⟨1, 0, 0, 0, 0, id⟩) h1 h.acts (by show ¬ ((1 : Int) = 6); omega)
  have e : r.give ⟨1, 0, 0, 0, 0, id⟩ = r.Know id := rfl
  rw [e] at u7 u8
  have hz := u8 h.neg (by show ¬ ((1 : Int) = 0); omega)
  have hv : s1.v = s.v := u1
  obtain ⟨y1, y2⟩ := h.rng.give h.acts ⟨1, 0, 0, 0, 0, id⟩
  rw [e] at y1 y2
  have hm := u7.mt
  rw [hz] at hm
  have kp := u7.kp
  refine ⟨y1, y2, ⟨kp.n.trans h.nm.1, kp.me.trans h.nm.2⟩, ?_, s1, hm, h2.up (by rw [hv]; exact .rfl') (fun R K => by rw [hv]) u4 u5, by rw [hv, h3]⟩
  have e2 : (r.Know id).1.now = r.now := by
    have e3 : r.Know id = (r.Remember id).settle := rfl
    rw [e3, (settle_neg (r := r.Remember id) (by rw [remember_known]; exact h.neg) (by rw [remember_known]; exact h.acts)).2, remember_known]
  rw [e2]; exact h.neg
section
variable {A B C : AS} {hp g i : Nat} {rps cps : Nat → Nat} {vbs : Nat → Nat → Nat} {rs : Nat → Rd} {fks : Nat → Option Nat} {av : V} {fal : Option Nat} {n : Nat}
structure PO (A B : AS) (hp g n i : Nat) (rps cps : Nat → Nat) (vbs : Nat → Nat → Nat) (rs : Nat → Rd) (fks : Nat → Option Nat) (av : V) (fal : Option Nat) : Prop where
  fr : Fr S0 A B
  box : B.blk[hp]? = some ⟨[av, .int .i64 g, .snil, .snil], .var⟩
  all : Lst ePt Hp.emp B av ((List.range i).map rps) fal
  rds : Rds B i rps cps vbs rs fks
  nhp : A.blk.length ≤ hp
  nr : ∀ j, j < i → NewR A (rps j) (vbs j) ∧ ∀ f, fks j = some f → A.blk.length ≤ f
  nf : ∀ f, fal = some f → A.blk.length ≤ f
  hb : ∀ j, j < i → rps j ≠ hp ∧ cps j ≠ hp
  hx : ∀ j, j < i → ∀ f, XR (vbs j) (fks j) f → fal ≠ some f
  calm : ∀ j, j < i → Calm n j (rs j)
theorem PO.s0 (h : PO A B hp g n i rps cps vbs rs fks av fal) (hf : Fr S0 B C) : PO A C hp g n i rps cps vbs rs fks av fal :=
  { h with fr := h.fr.then0 hf, box := hf.row0 h.box, all := h.all.fr0 hf, rds := h.rds.s0 hf }
theorem XR.new {A : AS} {vb : Nat → Nat} {rp : Nat} {fk : Option Nat} (h : NewR A rp vb) (k : ∀ f, fk = some f → A.blk.length ≤ f) {f : Nat} (q : XR vb fk f) : A.blk.length ≤ f := by
  rcases q with ⟨j, hj, rfl⟩ | q
  · exact h.2 j hj
  · exact k f q
theorem PO.more (h : PO A B hp g n i rps cps vbs rs fks av fal) {rp cp : Nat} {vb : Nat → Nat} {r : Rd} (hf : Fr S0 B C) (hR : IsRd C rp r cp vb none none) (hN : NewR B rp vb) (hcp : B.blk.length ≤ cp) (hc : Calm n i r) :
    Rds C (i + 1) (upd rps i rp) (upd cps i cp) (upd vbs i vb) (upd rs i r) (upd fks i none) := by
  have hold : ∀ j, j < i → (rps j < B.blk.length ∧ cps j < B.blk.length) := fun j hj => by
    obtain ⟨_, _, b, _⟩ := (h.rds.rd j hj).box
    exact ⟨row_lt b, row_lt (h.rds.rd j hj).cnt.box⟩
  have hxl : ∀ j, j < i → ∀ f, XR (vbs j) (fks j) f → f < B.blk.length := fun j hj f q => (h.rds.rd j hj).xlt q
  have hxn : ∀ f, XR vb none f → B.blk.length ≤ f := fun f q => XR.new hN (fun f q => by cases q) q
  refine ⟨fun j hj => ?_, fun a b ha hb hab f q1 q2 => ?_, fun a b ha hb hab => ?_⟩
  · by_cases e : j = i
    · subst e; rw [upd_at, upd_at, upd_at, upd_at, upd_at]; exact hR
    · rw [upd_ne _ _ e, upd_ne _ _ e, upd_ne _ _ e, upd_ne _ _ e, upd_ne _ _ e]
      exact (h.rds.rd j (by omega)).fr0 hf
  · by_cases ea : a = i
    · subst ea
      rw [upd_at, upd_at] at q1
      rw [upd_ne _ _ (Ne.symm hab), upd_ne _ _ (Ne.symm hab)] at q2
      have := hxn f q1; have := hxl b (by omega) f q2; omega
    · rw [upd_ne _ _ ea, upd_ne _ _ ea] at q1
      by_cases eb : b = i
      · subst eb
        rw [upd_at, upd_at] at q2
        have := hxn f q2; have := hxl a (by omega) f q1; omega
      · rw [upd_ne _ _ eb, upd_ne _ _ eb] at q2
        exact h.rds.dj a b (by omega) (by omega) hab f q1 q2
  · have hN1 := hN.1
    by_cases ea : a = i
    · subst ea
      rw [upd_at, upd_ne _ _ (Ne.symm hab), upd_ne _ _ (Ne.symm hab)]
      have := hold b (by omega)
      exact ⟨by omega, by omega⟩
    · rw [upd_ne _ _ ea]
      by_cases eb : b = i
      · subst eb
        rw [upd_at, upd_at]
        have := hold a (by omega)
        exact ⟨by omega, by omega⟩
      · rw [upd_ne _ _ eb, upd_ne _ _ eb]
        exact h.rds.bx a b (by omega) (by omega) hab
theorem bldH (g : Int) : evBuild Try.prog 30 [(1, .int .i64 g)] = some (.agg [.snil, .int .i64 g, .snil, .snil]) := by kernel_rfl
theorem bldI1 (k : Int) : evBuild Try.prog 39 [(0, .int .u8 k)] = some (.agg (.int .u8 k :: (bc z32).drop 1)) := by kernel_rfl
def idK (k : Nat) : Bts := (UInt8.ofNat k) :: z32.drop 1
theorem idK_len (k : Nat) : (idK k).length = 32 := rfl
theorem bldIk {k : Nat} (hk : k < 256) : evBuild Try.prog 39 [(0, .int .u8 (k : Int))] = some (.agg (bc (idK k))) := by
  rw [bldI1]
  show some (V.agg (.int .u8 (k : Int) :: _)) = some (V.agg (.int .u8 ((UInt8.ofNat k).toNat : Int) :: _))
  rw [show (UInt8.ofNat k).toNat = k from by rw [UInt8.toNat_ofNat']; exact Nat.mod_eq_of_lt hk]
  rfl
theorem mslDn {g : Nat} (hg : g = 1 ∨ g = 3 ∨ g = 4 ∨ g = 5 ∨ g = 7) : msl Try.prog 26 (some (.int .i64 (g : Int))) (some (.int .i64 (g : Int))) = some (.newSl (reps g fun _ => bc z32) g 32) := by
  rcases hg with rfl | rfl | rfl | rfl | rfl <;> kernel_rfl
theorem bslPt (b : Nat) : bsl Try.prog 27 1 (some [(0, .ptr b 0)]) = some (.newSl [.ptr b 0] 1 1) := by kernel_rfl
theorem upd_upd {α : Type} (f : Nat → α) (i : Nat) (x y : α) : upd (upd f i x) i y = upd f i y := by funext j; unfold upd; split <;> rfl
theorem upd_map {f : Nat → Nat} {i b : Nat} : (List.range (i + 1)).map (upd f i b) = (List.range i).map f ++ [b] := by
  rw [List.range_succ, List.map_append]
  congr 1
  · exact List.map_congr_left fun j hj => upd_ne _ _ (by have := List.mem_range.1 hj; omega)
  · simp [upd_at]
set_option maxRecDepth 10000 in
set_option maxHeartbeats 8000000 in
theorem newG_spec (hw : WF A) {n me : Nat} (hok : okN n) (hme : me < n) : ∃ w A', EvF Try.prog HH 11 [.int .i64 (n : Int), .int .i64 (me : Int), .int .i64 5] A w A' ∧ Fr S0 A A' ∧ ∃ rp cp vb, w = .tup [.ptr rp 0, .int .i64 0] ∧ IsRd A' rp (rd0 n me 5) cp vb none none ∧ NewR A rp vb ∧ A.blk.length ≤ cp := by
  have h7 : n ≤ 7 := by unfold okN at hok; omega
  refine run_fn2 rfl Try.func11 (by unfold Try.f11; rfl) Try.ntmps11 (by unfold Try.f11; rfl) (by simp) ?_
  simp only [RT, Nat.reduceLT, Nat.reduceBEq, Nat.reduceEqDiff, Nat.reduceAdd, Int.reduceEq, Int.reduceLT, Int.reduceLE, Int.reduceGT, Int.reduceGE]
  obtain ⟨w, A1, k1, f1, k3⟩ := cntNew_spec (n := (n : Int)) hw (by omega) (by omega)
  refine run_call1 k1 ?_
  rcases k3 with ⟨q, rfl⟩ | ⟨m, cp, vb, qm, hm, rfl, hc, hcp, hvb⟩
  · exact absurd hok (fun z => flts_bad q (by unfold okN at z; omega))
  obtain rfl : m = n := by omega
  simp only [RT, Nat.reduceLT, Nat.reduceBEq, Nat.reduceEqDiff, Nat.reduceAdd, Int.reduceEq, Int.reduceLT, Int.reduceLE, Int.reduceGT, Int.reduceGE, decide_eq_false (show ¬ ((me : Int) < 0) by omega), decide_eq_false (show ¬ ((me : Int) ≥ (m : Int)) by omega), bldRd0]
  obtain ⟨A2, e2, f2, r2, n2⟩ := new_var A1 (encR (rd0 m me 5) .snil .snil cp)
  rw [← e2]
  refine ⟨f1.then0 f2, A1.blk.length, cp, vb, rfl, ?_, ⟨f1.len, hvb⟩, hcp⟩
  have := hc.fr0 f2
  exact { box := ⟨.snil, .snil, r2, .nil, .nil⟩, cnt := this, ok := rok0 _ _ _, rc := fun q => by have := row_lt hc.box; omega, ne1 := fun _ q => (by cases q), ne2 := fun _ _ => ⟨fun q => (by cases q), fun q => (by cases q)⟩ }
set_option maxRecDepth 10000 in
set_option maxHeartbeats 32000000 in
theorem open_spec (hw : WF A) {n : Nat} (hn : n = 4 ∨ n = 7) : ∃ w A', EvF Try.prog HH 18 [.int .i64 (n : Int)] A w A' ∧
    ∃ hp rps cps vbs rs fks fal db, w = .ptr hp 0 ∧ IsHall A' hp (n - flts n) rps cps vbs rs fks fal none db [] (fun _ => z32) ∧ Fr S0 A A' ∧ A.blk.length ≤ hp ∧ A.blk.length ≤ db ∧ ∀ j, j < n - flts n → (NewR A (rps j) (vbs j) ∧ ∀ f, fks j = some f → A.blk.length ≤ f) ∧ Calm n j (rs j) := by
  have hok : okN n := by unfold okN; omega
  have hfl : fltsI (n : Int) = flts n := flts_ok hok
  have hg : ((n : Int) - (flts n : Int)) = ((n - flts n : Nat) : Int) := by unfold flts; omega
  have hgn : n - flts n ≤ 7 ∧ n - flts n ≤ n := by unfold flts; omega
  refine run_fn2 rfl Try.func18 (by unfold Try.f18; rfl) Try.ntmps18 (by unfold Try.f18; rfl) (by simp) ?_
  simp only [RT, Nat.reduceLT, Nat.reduceBEq, Nat.reduceEqDiff, Nat.reduceAdd, Int.reduceEq, Int.reduceLT, Int.reduceLE, Int.reduceGT, Int.reduceGE]
  obtain ⟨_, _, k1, hA, rfl⟩ := faults_spec (A := A) (n := (n : Int)) (by omega) (by omega)
  rw [hA] at k1
  refine run_call1 k1 ?_
  simp only [RT, Nat.reduceLT, Nat.reduceBEq, Nat.reduceEqDiff, Nat.reduceAdd, Int.reduceEq, Int.reduceLT, Int.reduceLE, Int.reduceGT, Int.reduceGE, hfl, wrapI (show -9223372036854775808 ≤ (n : Int) - (flts n : Int) by omega) (show (n : Int) - (flts n : Int) ≤ 9223372036854775807 by omega), bldH]
  obtain ⟨A1, e1, f1, r1, n1⟩ := new_var A [.snil, .int .i64 ((n : Int) - (flts n : Int)), .snil, .snil]
  rw [← e1]
  obtain ⟨hp, hhp⟩ : ∃ b, b = A.blk.length := ⟨_, rfl⟩
  rw [← hhp] at r1 ⊢
  rw [hg] at r1
  obtain ⟨g, hgg⟩ : ∃ g, g = n - flts n := ⟨_, rfl⟩
  rw [← hgg] at r1 hgn ⊢
  have P0 : PO A A1 hp g n 0 (fun _ => 0) (fun _ => 0) (fun _ _ => 0) (fun _ => rd0 0 0 0) (fun _ => none) .snil none :=
    ⟨f1, r1, .nil, ⟨fun _ h => by omega, fun _ _ h => by omega, fun _ _ h => by omega⟩, by omega, fun _ h => by omega, (fun f q => by cases q), fun _ h => by omega, fun _ h => by omega, fun _ h => by omega⟩
  have fH := faH hp
  refine run_loop_j (fun z e B => ∃ (i : Nat) (rps cps : Nat → Nat) (vbs : Nat → Nat → Nat) (rs : Nat → Rd) (fks : Nat → Option Nat) (av : V) (fal : Option Nat), z = g - i ∧ i ≤ g ∧ e.get 4 = .int .i64 i ∧ e.get 3 = .ptr hp 0 ∧ e.get 0 = .int .i64 (n : Int) ∧ PO A B hp g n i rps cps vbs rs fks av fal)
    (fun z e B => Is z (.exit 0) ∧ e.get 3 = .ptr hp 0 ∧ ∃ (rps cps : Nat → Nat) (vbs : Nat → Nat → Nat) (rs : Nat → Rd) (fks : Nat → Option Nat) (av : V) (fal : Option Nat), PO A B hp g n g rps cps vbs rs fks av fal)
    ⟨_, 0, _, _, _, _, _, _, _, rfl, by omega, rfl, rfl, rfl, P0⟩ ?_ ?_
  · rintro z e B ⟨i, rps, cps, vbs, rs, fks, av, fal, rfl, hi, h4, h3, h0, hP⟩
    simp only [RT, Nat.reduceLT, Nat.reduceBEq, Nat.reduceEqDiff, Nat.reduceAdd, Int.reduceEq, Int.reduceLT, Int.reduceLE, Int.reduceGT, Int.reduceGE, h4, h3, fH, ldH hP.box]
    refine condK_of (fun q1 => ?_) (fun q1 => ?_)
    rotate_left
    · have : i = g := by omega
      subst this
      simp only [RT, Nat.reduceLT, Nat.reduceBEq, Nat.reduceEqDiff, Nat.reduceAdd, Int.reduceEq, Int.reduceLT, Int.reduceLE, Int.reduceGT, Int.reduceGE]
      exact ⟨rfl, h3, rps, cps, vbs, rs, fks, av, fal, hP⟩
    have hig : i < g := by omega
    obtain ⟨_, C, k1, f2, rp, cp, vb, rfl, hR, hN, hcp⟩ := newG_spec (hP.fr.wf hw) (me := i) hok (by omega)
    simp only [RT, Nat.reduceLT, Nat.reduceBEq, Nat.reduceEqDiff, Nat.reduceAdd, Int.reduceEq, Int.reduceLT, Int.reduceLE, Int.reduceGT, Int.reduceGE, h0, h4]
    refine run_call1 k1 ?_
    have hRds := hP.more f2 hR hN hcp (calm0 hok (by omega) (by omega) (by omega))
    simp only [RT, Nat.reduceLT, Nat.reduceBEq, Nat.reduceEqDiff, Nat.reduceAdd, Int.reduceEq, Int.reduceLT, Int.reduceLE, Int.reduceGT, Int.reduceGE, pEqR]
    have hbC := f2.row0 hP.box
    have hallC := hP.all.fr0 f2
    have hrpn : A.blk.length ≤ rp := by have := hN.1; have := hP.fr.len; omega
    have hhpB : hp < B.blk.length := row_lt hP.box
    have hrph : rp ≠ hp := by have := hN.1; omega
    have hxn : ∀ fk : Option Nat, (∀ f, fk = some f → B.blk.length ≤ f) → ∀ f, XR vb fk f → fal ≠ some f := fun fk k f q w => by
      have := XR.new hN k q
      have := hP.all.famLt f w; omega
    refine run_loop_j (fun z e B' => ∃ (k : Nat) (r : Rd) (fk : Option Nat), z = 5 - k ∧ 1 ≤ k ∧ k ≤ 5 ∧ e.get 7 = .int .u8 (k : Int) ∧ e.get 5 = .ptr rp 0 ∧ e.get 4 = .int .i64 i ∧ e.get 3 = .ptr hp 0 ∧ e.get 0 = .int .i64 (n : Int) ∧ Fr S0 A B' ∧ B'.blk[hp]? = some ⟨[av, .int .i64 g, .snil, .snil], .var⟩ ∧ Lst ePt Hp.emp B' av ((List.range i).map rps) fal ∧ Rds B' (i + 1) (upd rps i rp) (upd cps i cp) (upd vbs i vb) (upd rs i r) (upd fks i fk) ∧ Calm n i r ∧ (∀ f, fk = some f → B.blk.length ≤ f) ∧ B.blk.length ≤ B'.blk.length)
      (fun z e B' => Is z (.exit 2) ∧ ∃ (r : Rd) (fk : Option Nat), e.get 5 = .ptr rp 0 ∧ e.get 4 = .int .i64 i ∧ e.get 3 = .ptr hp 0 ∧ e.get 0 = .int .i64 (n : Int) ∧ Fr S0 A B' ∧ B'.blk[hp]? = some ⟨[av, .int .i64 g, .snil, .snil], .var⟩ ∧ Lst ePt Hp.emp B' av ((List.range i).map rps) fal ∧ Rds B' (i + 1) (upd rps i rp) (upd cps i cp) (upd vbs i vb) (upd rs i r) (upd fks i fk) ∧ Calm n i r ∧ (∀ f, fk = some f → B.blk.length ≤ f) ∧ B.blk.length ≤ B'.blk.length)
      ⟨_, 1, rd0 n i 5, none, rfl, by omega, by omega, rfl, rfl, h4, h3, h0, hP.fr.then0 f2, hbC, hallC, hRds, calm0 hok (by omega) (by omega) (by omega), (fun f q => by cases q), f2.len⟩ ?_ ?_
    · rintro z e B' ⟨k, r, fk, rfl, hk1, hk5, h7, h5, h4, h3, h0, hF, hbx, hal, hRd, hCa, hfk, hBl⟩
      simp only [RT, Nat.reduceLT, Nat.reduceBEq, Nat.reduceEqDiff, Nat.reduceAdd, Int.reduceEq, Int.reduceLT, Int.reduceLE, Int.reduceGT, Int.reduceGE, h7]
      by_cases c1 : k ≤ 4
      rotate_left
      · simp only [RT, Nat.reduceLT, Nat.reduceBEq, Nat.reduceEqDiff, Nat.reduceAdd, Int.reduceEq, Int.reduceLT, Int.reduceLE, Int.reduceGT, Int.reduceGE, decide_eq_false (show ¬ ((k : Int) ≤ 4) by omega)]
        refine ⟨rfl, r, fk, ?_⟩
        and_intros <;> assumption
      have hwk : IntKind.u8.wrap ((k : Int) + 1) = ((k + 1 : Nat) : Int) := by
        have : k = 1 ∨ k = 2 ∨ k = 3 ∨ k = 4 := by omega
        rcases this with rfl | rfl | rfl | rfl <;> rfl
      have hR0 := hRd.rd i (by omega)
      rw [upd_at, upd_at, upd_at, upd_at, upd_at] at hR0
      obtain ⟨w, D, m1, m2⟩ := know_spec (hF.wf hw) hR0 hCa.rng (by rw [hCa.acts]; simp) (idK_len k)
      simp only [RT, Nat.reduceLT, Nat.reduceBEq, Nat.reduceEqDiff, Nat.reduceAdd, Int.reduceEq, Int.reduceLT, Int.reduceLE, Int.reduceGT, Int.reduceGE, decide_eq_true (show ((k : Int) ≤ 4) by omega), h5, h7, bldIk (show k < 256 by omega)]
      refine run_call1 m1 ?_
      simp only [RT, Nat.reduceLT, Nat.reduceBEq, Nat.reduceEqDiff, Nat.reduceAdd, Int.reduceEq, Int.reduceLT, Int.reduceLE, Int.reduceGT, Int.reduceGE, h7, hwk]
      have m2' : GRes B' (upd rps i rp i) (upd cps i cp i) (upd vbs i vb i) (upd fks i fk i) none D (r.Know (idK k)) w := by
        rw [upd_at, upd_at, upd_at, upd_at]; exact m2
      obtain ⟨fk', fo, j1, j2, j3, j4, j5, j6⟩ := hRd.give (show i < i + 1 by omega) m2'
      rw [upd_upd, upd_upd] at j1
      rw [upd_at] at j5
      rw [upd_at, upd_at, upd_at] at j6
      have hfk' : ∀ f, fk' = some f → B.blk.length ≤ f := fun f q => by
        rcases j5.or q with y | y
        · exact hfk f y
        · omega
      have y5 : B.blk.length ≤ D.blk.length := by have := j6.len; omega
      have y1 := hF.trans j6 fun x q => .inr (TS.new hw hF (fun b q => by rw [show b = rp from q]; exact hrpn) (fun f q => by have := XR.new hN hfk q; have := hP.fr.len; omega) q)
      have y2 := j6.row _ _ hbx (TS.box hbx fun q => hrph (show hp = rp from q).symm)
      have y3 := hal.fr j6 (TS.off fun f q w => hxn fk hfk f w q)
      have y4 := hCa.know (idK k)
      refine ⟨5 - (k + 1), by omega, k + 1, (r.Know (idK k)).1, fk', rfl, by omega, by omega, ?_⟩
      and_intros <;> first | rfl | assumption
    rintro z e B' hz ⟨rfl, r, fk, h5, h4, h3, h0, hF, hbx, hal, hRd, hCa, hfk, hBl⟩
    obtain ⟨v4, D, fal', p1, p2, p3, p4⟩ := hal.push (P := Try.prog) (t := 27) (tx := 27) (n := 1) rfl sl27 Try.underlying27 (hF.wf hw) (y := rp) (cs' := [.ptr rp 0]) rfl (by rw [List.length_map, List.length_range]; omega) (by rw [List.length_map, List.length_range]; omega)
    have hxD := p3.row _ _ hbx (inFamO_var hbx)
    obtain ⟨E, s1, s2, s3, s4⟩ := store_var (P := Try.prog) (t := 27) (o := 0) (x := v4) (cs := [v4]) hxD (one_cells p2.one) sz27 (by simp) (by simp [p2.one])
    have s3 : E.blk[hp]? = some ⟨[v4, .int .i64 g, .snil, .snil], .var⟩ := s3
    simp only [RT, Nat.reduceLT, Nat.reduceBEq, Nat.reduceEqDiff, Nat.reduceAdd, Int.reduceEq, Int.reduceLT, Int.reduceLE, Int.reduceGT, Int.reduceGE, h3, h5, fH, ldH hbx, bslPt, p1, s1, h4]
    have hts : Fr (TS (fun _ => False) (fun f => fal = some f) B') B' D := p3.mono fun z q => TS.famO (fun f q => q) q
    have hts2 : Fr (TS (· = hp) (fun _ => False) D) D E := s2.mono fun z q => TS.row (Bx := (· = hp)) hxD rfl q
    have hXR : ∀ j, j < i + 1 → ∀ f, XR (upd vbs i vb j) (upd fks i fk j) f → fal ≠ some f := fun j hj f q => by
      by_cases e : j = i
      · subst e; rw [upd_at, upd_at] at q; exact hxn fk hfk f q
      · rw [upd_ne _ _ e, upd_ne _ _ e] at q; exact hP.hx j (by omega) f q
    have hhb : ∀ j, j < i + 1 → upd rps i rp j ≠ hp ∧ upd cps i cp j ≠ hp := fun j hj => by
      by_cases e : j = i
      · subst e; rw [upd_at, upd_at]; exact ⟨hrph, by omega⟩
      · rw [upd_ne _ _ e, upd_ne _ _ e]; exact hP.hb j (by omega)
    have hAB := hP.fr.len
    refine ⟨g - (i + 1), by omega, i + 1, upd rps i rp, upd cps i cp, upd vbs i vb, upd rs i r, upd fks i fk, v4, fal', rfl, by omega, by rw [wrapS (by omega)], h0, ?_⟩
    have hF2 := hF.trans hts fun x q => .inr (TS.new hw hF (fun b q => q.elim) (fun f q => hP.nf f q) q)
    refine { fr := hF2.row_ s2 hP.nhp, box := s3, all := by rw [upd_map]; exact p2.fr s2 (.box hxD), rds := (hRd.ts hts (fun j _ => ⟨fun q => q, fun q => q⟩) hXR).ts hts2 (fun j hj => hhb j hj) (fun j hj f q w => w), nhp := hP.nhp, nr := fun j hj => ?_, nf := fun f q => ?_, hb := hhb, hx := fun j hj f q w => ?_, calm := fun j hj => ?_ }
    · by_cases e : j = i
      · subst e; rw [upd_at, upd_at, upd_at]
        exact ⟨⟨hrpn, fun a ha => by have := hN.2 a ha; omega⟩, fun f q => by have := hfk f q; omega⟩
      · rw [upd_ne _ _ e, upd_ne _ _ e, upd_ne _ _ e]; exact hP.nr j (by omega)
    · rcases p4.or q with y | y
      · exact hP.nf f y
      · omega
    · rcases p4.or w with y | y
      · exact hXR j hj f q y
      · have := (hRd.rd j hj).xlt q; omega
    · by_cases e : j = i
      · subst e; rw [upd_at]; exact hCa
      · rw [upd_ne _ _ e]; exact hP.calm j (by omega)
  · rintro z e B hz ⟨rfl, h3, rps, cps, vbs, rs, fks, av, fal, hP⟩
    have wB := hP.fr.wf hw
    have fp := Fr.pushArr B (reps g fun _ => bc z32)
    have rp1 := push_row B ⟨reps g fun _ => bc z32, .arr B.blk.length 0⟩
    have so1 := Sole.new (cs := reps g fun _ => bc z32) wB
    have pl1 := push_len B ⟨reps g fun _ => bc z32, .arr B.blk.length 0⟩
    have hg5 : g = 1 ∨ g = 3 ∨ g = 4 ∨ g = 5 ∨ g = 7 := by rw [hgg]; unfold flts; omega
    obtain ⟨D, s1, s2, s3, s4⟩ := store_var (P := Try.prog) (t := 26) (o := 3) (x := .sl B.blk.length 0 g 32) (cs := [.sl B.blk.length 0 g 32]) (fp.row0 hP.box) rfl sz26 (by simp) rfl
    have s3 : D.blk[hp]? = some ⟨[av, .int .i64 g, .snil, .sl B.blk.length 0 g 32], .var⟩ := s3
    simp only [RT, Nat.reduceLT, Nat.reduceBEq, Nat.reduceEqDiff, Nat.reduceAdd, Int.reduceEq, Int.reduceLT, Int.reduceLE, Int.reduceGT, Int.reduceGE, h3, fH, ldH hP.box, mslDn hg5, s1]
    have hb0 := fp.row0 hP.box
    have hhpB : hp < B.blk.length := row_lt hP.box
    have hts2 : Fr (TS (· = hp) (fun _ => False) (B.push ⟨reps g fun _ => bc z32, .arr B.blk.length 0⟩)) (B.push ⟨reps g fun _ => bc z32, .arr B.blk.length 0⟩) D := s2.mono fun z q => TS.row (Bx := (· = hp)) hb0 rfl q
    have hAB := hP.fr.len
    refine ⟨hp, rps, cps, vbs, rs, fks, fal, B.blk.length, rfl, { box := ⟨av, .snil, s3, (hP.all.fr0 fp).fr s2 (.box hb0), .nil⟩, row := s2.rowNe rp1 (by omega), sole := so1.fr hts2 (fun q => q), dl := fun _ => z32_len, rds := (hP.rds.s0 fp).ts hts2 (fun j hj => hP.hb j hj) (fun j hj f q w => w), hx := fun j hj f q => ⟨?_, (fun w => by cases w), hP.hx j hj f q⟩, hd := ⟨(fun w => by cases w), fun w => ?_⟩, hm := (fun f w => by cases w), hb := hP.hb, g7 := hgn.1 }, (hP.fr.then0 fp).row_ s2 hP.nhp, by omega, by omega, fun j hj => ⟨⟨(hP.nr j hj).1, fun f q => by have := (hP.nr j hj).2 f q; omega⟩, hP.calm j hj⟩⟩
    · have := (hP.rds.rd j hj).xlt q; omega
    · have := hP.all.famLt _ w; omega
end
end Go.Sv.Try
namespace Go.Sv.Try
open Go Go.Proofs
set_option linter.unusedVariables false
set_option linter.unusedSimpArgs false
section
variable {A0 A B C : AS} {n g hp : Nat} {rps cps : Nat → Nat} {vbs : Nat → Nat → Nat} {rs : Nat → Rd} {fks : Nat → Option Nat} {fal fm : Option Nat} {db : Nat} {ml : List Ml} {dn : Nat → Bts} {s : Nat → Led}
structure HI (A0 B : AS) (n g hp : Nat) (rps cps : Nat → Nat) (vbs : Nat → Nat → Nat) (fal : Option Nat) (db : Nat) (rs : Nat → Rd) (fks : Nat → Option Nat) (fm : Option Nat) (ml : List Ml) (dn : Nat → Bts) (s : Nat → Led) : Prop where
  hall : IsHall B hp g rps cps vbs rs fks fal fm db ml dn
  ok : HOk n g s rs ml dn
  fr : Fr S0 A0 B
  nr : ∀ j, j < g → NewR A0 (rps j) (vbs j) ∧ ∀ f, fks j = some f → A0.blk.length ≤ f
  nh : A0.blk.length ≤ hp ∧ A0.blk.length ≤ db
  nm : ∀ f, fm = some f → A0.blk.length ≤ f
theorem HI.s0 (h : HI A0 B n g hp rps cps vbs fal db rs fks fm ml dn s) (hf : Fr S0 B C) : HI A0 C n g hp rps cps vbs fal db rs fks fm ml dn s :=
  { h with hall := h.hall.s0 hf, fr := h.fr.then0 hf }
def KH (hp g : Nat) (rps : Nat → Nat) (A B : AS) : Prop := ∀ (b : Nat) (cs : List V), A.blk[b]? = some ⟨cs, .var⟩ → b ≠ hp → (∀ j, j < g → b ≠ rps j) → B.blk[b]? = some ⟨cs, .var⟩
theorem KH.of0 (h : Fr S0 A B) : KH hp g rps A B := fun b cs q _ _ => h.row0 q
theorem KH.trans (h : KH hp g rps A B) (k : KH hp g rps B C) : KH hp g rps A C := fun b cs q w z => k b cs (h b cs q w z) w z
theorem HI.act (hw : WF A0) (h : HI A0 B n g hp rps cps vbs fal db rs fks fm ml dn s) {i : Nat} (hi : i < g) {x : RIn} (hf : Fair g s i x) {w : V} (k : GRes B (rps i) (cps i) (vbs i) (fks i) none C ((rs i).give x) w) :
    KH hp g rps B C ∧ ∃ w' D, EvF Try.prog HH 14 [.ptr hp 0, .int .i64 (i : Int), w] C w' D ∧ KH hp g rps B D ∧ ∃ rs' fks' fm' ml' dn' s', HI A0 D n g hp rps cps vbs fal db rs' fks' fm' ml' dn' s' := by
  obtain ⟨fk', fo, j1, j2, j3, j4, j5⟩ := h.hall.give hi k
  have kh1 : KH hp g rps B C := fun b cs q w z => j5.row _ _ q (TS.box q fun y => z i hi y)
  have hFC := h.fr.trans j5 fun y q => .inr (TS.new hw h.fr (fun b q => by rw [show b = rps i from q]; exact (h.nr i hi).1.1) (fun f q => XR.new (h.nr i hi).1 (h.nr i hi).2 q) q)
  have hrng := h.ok.rng i hi
  have hac := h.ok.acts i hi
  obtain ⟨w', D, t1, fm', t2, t3⟩ := take_spec (hFC.wf hw) j1 hi j2 j3 h.ok.mlen (by have := give_len hrng hac x; omega)
  obtain ⟨s', hok⟩ := h.ok.step hi hf
  refine ⟨kh1, w', D, t1, kh1.trans fun b cs q w z => t3.box q w, _, _, fm', _, _, s', ⟨t2, hok, ?_, fun j hj => ⟨(h.nr j hj).1, fun f q => ?_⟩, h.nh, fun f q => ?_⟩⟩
  · exact hFC.trans t3.fr fun y q => .inr (TS.new hw hFC (fun b q => by rw [show b = hp from q]; exact h.nh.1) (fun f q => by
      rcases q with q | q
      · rw [q]; exact h.nh.2
      · exact h.nm f q) q)
  · by_cases e : j = i
    · subst e
      rw [upd_at] at q
      rcases j4.or q with y | y
      · exact (h.nr j hj).2 f y
      · have := h.fr.len; omega
    · rw [upd_ne _ _ e] at q; exact (h.nr j hj).2 f q
  · rcases t3.gr.or q with y | y
    · exact h.nm f y
    · have := hFC.len; omega
theorem give3 (r : Rd) (R K W : Int) (id : Bts) : r.give ⟨3, R, K, W, 0, id⟩ = r.Voted R K W id := rfl
theorem give2 (r : Rd) (R v : Int) (id : Bts) : r.give ⟨2, R, 0, 0, v, id⟩ = r.Offered R v id := rfl
theorem give4 (r : Rd) (R K : Int) : r.give ⟨4, R, K, 0, 0, z32⟩ = r.Timeout R K := rfl
theorem give0 (r : Rd) (id : Bts) : r.give ⟨0, 0, 0, 0, 0, id⟩ = r.Begin id := rfl
theorem faMl (b : Nat) : evFieldAddr Try.prog 44 (.ptr b 0) 0 = some (.ptr b 0) ∧ evFieldAddr Try.prog 44 (.ptr b 0) 1 = some (.ptr b 1) ∧ evFieldAddr Try.prog 44 (.ptr b 0) 2 = some (.ptr b 2)
    ∧ evFieldAddr Try.prog 42 (.ptr b 2) 0 = some (.ptr b 2) ∧ evFieldAddr Try.prog 42 (.ptr b 2) 1 = some (.ptr b 3) ∧ evFieldAddr Try.prog 42 (.ptr b 2) 2 = some (.ptr b 4) ∧ evFieldAddr Try.prog 42 (.ptr b 2) 3 = some (.ptr b 5) ∧ evFieldAddr Try.prog 42 (.ptr b 2) 4 = some (.ptr b 6) := ⟨by kernel_rfl, by kernel_rfl, by kernel_rfl, by kernel_rfl, by kernel_rfl, by kernel_rfl, by kernel_rfl, by kernel_rfl⟩
theorem ldMl {b : Nat} {k : BK} {x : Ml} (hb : A.blk[b]? = some ⟨mlC x, k⟩) (h : x.act.id.length = 32) : evLoad Try.prog 3 (.ptr b 0) A = some (.int .i64 x.src) ∧ evLoad Try.prog 3 (.ptr b 1) A = some (.int .i64 x.dst) ∧ evLoad Try.prog 3 (.ptr b 2) A = some (.int .i64 x.act.kind) ∧ evLoad Try.prog 3 (.ptr b 3) A = some (.int .i64 x.act.round) ∧ evLoad Try.prog 3 (.ptr b 4) A = some (.int .i64 x.act.num) ∧ evLoad Try.prog 3 (.ptr b 5) A = some (.int .i64 x.act.valid) ∧ evLoad Try.prog 39 (.ptr b 6) A = some (.agg (bc x.act.id)) :=
  ⟨by rw [load_at ag3 hb]; rfl, by rw [load_at ag3 hb]; rfl, by rw [load_at ag3 hb]; rfl, by rw [load_at ag3 hb]; rfl, by rw [load_at ag3 hb]; rfl, by rw [load_at ag3 hb]; rfl, At.load hb (o := 6) ⟨[.int .i64 x.src, .int .i64 x.dst, .int .i64 x.act.kind, .int .i64 x.act.round, .int .i64 x.act.num, .int .i64 x.act.valid], [], by simp [mlC, actC], rfl⟩ ag39 sz39 (by rw [bc_len, h])⟩
theorem HI.at (h : HI A0 B n g hp rps cps vbs fal db rs fks fm ml dn s) {av mv : V} (hb : B.blk[hp]? = some ⟨[av, .int .i64 g, mv, .sl db 0 g 32], .var⟩) (hl : Lst ePt Hp.emp B av ((List.range g).map rps) fal) (hf : Fr S0 B C) {i : Nat} (hi : i < g) :
    ∃ b o, evIndexAddr Try.prog 27 av (.int .i64 (i : Int)) = some (.ptr b o) ∧ evLoad Try.prog 31 (.ptr b o) C = some (.ptr (rps i) 0) := by
  obtain ⟨b, o, c, g3, g4, g5⟩ := (hl.fr0 hf).at (P := Try.prog) (k := .i64) (x := rps i) (i := i) (Hp.on_emp C) Try.underlying27 sz31 ag31 (by rw [List.getElem?_map, List.getElem?_range hi]; rfl)
  rw [ePt_W.1 g5] at g4
  exact ⟨b, o, g3, g4⟩
set_option maxRecDepth 10000 in
set_option maxHeartbeats 16000000 in
theorem come_spec (hw : WF A0) (h : HI A0 B n g hp rps cps vbs fal db rs fks fm ml dn s) {m : Ml} (hm : m ∈ ml) (hid : m.act.id.length = 32) :
    ∃ w' D, EvF Try.prog HH 19 [.ptr hp 0, .agg (mlC m)] B w' D ∧ KH hp g rps B D ∧ ∃ rs' fks' fm' ml' dn' s', HI A0 D n g hp rps cps vbs fal db rs' fks' fm' ml' dn' s' := by
  obtain ⟨y1, y2, y3⟩ := h.ok.mls m hm
  refine run_fn2 rfl Try.func19 (by unfold Try.f19; rfl) Try.ntmps19 (by unfold Try.f19; rfl) (by simp) ?_
  simp only [RT, Nat.reduceLT, Nat.reduceBEq, Nat.reduceEqDiff, Nat.reduceAdd, Int.reduceEq, Int.reduceLT, Int.reduceLE, Int.reduceGT, Int.reduceGE]
  obtain ⟨A1, e1, f1, r1, n1⟩ := new_var B (mlC m)
  rw [← e1]
  have h1 := h.s0 f1
  obtain ⟨av, mv, b1, b2, b3⟩ := h1.hall.box
  have hhp : hp < B.blk.length := by obtain ⟨_, _, q, _⟩ := h.hall.box; exact row_lt q
  have hrp : ∀ j, j < g → rps j < B.blk.length := fun j hj => by obtain ⟨_, _, q, _⟩ := (h.hall.rds.rd j hj).box; exact row_lt q
  have fM := faMl B.blk.length
  have la := ldMl r1 hid
  have fH := faH hp
  have ldh := ldH b1
  obtain ⟨b, o, g3, g4⟩ := h1.at b1 b2 (.refl _ _) y2
  have hR := h1.hall.rds.rd m.dst y2
  have hrng := h.ok.rng m.dst y2
  have hac := h.ok.acts m.dst y2
  have hl0 : (rs m.dst).acts.length ≤ 100000 := by rw [hac]; simp
  have hbx : ∀ {D : AS}, KH hp g rps A1 D → D.blk[B.blk.length]? = some ⟨mlC m, .var⟩ := fun k => k _ _ r1 (by omega) fun j hj q => by have := hrp j hj; omega
  have w1 := f1.wf (h.fr.wf hw)
  rw [pl_19_1, run_plan_id (by rfl)]
  simp only [RT, Nat.reduceLT, Nat.reduceBEq, Nat.reduceEqDiff, Nat.reduceAdd, Int.reduceEq, Int.reduceLT, Int.reduceLE, Int.reduceGT, Int.reduceGE, fH, ldh, fM, la, g3, g4]
  by_cases k2 : m.act.kind = 2
  · obtain ⟨w, C, p1, p2⟩ := voted_spec (R := m.act.round) (K := m.act.num) (W := (m.src : Int)) w1 hR hrng hl0 hid
    rw [← give3] at p2
    obtain ⟨kh1, w', D, t1, t2, t3⟩ := h1.act hw y2 (x := ⟨3, m.act.round, m.act.num, m.src, 0, m.act.id⟩) ⟨by show ¬ ((3 : Int) = 6); omega, fun _ j hj hne hwho => by
      have hwho : (m.src : Int) = (j : Int) := hwho
      have e : m.src = j := by omega
      have := y3 k2
      rw [e] at this
      exact this⟩ p2
    have la2 := ldMl (hbx kh1) hid
    simp only [RT, Nat.reduceLT, Nat.reduceBEq, Nat.reduceEqDiff, Nat.reduceAdd, Int.reduceEq, Int.reduceLT, Int.reduceLE, Int.reduceGT, Int.reduceGE, decide_eq_true k2, pl_19_3, fM, la, rc_nil]
    refine run_call1 p1 ?_
    simp only [RT, Nat.reduceLT, Nat.reduceBEq, Nat.reduceEqDiff, Nat.reduceAdd, Int.reduceEq, Int.reduceLT, Int.reduceLE, Int.reduceGT, Int.reduceGE, rc_nil]
    refine ⟨rc_load (ha := rfl) rfl la2.2.1 rfl rc_nil, ?_⟩
    refine run_call1 t1 ?_
    simp only [RT, Nat.reduceLT, Nat.reduceBEq, Nat.reduceEqDiff, Nat.reduceAdd, Int.reduceEq, Int.reduceLT, Int.reduceLE, Int.reduceGT, Int.reduceGE, rc_nil]
    exact ⟨(KH.of0 f1).trans t2, t3⟩
  · obtain ⟨w, C, p1, p2⟩ := offered_spec (R := m.act.round) (val := m.act.valid) w1 hR hrng hl0 hid
    rw [← give2] at p2
    obtain ⟨kh1, w', D, t1, t2, t3⟩ := h1.act hw y2 (x := ⟨2, m.act.round, 0, 0, m.act.valid, m.act.id⟩) ⟨by show ¬ ((2 : Int) = 6); omega, fun q => absurd q (by show ¬ ((2 : Int) = 3); omega)⟩ p2
    have la2 := ldMl (hbx kh1) hid
    simp only [RT, Nat.reduceLT, Nat.reduceBEq, Nat.reduceEqDiff, Nat.reduceAdd, Int.reduceEq, Int.reduceLT, Int.reduceLE, Int.reduceGT, Int.reduceGE, decide_eq_false k2, pl_19_4, fM, la, rc_nil]
    refine run_call1 p1 ?_
    simp only [RT, Nat.reduceLT, Nat.reduceBEq, Nat.reduceEqDiff, Nat.reduceAdd, Int.reduceEq, Int.reduceLT, Int.reduceLE, Int.reduceGT, Int.reduceGE, rc_nil]
    refine ⟨rc_load (ha := rfl) rfl la2.2.1 rfl rc_nil, ?_⟩
    refine run_call1 t1 ?_
    simp only [RT, Nat.reduceLT, Nat.reduceBEq, Nat.reduceEqDiff, Nat.reduceAdd, Int.reduceEq, Int.reduceLT, Int.reduceLE, Int.reduceGT, Int.reduceGE, rc_nil]
    exact ⟨(KH.of0 f1).trans t2, t3⟩
end
end Go.Sv.Try
namespace Go.Sv.Try
open Go Go.Proofs
set_option linter.unusedVariables false
set_option linter.unusedSimpArgs false
abbrev MvP := Int × Int × Int × Int × Int × Int × Bts
def mvC (x : MvP) : List V := .int .i64 x.1 :: .int .i64 x.2.1 :: .int .i64 x.2.2.1 :: .int .i64 x.2.2.2.1 :: .int .i64 x.2.2.2.2.1 :: .int .i64 x.2.2.2.2.2.1 :: bc x.2.2.2.2.2.2
def eMv : Enc MvP := ePair (eInt .i64) (ePair (eInt .i64) (ePair (eInt .i64) (ePair (eInt .i64) (ePair (eInt .i64) (ePair (eInt .i64) (eB 32 (by decide)))))))
theorem eMv_W {m : Hp} {w : V} {x : MvP} (h : eMv.W m w x) : w = .agg (mvC x) ∧ x.2.2.2.2.2.2.length = 32 := by
  obtain ⟨cs, rfl, h⟩ := h
  obtain ⟨_, _, rfl, rfl, _, _, rfl, rfl, _, _, rfl, rfl, _, _, rfl, rfl, _, _, rfl, rfl, _, _, rfl, rfl, rfl, h⟩ := h
  exact ⟨rfl, h⟩
def shMv : Sh := .struct [(.int .i64, 0, 1), (.int .i64, 1, 1), (.int .i64, 2, 1), (.int .i64, 3, 1), (.int .i64, 4, 1), (.int .i64, 5, 1), (.arr 32 (.int .u8) 1, 6, 32)] 38
def MvIn (x : MvP) : Prop := IntIn .i64 x.1 ∧ IntIn .i64 x.2.1 ∧ IntIn .i64 x.2.2.1 ∧ IntIn .i64 x.2.2.2.1 ∧ IntIn .i64 x.2.2.2.2.1 ∧ IntIn .i64 x.2.2.2.2.2.1
def bulkMv (_ : MvP) : Nat := 1
theorem Reads.mv : Reads eMv shMv MvIn bulkMv :=
  Reads.weak (Reads.struct (.cons (Reads.int .i64) rfl rfl (.cons (Reads.int .i64) rfl rfl (.cons (Reads.int .i64) rfl rfl (.cons (Reads.int .i64) rfl rfl (.cons (Reads.int .i64) rfl rfl (.cons (Reads.int .i64) rfl rfl (.last (Reads.bytes 32 (by decide)) rfl))))))) rfl)
    (fun _ h => ⟨h.1, h.2.1, h.2.2.1, h.2.2.2.1, h.2.2.2.2.1, h.2.2.2.2.2.1⟩) fun o => by
      show 1 ≤ _ + 1
      omega
theorem mvC_len {x : MvP} (h : x.2.2.2.2.2.2.length = 32) : (mvC x).length = 38 := by simp [mvC, bc_len, h]
theorem mvC_one (x : MvP) : (mvC x).all V.one = true := by simp only [mvC, List.all_cons, bc_one]; rfl
def mv0 : MvP := (0, 0, 0, 0, 0, 0, z32)
theorem zcMv : (zeroT Try.prog 51).bind V.cells = some (mvC mv0) := zc51
theorem newMv {A : AS} {a : MvP} (h : a.2.2.2.2.2.2.length = 32) : ∃ A', evStore Try.prog 51 (.ptr A.blk.length 0) (.agg (mvC a)) (A.push ⟨mvC mv0, .var⟩) = some A' ∧ Fr S0 A A' ∧ A'.blk[A.blk.length]? = some ⟨mvC a, .var⟩ := by
  obtain ⟨A2, s1, s2, s3, s4⟩ := new_set (P := Try.prog) A (z := mvC mv0) (t := 51) (x := .agg (mvC a)) (cs := mvC a) rfl (by rw [mvC_len h]; exact sz51) (by rw [mvC_len h, mvC_len (x := mv0) z32_len]) (mvC_one a)
  exact ⟨A2, s1, s2, s3⟩
theorem faMv (b : Nat) : evFieldAddr Try.prog 51 (.ptr b 0) 0 = some (.ptr b 0) ∧ evFieldAddr Try.prog 51 (.ptr b 0) 1 = some (.ptr b 1) ∧ evFieldAddr Try.prog 51 (.ptr b 0) 2 = some (.ptr b 2) ∧ evFieldAddr Try.prog 51 (.ptr b 0) 3 = some (.ptr b 3) ∧ evFieldAddr Try.prog 51 (.ptr b 0) 4 = some (.ptr b 4) ∧ evFieldAddr Try.prog 51 (.ptr b 0) 5 = some (.ptr b 5) ∧ evFieldAddr Try.prog 51 (.ptr b 0) 6 = some (.ptr b 6) := ⟨by kernel_rfl, by kernel_rfl, by kernel_rfl, by kernel_rfl, by kernel_rfl, by kernel_rfl, by kernel_rfl⟩
theorem ldMv {A : AS} {b : Nat} {k : BK} {x : MvP} (hb : A.blk[b]? = some ⟨mvC x, k⟩) (h : x.2.2.2.2.2.2.length = 32) : evLoad Try.prog 3 (.ptr b 0) A = some (.int .i64 x.1) ∧ evLoad Try.prog 3 (.ptr b 1) A = some (.int .i64 x.2.1) ∧ evLoad Try.prog 3 (.ptr b 2) A = some (.int .i64 x.2.2.1) ∧ evLoad Try.prog 3 (.ptr b 3) A = some (.int .i64 x.2.2.2.1) ∧ evLoad Try.prog 3 (.ptr b 4) A = some (.int .i64 x.2.2.2.2.1) ∧ evLoad Try.prog 3 (.ptr b 5) A = some (.int .i64 x.2.2.2.2.2.1) ∧ evLoad Try.prog 39 (.ptr b 6) A = some (.agg (bc x.2.2.2.2.2.2)) :=
  ⟨by rw [load_at ag3 hb]; rfl, by rw [load_at ag3 hb]; rfl, by rw [load_at ag3 hb]; rfl, by rw [load_at ag3 hb]; rfl, by rw [load_at ag3 hb]; rfl, by rw [load_at ag3 hb]; rfl, At.load hb (o := 6) ⟨[.int .i64 x.1, .int .i64 x.2.1, .int .i64 x.2.2.1, .int .i64 x.2.2.2.1, .int .i64 x.2.2.2.2.1, .int .i64 x.2.2.2.2.2.1], [], by simp [mvC], rfl⟩ ag39 sz39 (by rw [bc_len, h])⟩
theorem pEqHl (b : Nat) : evEq Try.prog 25 (.ptr b 0) .pnil = some false := by kernel_rfl
theorem hok0 {n : Nat} {rs : Nat → Rd} (hok : okN n) (h : ∀ j, j < n - flts n → Calm n j (rs j)) : ∃ s, HOk n (n - flts n) s rs [] fun _ => z32 := by
  have : ∀ j, ∃ s : Led, j < n - flts n → Mt s (rs j) ∧ Hist n j s ∧ s.v = v0 := fun j => by
    by_cases q : j < n - flts n
    · obtain ⟨s, hs⟩ := (h j q).led
      exact ⟨s, fun _ => hs⟩
    · exact ⟨led0, fun w => absurd w q⟩
  obtain ⟨s, hs⟩ := Classical.axiomOfChoice this
  refine ⟨s, ⟨⟨hok, fun i hi => (hs i hi).2.1, fun i j hi hj R K q => ?_⟩, rfl, fun i hi => (hs i hi).1, fun i hi => (h i hi).rng, fun i hi => (h i hi).acts, fun i hi => (h i hi).nm, fun m hm => (by cases hm), by simp, fun i hi q => absurd rfl q⟩⟩
  rw [(hs i hi).2.2] at q; exact absurd rfl q
theorem cnvK {k : Nat} (hk : k = 1 ∨ k = 2 ∨ k = 3 ∨ k = 4) (A : AS) : cnv Try.prog 3 5 (some (.int .i64 (k : Int))) A = some (.val (.int .u8 (k : Int))) := by
  rcases hk with rfl | rfl | rfl | rfl <;> kernel_rfl
theorem lenDn {B : AS} {b g : Nat} : evLen Try.prog 26 (.sl b 0 g 32) B = some (.int .i64 (g : Int)) := by kernel_rfl
theorem ldDn {B : AS} {b g i : Nat} {k : BK} {dn : Nat → Bts} (hb : B.blk[b]? = some ⟨reps g fun i => bc (dn i), k⟩) (hl : ∀ i, (dn i).length = 32) (hi : i < g) : evLoad Try.prog 39 (.ptr b (i * 32)) B = some (.agg (bc (dn i))) :=
  At.load hb (At.rep (n := g) (k := 32) (f := fun i => bc (dn i)) (fun i _ => by rw [bc_len, hl]) hi) ag39 sz39 (by rw [bc_len, hl])
set_option maxRecDepth 10000 in
set_option maxHeartbeats 64000000 in
theorem roundAgree_spec {m : Hp} {A : AS} {v : V} {l : List MvP} (hw : WF A) (hm : m.on A) (h : Slc eMv m v l) (hin : ∀ x ∈ l, MvIn x) {n : Int} : ∃ w A', EvF Try.prog HH 4 [.int .i64 n, v] A w A' ∧ w = .bool true := by
  refine run_fn2 rfl Try.func4 (by unfold Try.f4; rfl) Try.ntmps4 (by unfold Try.f4; rfl) (by simp) ?_
  simp only [RT, Nat.reduceLT, Nat.reduceBEq, Nat.reduceEqDiff, Nat.reduceAdd, Int.reduceEq, Int.reduceLT, Int.reduceLE, Int.reduceGT, Int.reduceGE]
  refine run_call1 (evF_ground rfl) ?_
  have hlen := fun B => h.len (P := Try.prog) Try.underlying48 B
  by_cases q47 : n = 4 ∨ n = 7
  rotate_left
  · simp only [RT, Nat.reduceLT, Nat.reduceBEq, Nat.reduceEqDiff, Nat.reduceAdd, Int.reduceEq, Int.reduceLT, Int.reduceLE, Int.reduceGT, Int.reduceGE, decide_eq_true (show ¬ (n = 4) from fun q => q47 (.inl q)), decide_eq_true (show ¬ (n = 7) from fun q => q47 (.inr q))]
  obtain ⟨n, rfl⟩ := Int.eq_ofNat_of_zero_le (show 0 ≤ n by omega)
  have hn47 : n = 4 ∨ n = 7 := by omega
  have two : (n : Int) = 4 ∨ ¬ (n : Int) = 4 := Decidable.em _
  rcases two with q4 | q4
  simp only [RT, Nat.reduceLT, Nat.reduceBEq, Nat.reduceEqDiff, Nat.reduceAdd, Int.reduceEq, Int.reduceLT, Int.reduceLE, Int.reduceGT, Int.reduceGE, decide_eq_false (show ¬ ¬ ((n : Int) = 4) from fun z => z q4), hlen]
  rotate_left
  simp only [RT, Nat.reduceLT, Nat.reduceBEq, Nat.reduceEqDiff, Nat.reduceAdd, Int.reduceEq, Int.reduceLT, Int.reduceLE, Int.reduceGT, Int.reduceGE, decide_eq_true q4, decide_eq_false (show ¬ ¬ ((n : Int) = 7) by omega), hlen]
  rotate_left
  all_goals
    refine condK_of (fun g1 => ?_) (fun g1 => ?_)
    · simp only [RT, Nat.reduceLT, Nat.reduceBEq, Nat.reduceEqDiff, Nat.reduceAdd, Int.reduceEq, Int.reduceLT, Int.reduceLE, Int.reduceGT, Int.reduceGE]
    have hok : okN n := by unfold okN; omega
    obtain ⟨_, A1, k1, hp, rps, cps, vbs, rs, fks, fal, db, rfl, k2, k3, k4, k5, k6⟩ := open_spec hw hn47
    simp only [RT, Nat.reduceLT, Nat.reduceBEq, Nat.reduceEqDiff, Nat.reduceAdd, Int.reduceEq, Int.reduceLT, Int.reduceLE, Int.reduceGT, Int.reduceGE]
    refine run_call1 k1 ?_
    simp only [RT, Nat.reduceLT, Nat.reduceBEq, Nat.reduceEqDiff, Nat.reduceAdd, Int.reduceEq, Int.reduceLT, Int.reduceLE, Int.reduceGT, Int.reduceGE, pEqHl, hlen]
    obtain ⟨s0, hs0⟩ := hok0 hok fun j hj => (k6 j hj).2
    have H0 : HI A A1 n (n - flts n) hp rps cps vbs fal db rs fks none [] (fun _ => z32) s0 := ⟨k2, hs0, k3, fun j hj => (k6 j hj).1, ⟨k4, k5⟩, fun f q => by cases q⟩
    obtain ⟨g, hgg⟩ : ∃ g, g = n - flts n := ⟨_, rfl⟩
    rw [← hgg] at H0
    refine run_loop_j (fun z e B => ∃ (i : Nat) (rs : Nat → Rd) (fks : Nat → Option Nat) (fm : Option Nat) (ml : List Ml) (dn : Nat → Bts) (s : Nat → Led), z = l.length - i ∧ i ≤ l.length ∧ e.get 34 = .int .i64 i ∧ e.get 0 = .int .i64 (n : Int) ∧ e.get 5 = .ptr hp 0 ∧ e.get 32 = v ∧ e.get 33 = .int .i64 l.length ∧ HI A B n g hp rps cps vbs fal db rs fks fm ml dn s)
      (fun z e B => Is z (.exit 0) ∧ e.get 5 = .ptr hp 0 ∧ ∃ (rs : Nat → Rd) (fks : Nat → Option Nat) (fm : Option Nat) (ml : List Ml) (dn : Nat → Bts) (s : Nat → Led), HI A B n g hp rps cps vbs fal db rs fks fm ml dn s)
      ⟨_, 0, _, _, _, _, _, _, rfl, by omega, rfl, rfl, rfl, rfl, rfl, H0⟩ ?_ ?_
    · rintro z e B ⟨i, rs, fks, fm, ml, dn, s, rfl, hi, h34, h0, h5, h32, h33, hI⟩
      simp only [RT, Nat.reduceLT, Nat.reduceBEq, Nat.reduceEqDiff, Nat.reduceAdd, Int.reduceEq, Int.reduceLT, Int.reduceLE, Int.reduceGT, Int.reduceGE, h33, h34]
      refine condK_of (fun g2 => ?_) (fun g2 => ?_)
      rotate_left
      · simp only [RT, Nat.reduceLT, Nat.reduceBEq, Nat.reduceEqDiff, Nat.reduceAdd, Int.reduceEq, Int.reduceLT, Int.reduceLE, Int.reduceGT, Int.reduceGE]
        refine ⟨rfl, h5, rs, fks, fm, ml, dn, s, ?_⟩
        assumption
      have hg7 := hI.hall.g7
      obtain ⟨x, hx⟩ := get_lt (l := l) (i := i) (by omega)
      obtain ⟨b, o, c, g3, g4, g5⟩ := h.at (P := Try.prog) (k := .i64) (hm.fr0 hI.fr) Try.underlying48 sz51 ag51 hx
      obtain ⟨rfl, hid⟩ := eMv_W g5
      obtain ⟨x1, x2, x3, x4, x5, x6⟩ := hin x (List.mem_of_getElem? hx)
      obtain ⟨C, t1, t2, t3⟩ := newMv (A := B) hid
      have fM := faMv B.blk.length
      have la := ldMv t3 hid
      have hIC := hI.s0 t2
      obtain ⟨av, mv, b1, b2, b3⟩ := hIC.hall.box
      have fH := faH hp
      have ldh := ldH b1
      have hwi : IntKind.i64.wrap ((i : Int) + 1) = ((i + 1 : Nat) : Int) := by rw [wrapS (by omega)]
      have hhp : hp < B.blk.length := by obtain ⟨_, _, q, _⟩ := hI.hall.box; exact row_lt q
      have hrp : ∀ j, j < g → rps j < B.blk.length := fun j hj => by obtain ⟨_, _, q, _⟩ := (hI.hall.rds.rd j hj).box; exact row_lt q
      have hbx : ∀ {D : AS}, KH hp g rps C D → D.blk[B.blk.length]? = some ⟨mvC x, .var⟩ := fun k => k _ _ t3 (by omega) fun j hj q => by have := hrp j hj; omega
      have hml := fun B => b3.len (P := Try.prog) Try.underlying28 B
      simp only [RT, Nat.reduceLT, Nat.reduceBEq, Nat.reduceEqDiff, Nat.reduceAdd, Int.reduceEq, Int.reduceLT, Int.reduceLE, Int.reduceGT, Int.reduceGE, h32, h34, g3, g4, zcMv, t1, fM, la]
      by_cases k1 : x.1 = 1
      · simp only [RT, Nat.reduceLT, Nat.reduceBEq, Nat.reduceEqDiff, Nat.reduceAdd, Int.reduceEq, Int.reduceLT, Int.reduceLE, Int.reduceGT, Int.reduceGE, decide_eq_true k1]
        rw [pl_4_12, run_plan_id (by rfl)]
        by_cases a0 : x.2.2.1 ≥ 0
        rotate_left
        · simp only [RT, Nat.reduceLT, Nat.reduceBEq, Nat.reduceEqDiff, Nat.reduceAdd, Int.reduceEq, Int.reduceLT, Int.reduceLE, Int.reduceGT, Int.reduceGE, fM, la, decide_eq_false a0, h34, hwi]
          refine ⟨l.length - (i + 1), by omega, i + 1, rs, fks, fm, ml, dn, s, rfl, by omega, ?_⟩
          and_intros <;> first | rfl | assumption
        by_cases a1 : x.2.2.1 < (ml.length : Int)
        rotate_left
        · simp only [RT, Nat.reduceLT, Nat.reduceBEq, Nat.reduceEqDiff, Nat.reduceAdd, Int.reduceEq, Int.reduceLT, Int.reduceLE, Int.reduceGT, Int.reduceGE, fM, la, decide_eq_true a0, h5, fH, ldh, hml, decide_eq_false a1, h34, hwi]
          refine ⟨l.length - (i + 1), by omega, i + 1, rs, fks, fm, ml, dn, s, rfl, by omega, ?_⟩
          and_intros <;> first | rfl | assumption
        obtain ⟨at_, hat⟩ := Int.eq_ofNat_of_zero_le a0
        obtain ⟨m1, hm1⟩ := get_lt (l := ml) (i := at_) (by omega)
        obtain ⟨b', o', c', i3, i4, i5⟩ := b3.at (P := Try.prog) (k := .i64) (Hp.on_emp C) Try.underlying28 sz44 ag44 hm1
        obtain ⟨rfl, hmid⟩ := eMl_W.1 i5
        rw [← hat] at i3
        obtain ⟨w', D, c1, c2, rs', fks', fm', ml', dn', s', hI'⟩ := come_spec hw hIC (List.mem_of_getElem? hm1) hmid
        simp only [RT, Nat.reduceLT, Nat.reduceBEq, Nat.reduceEqDiff, Nat.reduceAdd, Int.reduceEq, Int.reduceLT, Int.reduceLE, Int.reduceGT, Int.reduceGE, fM, la, decide_eq_true a0, h5, fH, ldh, hml, decide_eq_true a1]
        rw [pl_4_13, run_plan_id (by rfl)]
        simp only [RT, Nat.reduceLT, Nat.reduceBEq, Nat.reduceEqDiff, Nat.reduceAdd, Int.reduceEq, Int.reduceLT, Int.reduceLE, Int.reduceGT, Int.reduceGE, fM, la, h5, fH, ldh, i3, i4]
        refine run_call1 c1 ?_
        simp only [RT, Nat.reduceLT, Nat.reduceBEq, Nat.reduceEqDiff, Nat.reduceAdd, Int.reduceEq, Int.reduceLT, Int.reduceLE, Int.reduceGT, Int.reduceGE, h34, hwi]
        refine ⟨l.length - (i + 1), by omega, i + 1, rs', fks', fm', ml', dn', s', rfl, by omega, ?_⟩
        and_intros <;> first | rfl | assumption
      simp only [RT, Nat.reduceLT, Nat.reduceBEq, Nat.reduceEqDiff, Nat.reduceAdd, Int.reduceEq, Int.reduceLT, Int.reduceLE, Int.reduceGT, Int.reduceGE, decide_eq_false k1]
      rw [pl_4_14, run_plan_id (by rfl)]
      by_cases a0 : x.2.1 < 0
      · simp only [RT, Nat.reduceLT, Nat.reduceBEq, Nat.reduceEqDiff, Nat.reduceAdd, Int.reduceEq, Int.reduceLT, Int.reduceLE, Int.reduceGT, Int.reduceGE, fM, la, decide_eq_true a0, h34, hwi]
        refine ⟨l.length - (i + 1), by omega, i + 1, rs, fks, fm, ml, dn, s, rfl, by omega, ?_⟩
        and_intros <;> first | rfl | assumption
      by_cases a1 : x.2.1 ≥ (g : Int)
      · simp only [RT, Nat.reduceLT, Nat.reduceBEq, Nat.reduceEqDiff, Nat.reduceAdd, Int.reduceEq, Int.reduceLT, Int.reduceLE, Int.reduceGT, Int.reduceGE, fM, la, decide_eq_false a0, h5, fH, ldh, decide_eq_true a1, h34, hwi]
        refine ⟨l.length - (i + 1), by omega, i + 1, rs, fks, fm, ml, dn, s, rfl, by omega, ?_⟩
        and_intros <;> first | rfl | assumption
      obtain ⟨who, hwho⟩ := Int.eq_ofNat_of_zero_le (show 0 ≤ x.2.1 by omega)
      have hwg : who < g := by omega
      have law : evLoad Try.prog 3 (.ptr B.blk.length 1) C = some (.int .i64 (who : Int)) := by rw [la.2.1, hwho]
      obtain ⟨b', o', i3, i4⟩ := hIC.at b1 b2 (.refl _ _) hwg
      simp only [RT, Nat.reduceLT, Nat.reduceBEq, Nat.reduceEqDiff, Nat.reduceAdd, Int.reduceEq, Int.reduceLT, Int.reduceLE, Int.reduceGT, Int.reduceGE, fM, la, decide_eq_false a0, h5, fH, ldh, decide_eq_false a1]
      rw [pl_4_15, run_plan_id (by rfl)]
      simp only [RT, Nat.reduceLT, Nat.reduceBEq, Nat.reduceEqDiff, Nat.reduceAdd, Int.reduceEq, Int.reduceLT, Int.reduceLE, Int.reduceGT, Int.reduceGE, fM, law, h5, fH, ldh, i3, i4, la.1]
      have hR := hIC.hall.rds.rd who hwg
      have hrng := hIC.ok.rng who hwg
      have hac := hIC.ok.acts who hwg
      have hl0 : (rs who).acts.length ≤ 100000 := by rw [hac]; simp
      have wC := hIC.fr.wf hw
      have la1 : ∀ {D : AS}, KH hp g rps C D → evLoad Try.prog 3 (.ptr B.blk.length 1) D = some (.int .i64 (who : Int)) := fun k => by rw [(ldMv (hbx k) hid).2.1, hwho]
      by_cases c0 : x.1 = 0
      · have hrem : evBin Try.prog .rem 3 (.int .i64 (who : Int)) (.int .i64 4) = some (.int .i64 ((who % 4 : Nat) : Int)) := by rw [bi_rem, if_neg (by omega)]; rfl
        have hw1 : IntKind.i64.wrap (1 + ((who % 4 : Nat) : Int)) = ((1 + who % 4 : Nat) : Int) := by rw [wrapI (by omega) (by omega)]; omega
        have hk : 1 + who % 4 = 1 ∨ 1 + who % 4 = 2 ∨ 1 + who % 4 = 3 ∨ 1 + who % 4 = 4 := by omega
        obtain ⟨w, E, p1, p2⟩ := begin1_spec wC hR hrng hl0 (idK_len (1 + who % 4))
        rw [← give0] at p2
        obtain ⟨kh1, w', D, u1, u2, rs', fks', fm', ml', dn', s', hI'⟩ := hIC.act hw hwg ⟨by show ¬ ((0 : Int) = 6); omega, fun q => absurd q (by show ¬ ((0 : Int) = 3); omega)⟩ p2
        simp only [RT, Nat.reduceLT, Nat.reduceBEq, Nat.reduceEqDiff, Nat.reduceAdd, Int.reduceEq, Int.reduceLT, Int.reduceLE, Int.reduceGT, Int.reduceGE, decide_eq_true c0, pl_4_18, fM, law, h5, hrem, hw1, cnvK hk, bldIk (show 1 + who % 4 < 256 by omega), rc_nil]
        refine run_call1 p1 ?_
        simp only [RT, Nat.reduceLT, Nat.reduceBEq, Nat.reduceEqDiff, Nat.reduceAdd, Int.reduceEq, Int.reduceLT, Int.reduceLE, Int.reduceGT, Int.reduceGE, rc_nil]
        refine ⟨rc_load (ha := rfl) rfl (la1 kh1) rfl rc_nil, ?_⟩
        refine run_call1 u1 ?_
        simp only [RT, Nat.reduceLT, Nat.reduceBEq, Nat.reduceEqDiff, Nat.reduceAdd, Int.reduceEq, Int.reduceLT, Int.reduceLE, Int.reduceGT, Int.reduceGE, rc_nil, h34, hwi]
        refine ⟨l.length - (i + 1), by omega, i + 1, rs', fks', fm', ml', dn', s', rfl, by omega, ?_⟩
        and_intros <;> first | rfl | assumption
      by_cases c2 : x.1 = 2
      · obtain ⟨_, _, j1, rfl, rfl⟩ := where_spec hR
        obtain ⟨w, E, p1, p2⟩ := timeout_spec (R := (rs who).now) (K := x.2.2.2.1) wC hR hrng hl0
        rw [← give4] at p2
        obtain ⟨kh1, w', D, u1, u2, rs', fks', fm', ml', dn', s', hI'⟩ := hIC.act hw hwg ⟨by show ¬ ((4 : Int) = 6); omega, fun q => absurd q (by show ¬ ((4 : Int) = 3); omega)⟩ p2
        simp only [RT, Nat.reduceLT, Nat.reduceBEq, Nat.reduceEqDiff, Nat.reduceAdd, Int.reduceEq, Int.reduceLT, Int.reduceLE, Int.reduceGT, Int.reduceGE, decide_eq_false c0, decide_eq_true c2]
        refine run_call1 j1 ?_
        simp only [RT, Nat.reduceLT, Nat.reduceBEq, Nat.reduceEqDiff, Nat.reduceAdd, Int.reduceEq, Int.reduceLT, Int.reduceLE, Int.reduceGT, Int.reduceGE, pl_4_21, fM, law, la.2.2.2.1, h5, rc_nil]
        refine run_call1 p1 ?_
        simp only [RT, Nat.reduceLT, Nat.reduceBEq, Nat.reduceEqDiff, Nat.reduceAdd, Int.reduceEq, Int.reduceLT, Int.reduceLE, Int.reduceGT, Int.reduceGE, rc_nil]
        refine ⟨rc_load (ha := rfl) rfl (la1 kh1) rfl rc_nil, ?_⟩
        refine run_call1 u1 ?_
        simp only [RT, Nat.reduceLT, Nat.reduceBEq, Nat.reduceEqDiff, Nat.reduceAdd, Int.reduceEq, Int.reduceLT, Int.reduceLE, Int.reduceGT, Int.reduceGE, rc_nil, h34, hwi]
        refine ⟨l.length - (i + 1), by omega, i + 1, rs', fks', fm', ml', dn', s', rfl, by omega, ?_⟩
        and_intros <;> first | rfl | assumption
      by_cases c3 : x.1 = 3
      · obtain ⟨F, hF⟩ : ∃ F : Int, F = (n : Int) - (g : Int) := ⟨_, rfl⟩
        have hF12 : F = 1 ∨ F = 2 := by rw [hF, hgg]; unfold flts; omega
        have hab : ∀ a : Int, -2 < a.tmod F ∧ a.tmod F < 2 := fun a => by
          have e := Int.natAbs_tmod a F
          have hm : a.natAbs % F.natAbs < F.natAbs := Nat.mod_lt _ (by omega)
          omega
        have hs1 : IntKind.i64.wrap ((n : Int) - (g : Int)) = F := by rw [hF]; exact wrapI (by omega) (by omega)
        have hrm : ∀ a : Int, evBin Try.prog .rem 3 (.int .i64 a) (.int .i64 F) = some (.int .i64 (a.tmod F)) := fun a => by rw [bi_rem, if_neg (by omega)]
        obtain ⟨t, ht⟩ : ∃ t, t = (x.2.2.1).tmod F := ⟨_, rfl⟩
        have ht2 := hab x.2.2.1
        rw [← ht] at ht2
        have hs2 : IntKind.i64.wrap (t + (n : Int)) = t + n := wrapI (by omega) (by omega)
        have hs3 : IntKind.i64.wrap (t + (n : Int) - (g : Int)) = t + n - g := wrapI (by omega) (by omega)
        obtain ⟨u, hu⟩ : ∃ u, u = (t + (n : Int) - (g : Int)).tmod F := ⟨_, rfl⟩
        have hu2 := hab (t + (n : Int) - (g : Int))
        have hu3 : 0 ≤ u := by rw [hu]; exact Int.tmod_nonneg _ (by
          have e := Int.natAbs_tmod x.2.2.1 F
          have hm : (x.2.2.1).natAbs % F.natAbs < F.natAbs := Nat.mod_lt _ (by omega)
          omega)
        rw [← hu] at hu2
        have hs4 : IntKind.i64.wrap ((g : Int) + u) = g + u := wrapI (by omega) (by omega)
        obtain ⟨w, E, p1, p2⟩ := voted_spec (R := x.2.2.2.2.1) (K := x.2.2.2.1) (W := (g : Int) + u) wC hR hrng hl0 hid
        rw [← give3] at p2
        obtain ⟨kh1, w', D, u1, u2, rs', fks', fm', ml', dn', s', hI'⟩ := hIC.act hw hwg ⟨by show ¬ ((3 : Int) = 6); omega, fun _ j hj _ q => by
          have q : (g : Int) + u = (j : Int) := q
          omega⟩ p2
        simp only [RT, Nat.reduceLT, Nat.reduceBEq, Nat.reduceEqDiff, Nat.reduceAdd, Int.reduceEq, Int.reduceLT, Int.reduceLE, Int.reduceGT, Int.reduceGE, decide_eq_false c0, decide_eq_false c2, decide_eq_true c3]
        rw [pl_4_23, run_plan_id (by rfl)]
        simp only [RT, Nat.reduceLT, Nat.reduceBEq, Nat.reduceEqDiff, Nat.reduceAdd, Int.reduceEq, Int.reduceLT, Int.reduceLE, Int.reduceGT, Int.reduceGE, h5, fH, ldh, fM, la.2.2.1, h0, hs1, hrm, ← ht, hs2, hs3, ← hu, hs4]
        simp only [RT, Nat.reduceLT, Nat.reduceBEq, Nat.reduceEqDiff, Nat.reduceAdd, Int.reduceEq, Int.reduceLT, Int.reduceLE, Int.reduceGT, Int.reduceGE, pl_4_24, fM, law, la, h5, rc_nil]
        refine run_call1 p1 ?_
        simp only [RT, Nat.reduceLT, Nat.reduceBEq, Nat.reduceEqDiff, Nat.reduceAdd, Int.reduceEq, Int.reduceLT, Int.reduceLE, Int.reduceGT, Int.reduceGE, rc_nil]
        refine ⟨rc_load (ha := rfl) rfl (la1 kh1) rfl rc_nil, ?_⟩
        refine run_call1 u1 ?_
        simp only [RT, Nat.reduceLT, Nat.reduceBEq, Nat.reduceEqDiff, Nat.reduceAdd, Int.reduceEq, Int.reduceLT, Int.reduceLE, Int.reduceGT, Int.reduceGE, rc_nil, h34, hwi]
        refine ⟨l.length - (i + 1), by omega, i + 1, rs', fks', fm', ml', dn', s', rfl, by omega, ?_⟩
        and_intros <;> first | rfl | assumption
      by_cases c4 : x.1 = 4
      · obtain ⟨_, _, j1, rfl, rfl⟩ := proposer_spec (A := C) (n := (n : Int)) (h := 5) (k := x.2.2.2.2.1) (by omega) (by omega) (by omega) (by omega) x5.1 x5.2
        simp only [RT, Nat.reduceLT, Nat.reduceBEq, Nat.reduceEqDiff, Nat.reduceAdd, Int.reduceEq, Int.reduceLT, Int.reduceLE, Int.reduceGT, Int.reduceGE, decide_eq_false c0, decide_eq_false c2, decide_eq_false c3, decide_eq_true c4, pl_4_26, fM, la, h5, h0, fH, ldh, rc_nil]
        refine run_call1 j1 ?_
        simp only [RT, Nat.reduceLT, Nat.reduceBEq, Nat.reduceEqDiff, Nat.reduceAdd, Int.reduceEq, Int.reduceLT, Int.reduceLE, Int.reduceGT, Int.reduceGE, rc_nil]
        refine ⟨rc_load (ha := rfl) rfl ldh.2.1 rfl rc_nil, ?_⟩
        by_cases c5 : proposer n 5 x.2.2.2.2.1 ≥ (g : Int)
        rotate_left
        · simp only [RT, Nat.reduceLT, Nat.reduceBEq, Nat.reduceEqDiff, Nat.reduceAdd, Int.reduceEq, Int.reduceLT, Int.reduceLE, Int.reduceGT, Int.reduceGE, rc_nil, decide_eq_false c5, h34, hwi]
          refine ⟨l.length - (i + 1), by omega, i + 1, rs, fks, fm, ml, dn, s, rfl, by omega, ?_⟩
          and_intros <;> first | rfl | assumption
        obtain ⟨w, E, p1, p2⟩ := offered_spec (R := x.2.2.2.2.1) (val := x.2.2.2.2.2.1) wC hR hrng hl0 hid
        rw [← give2] at p2
        obtain ⟨kh1, w', D, u1, u2, rs', fks', fm', ml', dn', s', hI'⟩ := hIC.act hw hwg ⟨by show ¬ ((2 : Int) = 6); omega, fun q => absurd q (by show ¬ ((2 : Int) = 3); omega)⟩ p2
        simp only [RT, Nat.reduceLT, Nat.reduceBEq, Nat.reduceEqDiff, Nat.reduceAdd, Int.reduceEq, Int.reduceLT, Int.reduceLE, Int.reduceGT, Int.reduceGE, rc_nil, decide_eq_true c5, pl_4_27, fM, law, la, h5]
        refine run_call1 p1 ?_
        simp only [RT, Nat.reduceLT, Nat.reduceBEq, Nat.reduceEqDiff, Nat.reduceAdd, Int.reduceEq, Int.reduceLT, Int.reduceLE, Int.reduceGT, Int.reduceGE, rc_nil]
        refine ⟨rc_load (ha := rfl) rfl (la1 kh1) rfl rc_nil, ?_⟩
        refine run_call1 u1 ?_
        simp only [RT, Nat.reduceLT, Nat.reduceBEq, Nat.reduceEqDiff, Nat.reduceAdd, Int.reduceEq, Int.reduceLT, Int.reduceLE, Int.reduceGT, Int.reduceGE, rc_nil, h34, hwi]
        refine ⟨l.length - (i + 1), by omega, i + 1, rs', fks', fm', ml', dn', s', rfl, by omega, ?_⟩
        and_intros <;> first | rfl | assumption
      simp only [RT, Nat.reduceLT, Nat.reduceBEq, Nat.reduceEqDiff, Nat.reduceAdd, Int.reduceEq, Int.reduceLT, Int.reduceLE, Int.reduceGT, Int.reduceGE, decide_eq_false c0, decide_eq_false c2, decide_eq_false c3, decide_eq_false c4, h34, hwi]
      refine ⟨l.length - (i + 1), by omega, i + 1, rs, fks, fm, ml, dn, s, rfl, by omega, ?_⟩
      and_intros <;> first | rfl | assumption
    · rintro z e B hz ⟨rfl, h5, rs, fks, fm, ml, dn, s, hI⟩
      obtain ⟨av, mv, b1, b2, b3⟩ := hI.hall.box
      have hg7 := hI.hall.g7
      have hdl := hI.hall.dl
      obtain ⟨C, t1, t2, t3⟩ := newId (A := B) z32_len
      simp only [RT, Nat.reduceLT, Nat.reduceBEq, Nat.reduceEqDiff, Nat.reduceAdd, Int.reduceEq, Int.reduceLT, Int.reduceLE, Int.reduceGT, Int.reduceGE, bldZ, zcI, t1, h5, faH hp, ldH (t2.row0 b1), lenDn]
      refine run_loop_j (fun z e B' => ∃ (i : Nat) (f : Bts), z = g - i ∧ i ≤ g ∧ e.get 189 = .int .i64 i ∧ e.get 12 = .ptr B.blk.length 0 ∧ e.get 187 = .sl db 0 g 32 ∧ e.get 188 = .int .i64 g ∧ B'.blk[B.blk.length]? = some ⟨bc f, .var⟩ ∧ f.length = 32 ∧ B'.blk[db]? = some ⟨reps g fun i => bc (dn i), .arr db 0⟩ ∧ (f = z32 ∨ ∃ j, j < g ∧ f = dn j))
        (fun z e B' => Is z (.exit 3))
        ⟨_, 0, z32, rfl, by omega, rfl, rfl, rfl, rfl, t3, z32_len, t2.row0 hI.hall.row, .inl rfl⟩ ?_ ?_
      rotate_left
      · rintro z e B' hz rfl
        simp only [RT, Nat.reduceLT, Nat.reduceBEq, Nat.reduceEqDiff, Nat.reduceAdd, Int.reduceEq, Int.reduceLT, Int.reduceLE, Int.reduceGT, Int.reduceGE]
      rintro z e B' ⟨i, f, rfl, hi, h189, h12, h187, h188, hbf, hfl, hrow, hf⟩
      simp only [RT, Nat.reduceLT, Nat.reduceBEq, Nat.reduceEqDiff, Nat.reduceAdd, Int.reduceEq, Int.reduceLT, Int.reduceLE, Int.reduceGT, Int.reduceGE, h188, h189]
      refine condK_of (fun g2 => ?_) (fun g2 => ?_)
      rotate_left
      · simp only [RT, Nat.reduceLT, Nat.reduceBEq, Nat.reduceEqDiff, Nat.reduceAdd, Int.reduceEq, Int.reduceLT, Int.reduceLE, Int.reduceGT, Int.reduceGE]
        rfl
      have hig : i < g := by omega
      have hwi : IntKind.i64.wrap ((i : Int) + 1) = ((i + 1 : Nat) : Int) := by rw [wrapS (by omega)]
      obtain ⟨D, u1, u2, u3⟩ := newId (A := B') (hdl i)
      have ldd := ldDn hrow hdl hig
      have ld1 := ldId u3 (hdl i)
      have ld2 := ldId (u2.row0 hbf) hfl
      by_cases c0 : dn i = z32
      · simp only [RT, Nat.reduceLT, Nat.reduceBEq, Nat.reduceEqDiff, Nat.reduceAdd, Int.reduceEq, Int.reduceLT, Int.reduceLE, Int.reduceGT, Int.reduceGE, h187, h189, ixDn hig, ldd, zcI, u1, ld1, bldZ, eqZ (hdl i) z32_len, decide_eq_true c0, hwi]
        refine ⟨g - (i + 1), by omega, i + 1, f, rfl, by omega, ?_⟩
        have y1 := u2.row0 hbf
        have y2 := u2.row0 hrow
        and_intros <;> first | rfl | assumption
      obtain ⟨E, v1, v2, v3⟩ := setId (u2.row0 hbf) hfl (hdl i)
      have y2 := v2.row _ _ (u2.row0 hrow) (fun q => by
        injection q with q
        rw [q, hbf] at hrow
        injection hrow with hrow; injection hrow with _ k; cases k)
      have y3 : dn i = z32 ∨ ∃ j, j < g ∧ dn i = dn j := .inr ⟨i, hig, rfl⟩
      by_cases c1 : f = z32
      · simp only [RT, Nat.reduceLT, Nat.reduceBEq, Nat.reduceEqDiff, Nat.reduceAdd, Int.reduceEq, Int.reduceLT, Int.reduceLE, Int.reduceGT, Int.reduceGE, h187, h189, ixDn hig, ldd, zcI, u1, ld1, bldZ, eqZ (hdl i) z32_len, decide_eq_false c0, h12, ld2, eqZ hfl z32_len, decide_eq_true c1, v1, hwi]
        refine ⟨g - (i + 1), by omega, i + 1, dn i, rfl, by omega, ?_⟩
        and_intros <;> first | rfl | assumption | exact hdl i
      · have hfe : dn i = f := by
          rcases hf with q | ⟨j, hj, q⟩
          · exact absurd q c1
          · rw [q] at c1 ⊢
            exact hI.ok.agree hig hj c0 c1
        simp only [RT, Nat.reduceLT, Nat.reduceBEq, Nat.reduceEqDiff, Nat.reduceAdd, Int.reduceEq, Int.reduceLT, Int.reduceLE, Int.reduceGT, Int.reduceGE, h187, h189, ixDn hig, ldd, zcI, u1, ld1, bldZ, eqZ (hdl i) z32_len, decide_eq_false c0, h12, ld2, eqZ hfl z32_len, decide_eq_false c1, eqZ (hdl i) hfl, decide_eq_true hfe, v1, hwi]
        refine ⟨g - (i + 1), by omega, i + 1, dn i, rfl, by omega, ?_⟩
        and_intros <;> first | rfl | assumption | exact hdl i
end Go.Sv.Try
