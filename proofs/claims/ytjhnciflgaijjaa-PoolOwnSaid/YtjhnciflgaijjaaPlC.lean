/- PoolOwn, on the abstract machine. -/
import Derived.Test.YtjhnciflgaijjaaPlB
set_option linter.unusedSimpArgs false
set_option linter.unusedVariables false
open Nat renaming reduceLT → Q0, reduceBEq → Q1, reduceEqDiff → Q2, reduceAdd → Q3
open Int renaming reduceEq → Q4, reduceLT → Q5, reduceLE → Q6, reduceGT → Q7, reduceGE → Q8
namespace Go.Sv.Try
open Go Go.Proofs
structure OwI (Zx : Nat -> Prop) (A B : AS) (pp b6 : Nat) (P : List Bts) (fo : Option Nat) (ov : V) (fx : Option Nat) : Prop where
 fr : Fr S0 A B
 po : IsPo (fun f => Zx f ∨ fx = some f) B pp P fo
 bx : B.blk[b6]? = some ⟨[ov], .var⟩
 li : Lst eStr Hp.emp B ov P fx
 d : ∀ f, fo = some f -> fx ≠ some f
 dz : ∀ f, Zx f -> fo ≠ some f /\ fx ≠ some f
 ne : b6 ≠ pp
 l1 : A.blk.length <= pp
 l2 : A.blk.length <= b6
 lo : ∀ f, fo = some f -> A.blk.length <= f
 lx : ∀ f, fx = some f -> A.blk.length <= f
section
variable {A B C : AS} {m : Hp} {Zx Zy : Nat -> Prop} {pp b6 : Nat} {P : List Bts} {fo fx : Option Nat} {S : Loc -> Prop} {ov : V}
theorem BV7 (y : UInt8) : ∃ z : UInt8, IntKind.u8.wrap ((y.toNat : Int) + 1) = (z.toNat : Int) :=
 ⟨UInt8.ofNat (y.toNat + 1), by rw [show (y.toNat : Int) + 1 = ((y.toNat + 1 : Nat) : Int) from rfl, AJ2]⟩
theorem OwI.oth (h : OwI Zx A B pp b6 P fo ov fx) (hw : WF A) (hf : Fr S B C) (h1 : ¬ S (.row pp)) (h2 : ¬ S (.row b6)) (hT : Tch Zx B S) (hA : ∀ z, S z -> z.newTo A) (hY : ∀ f, Zy f -> Zx f ∨ B.blk.length <= f) : OwI Zy A C pp b6 P fo ov fx := by
 have hwB := h.fr.wf hw
 have lo := h.po.lt.2
 have lx := h.li.famLt
 exact { h with fr := h.fr.trans hf fun z q => .inr (hA z q), po := h.po.oth hwB hf h1 (hT.mono fun f q => .inl q) (fun f q z => z.elim (fun z => (h.dz f z).1 q) (h.d f q)) (fun f q => q.elim (fun q => (hY f q).imp .inl id) fun q => .inl (.inr q)), bx := hf.row _ _ h.bx h2, li := h.li.fr hf (.tch hT fun f q z => (h.dz f z).2 q), dz := fun f q => (hY f q).elim (h.dz f) fun q => ⟨fun z => by have := lo f z; omega, fun z => by have := lx f z; omega⟩ }
theorem OwI.fr0 (h : OwI Zx A B pp b6 P fo ov fx) (hw : WF A) (hf : Fr S0 B C) : OwI Zx A C pp b6 P fo ov fx := h.oth hw hf (fun q => q) (fun q => q) .s0 (fun z q => q.elim) (fun f q => .inl q)
theorem OwI.off {f0 : Nat} (h : OwI (fun _ => False) A B pp b6 P fo ov fx) (hw : WF A) (hf : Fr S0 B C) (hn : B.blk.length <= f0) : OwI (· = f0) A C pp b6 P fo ov fx := h.oth hw hf (fun q => q) (fun q => q) .s0 (fun z q => q.elim) (fun f q => by subst q; exact .inr hn)
theorem OwI.on_ (h : OwI Zx A B pp b6 P fo ov fx) (hw : WF A) : OwI (fun _ => False) A B pp b6 P fo ov fx := h.oth hw (.refl S0 B) (fun q => q) (fun q => q) .s0 (fun z q => q.elim) (fun f q => q.elim)
theorem OwI.loop {k : Nat} (h : OwI Zx A B pp b6 P fo ov fx) (hw : WF A) (hf : Fr (· = .loop k) B C) (hk : A.loops.length <= k) : OwI Zx A C pp b6 P fo ov fx := h.oth hw hf (fun q => by cases q) (fun q => by cases q) (fun b k q => by cases q) (fun z q => by subst q; exact hk) (fun f q => .inl q)
theorem OwI.box {b : Nat} {cs : List V} (h : OwI Zx A B pp b6 P fo ov fx) (hw : WF A) (hf : Fr (· = .row b) B C) (hb : B.blk[b]? = some ⟨cs, .var⟩) (h1 : b ≠ pp /\ b ≠ b6) (h2 : A.blk.length <= b) : OwI Zx A C pp b6 P fo ov fx :=
 h.oth hw hf (fun q => by cases q; exact h1.1 rfl) (fun q => by cases q; exact h1.2 rfl) (.box hb) (fun z q => by subst q; exact h2) (fun f q => .inl q)
theorem OwI.row {f0 b base : Nat} {cs : List V} (h : OwI (· = f0) A B pp b6 P fo ov fx) (hw : WF A) (hf : Fr (· = .row b) B C) (hb : B.blk[b]? = some ⟨cs, .arr f0 base⟩) (hbn : A.blk.length <= b) : OwI (· = f0) A C pp b6 P fo ov fx := by
 obtain ⟨lv, h1, _⟩ := h.po.ex
 have hx := h.bx
 exact h.oth hw hf (fun q => by cases q; rw [h1] at hb; cases hb) (fun q => by cases q; rw [hx] at hb; cases hb) (fun i k q hk => by cases q; rw [hb] at hk; cases hk; exact .inr ⟨f0, base, rfl, rfl⟩) (fun z q => by subst q; exact hbn) (fun f q => .inl q)
theorem OwI.put (h : OwI Zx A B pp b6 P fo ov fx) (hw : WF A) (hZ : ∀ f, Zx f -> f < B.blk.length) (hm : m.on B) {v : V} {x : Bts} (hv : Slc eU8 m v x) (hx : x.length <= 1000000000) :
 ∃ C fo', EvF Try.prog HH 26 [.ptr pp 0, v] B (.int .i64 (putC P x)) C /\ Fr (poS B pp fo) B C /\ IsPo (fun f => Zx f ∨ fx = some f) C pp (putP P x) fo' /\ Lst eStr Hp.emp C ov P fx /\ C.blk[b6]? = some ⟨[ov], .var⟩ /\ Fr S0 A C /\ (∀ f, fo' = some f -> fx ≠ some f) /\ (∀ f, Zx f -> fo' ≠ some f /\ fx ≠ some f) /\ ∀ f, fo' = some f -> A.blk.length <= f := by
 have hwB := h.fr.wf hw
 have lx := h.li.famLt
 obtain ⟨_, C, k, rfl, f, fo', k1, k2⟩ := Ay0 hwB (fun g q => q.elim (hZ g) (lx g)) h.po hm hv hx
 obtain ⟨lv, y1, _⟩ := h.po.ex
 have hAB := h.fr.len
 refine ⟨C, fo', k, f, k1, h.li.fr f (.or (.box y1) (As9 fun g q z => h.d g q z)), f.row _ _ h.bx (by
  rintro (q | q)
  . cases q; exact h.ne rfl
  . exact Aa7 h.bx q), h.fr.trans f fun z q => .inr (AY0 hw h.fr h.l1 h.lo z q), fun g q z => ?_, fun g q => ⟨fun z => ?_, (h.dz g q).2⟩, fun g q => ?_⟩
 . rcases k2.or q with y | y
   . exact h.d g y z
   . have := lx g z; omega
 . rcases k2.or z with y | y
   . exact (h.dz g q).1 y
   . have := hZ g q; omega
 . rcases k2.or q with y | y
   . exact h.lo g y
   . omega
set_option maxRecDepth 10000 in
set_option maxHeartbeats 32000000 in
theorem poolOwn_spec {v : V} {xs : List Bts} {most : Int} (hw0 : WF A) (hm0 : m.on A) (hl : Slc (eSl eU8) m v xs) :
 ∃ w A', EvF Try.prog HH 4 [v, .int .i64 most] A w A' /\ w = .bool true := by
 refine Aa3 rfl Try.func4 (by unfold Try.f4; rfl) Try.ntmps4 (by unfold Try.f4; rfl) (by simp) ?_
 have hlen := fun B => hl.len (P := Try.prog) Try.underlying22 B
 obtain ⟨Av, ev, fv, rv, nv⟩ := Aa9 A [.bool false]
 obtain ⟨b4, hb4⟩ : ∃ b, b = A.blk.length := ⟨_, rfl⟩
 rw [<- hb4] at rv nv
 have out : ∀ {B : AS} (b : Bool), B.blk[b4]? = some ⟨[.bool false], .var⟩ -> ∃ C, evStore Try.prog 4 (.ptr b4 0) (.bool b) B = some C /\ evLoad Try.prog 4 (.ptr b4 0) C = some (.bool b) := fun {B} b h => by
  obtain ⟨C, t1, t2, t3, t4⟩ := Ae6 (P := Try.prog) (t := 4) (x := .bool b) h rfl sz4 rfl
  exact ⟨C, t1, Aa8 ag4 t3⟩
 obtain ⟨C0, o1, o2⟩ := out true rv
 have hw := fv.wf hw0
 have hm := hm0.fr0 fv
 simp only [RT, Q0, Q1, Q2, Q3, Q4, Q5, Q6, Q7, Q8, zc4, <- ev, <- hb4]
 refine Aa0 (A89 rfl) ?_
 by_cases c1 : (xs.length : Int) > 20
 . simp only [RT, Q0, Q1, Q2, Q3, Q4, Q5, Q6, Q7, Q8, hlen, decide_eq_true c1, o1, o2]
 clear o1 o2 C0
 obtain ⟨_, A1, k1, f1, rfl, p1⟩ := AQ8 (A := Av) (Z := fun f => False ∨ (none : Option Nat) = some f)
 obtain ⟨pp, hpp⟩ : ∃ b, b = Av.blk.length := ⟨_, rfl⟩
 rw [<- hpp] at k1 p1
 obtain ⟨A2, e2, f2, r2, n2⟩ := Aa9 A1 [.snil]
 obtain ⟨b6, hb6⟩ : ∃ b, b = A1.blk.length := ⟨_, rfl⟩
 rw [<- hb6] at r2
 have lpp := p1.lt.1
 have hI : OwI (fun _ => False) Av A2 pp b6 [] none .snil none := ⟨f1.then0 f2, p1.fr0 f2, r2, .nil, fun f q => (by cases q), fun f q => q.elim, by omega, by omega, by have := f1.len; omega, fun f q => (by cases q), fun f q => (by cases q)⟩
 have rvB : ∀ {C : AS}, Fr S0 Av C -> C.blk[b4]? = some ⟨[.bool false], .var⟩ := fun q => q.row0 rv
 simp only [RT, Q0, Q1, Q2, Q3, Q4, Q5, Q6, Q7, Q8, hlen, decide_eq_false c1]
 refine Aa0 k1 ?_
 simp only [RT, Q0, Q1, Q2, Q3, Q4, Q5, Q6, Q7, Q8, BY9, BZ8, <- e2, <- hb6, hlen]
 refine Aa2 (fun z e B => ∃ (i : Nat) (P : List Bts) (ov : V) (fo fx : Option Nat), z = xs.length - i /\ i <= xs.length /\ e.get 25 = .int .i64 i /\ e.get 24 = .int .i64 xs.length /\ e.get 23 = v /\ e.get 4 = .ptr b4 0 /\ e.get 5 = .ptr pp 0 /\ e.get 6 = .ptr b6 0 /\ e.get 1 = .int .i64 most /\ OwI (fun _ => False) Av B pp b6 P fo ov fx)
  (fun z e B => (Is z .ret /\ e.get 4 = .ptr b4 0 /\ evLoad Try.prog 4 (.ptr b4 0) B = some (.bool true)) ∨ (Is z (.exit 0) /\ ∃ (P : List Bts) (ov : V) (fo fx : Option Nat), e.get 4 = .ptr b4 0 /\ e.get 5 = .ptr pp 0 /\ e.get 6 = .ptr b6 0 /\ e.get 1 = .int .i64 most /\ OwI (fun _ => False) Av B pp b6 P fo ov fx))
  ⟨_, 0, [], .snil, none, none, rfl, by omega, rfl, rfl, rfl, by rw [hb4]; rfl, rfl, rfl, rfl, hI⟩ ?_ ?_
 . clear hI
   rintro z e B ⟨i, P, ov, fo, fx, rfl, hi, h25, h24, h23, h4, h5, h6, h1, hI⟩
   simp only [RT, Q0, Q1, Q2, Q3, Q4, Q5, Q6, Q7, Q8, h25, h24]
   refine Aa1 (fun q1 => ?_) (fun q1 => ?_)
   rotate_left
   . simp only [RT, Q0, Q1, Q2, Q3, Q4, Q5, Q6, Q7, Q8]
     exact .inr ⟨rfl, P, ov, fo, fx, h4, h5, h6, h1, hI⟩
   obtain ⟨x, hx⟩ := Ad3 (l := xs) (i := i) (by omega)
   have hmB := hm.fr0 hI.fr
   have wB := hI.fr.wf hw
   obtain ⟨b, o, c, y3, y4, y5⟩ := hl.at (P := Try.prog) (k := .i64) hmB Try.underlying22 A56 A16 hx
   rw [AU3] at y5
   have hcl := fun B => y5.len (P := Try.prog) Try.underlying44 B
   obtain ⟨C0, o1, o2⟩ := out true (rvB hI.fr)
   by_cases d1 : (x.length : Int) > 1000
   . simp only [RT, Q0, Q1, Q2, Q3, Q4, Q5, Q6, Q7, Q8, h23, h25, y3, y4, hcl, decide_eq_true d1, h4, o1]
     exact .inl ⟨rfl, o2⟩
   obtain ⟨br, C, z1, z2, z3, z4, z5⟩ := Ax2 (P := Try.prog) (t := 44) (tx := 44) wB Bi5 Try.underlying44 y5 hmB (by omega) (by omega)
   obtain ⟨f0, hf0⟩ : ∃ f, f = B.blk.length := ⟨_, rfl⟩
   rw [<- hf0] at z2 z3
   have hC := hI.off hw z5 (f0 := f0) (by omega)
   have hsl : Slc eU8 (arrHp C) (.sl br 0 x.length 1) x := (Au8 (X := fun _ => False) z2 (fun q => q)).mono (AE4 _ _)
   have hfC : f0 < C.blk.length := z3.1
   obtain ⟨D, fo', k3, f3, hP3, hL3, hb3, hf3, hd3, hz3, hlo3⟩ := hC.put hw (fun f q => by subst q; exact hfC) (Af1 C) hsl (by omega)
   have hwi : IntKind.i64.wrap ((i : Int) + 1) = ((i + 1 : Nat) : Int) := by rw [Ae4 (by omega)]
   have hlen2 : ∀ B, evLen Try.prog 44 (.sl br 0 x.length 1) B = some (.int .i64 (x.length : Nat)) := fun B => by unfold evLen; rw [Try.underlying44]
   have hbr : Av.blk.length <= br := by have := hI.fr.len; omega
   have hfoC := hC.po.lt.2
   have rD : D.blk[br]? = some ⟨bc x, .arr f0 0⟩ := f3.row _ _ z2 (by
    obtain ⟨lv, q1, _⟩ := hC.po.ex
    rintro (q | q)
    . cases q; rw [q1] at z2; simp at z2
    . cases hfo : fo with
      | none => rw [hfo] at q; exact q.elim
      | some g =>
       rw [hfo] at q
       obtain ⟨k, base, w1, w2⟩ := q
       rw [z2] at w1; cases w1; cases w2
       exact (hC.dz f0 rfl).1 hfo)
   have soD : Sole0 D br f0 := z3.fr f3 (by
    rintro (q | q)
    . cases q
    . cases hfo : fo with
      | none => rw [hfo] at q; exact q.elim
      | some g => rw [hfo] at q; have : f0 = g := q; subst this; exact (hC.dz f0 rfl).1 hfo)
   have hnote : ∃ (E : AS) (P' : List Bts) (ov' : V) (fx' : Option Nat), OwI (· = f0) Av E pp b6 P' fo' ov' fx' /\ E.blk[br]? = some ⟨bc x, .arr f0 0⟩ /\ Sole0 E br f0 /\ ((putC P x = 0 /\ ∃ F, evAppend Try.prog 43 43 ov (.sl D.blk.length 0 1 1) (D.push ⟨[.str x], .arr D.blk.length 0⟩) = some (ov', F) /\ evStore Try.prog 43 (.ptr b6 0) ov' F = some E) ∨ (¬ putC P x = 0 /\ E = D)) := by
    by_cases d2 : putC P x = 0
    . have e : putP P x = P ++ [x] := if_pos d2
      rw [e] at hP3
      have wD := hf3.wf hw
      have hPl := hI.po.ok.len
      obtain ⟨ov', F, fx', p1, p2, p3, p4⟩ := hL3.push (P := Try.prog) (t := 43) (tx := 43) (n := 1) rfl BN6 Try.underlying43 wD (y := x) (cs' := [.str x]) rfl (by omega) (by omega)
      have bF := p3.row _ _ hb3 (Aa7 hb3)
      obtain ⟨E, s1, s2, s3, _⟩ := Ae6 (P := Try.prog) (t := 43) (x := ov') bF (one_cells p2.one) BZ7 p2.one
      obtain ⟨lv, q1, _⟩ := hP3.ex
      have hne := hI.ne
      have hlx := hL3.famLt
      have hloD := hP3.lt.2
      have lAD := hf3.len
      have fF : Fr S0 Av F := hf3.newFam hw p3 hC.lx
      have hPF : IsPo (fun f => f = f0 ∨ fx' = some f) F pp (P ++ [x]) fo' := hP3.oth wD p3 (Aa7 q1) (.famO fun f q => .inr q) (fun f q z => z.elim (fun z => (hz3 f z).1 q) (hd3 f q)) (fun f q => q.elim (fun q => .inl (.inl q)) fun q => (p4.or q).imp .inr id)
      have hlD := Ab9 rD
      refine ⟨E, P ++ [x], ov', fx', ⟨fF.trans s2 fun z q => .inr (by subst q; exact hI.l2), ?_, s3, p2.fr s2 (.box bF), fun f q z => ?_, fun f q => ⟨(hz3 f q).1, fun z => ?_⟩, hne, hI.l1, hI.l2, hlo3, fun f q => ?_⟩, ?_, ?_, .inl ⟨d2, F, p1, s1⟩⟩
      . obtain ⟨lv', q1', _⟩ := hPF.ex
        exact hPF.frO s2 (fun q => by cases q; exact hne rfl) (.box bF) (Ae3 s2 (.box bF) (fF.wf hw) fun f q => .inl q)
      . rcases p4.or z with y | y
        . exact hd3 f q y
        . have := hloD f q; omega
      . rcases p4.or z with y | y
        . exact (hz3 f q).2 y
        . subst q; have := soD.1; omega
      . rcases p4.or q with y | y
        . exact hC.lx f y
        . omega
      . refine s2.row _ _ (p3.row _ _ rD ?_) (fun q => by cases q; rw [hb3] at rD; simp at rD)
        intro q
        cases hfx : fx with
        | none => rw [hfx] at q; exact q.elim
        | some g =>
         rw [hfx] at q
         obtain ⟨k, base, w1, w2⟩ := q
         rw [rD] at w1; cases w1; cases w2
         exact (hz3 f0 rfl).2 hfx
      . refine (soD.fr p3 ?_).fr s2 (fun q => by cases q)
        intro q
        cases hfx : fx with
        | none => rw [hfx] at q; exact q.elim
        | some g => rw [hfx] at q; have : f0 = g := q; subst this; exact (hz3 f0 rfl).2 hfx
    . have e : putP P x = P := if_neg d2
      rw [e] at hP3
      exact ⟨D, P, ov, fx, ⟨hf3, hP3, hb3, hL3, hd3, hz3, hI.ne, hI.l1, hI.l2, hlo3, hC.lx⟩, rD, soD, .inr ⟨d2, rfl⟩⟩
   obtain ⟨E, P', ov', fx', hE, rE, soE, hcase⟩ := hnote
   have hcv := AN3 (P := Try.prog) (A := D) (s := 44) (d := 9) (by decide) y5 (hm.fr0 hf3) Try.underlying44 Try.underlying5 Try.underlying9
   simp only [RT, Q0, Q1, Q2, Q3, Q4, Q5, Q6, Q7, Q8, h23, h25, y3, y4, hcl, decide_eq_false d1, Bt8, z1, h5]
   refine Aa0 k3 ?_
   simp only [RT, Q0, Q1, Q2, Q3, Q4, Q5, Q6, Q7, Q8]
   refine AV0 (fun z e F => Is z .normal /\ F = E /\ e.get 25 = .int .i64 i /\ e.get 24 = .int .i64 xs.length /\ e.get 23 = v /\ e.get 4 = .ptr b4 0 /\ e.get 5 = .ptr pp 0 /\ e.get 6 = .ptr b6 0 /\ e.get 1 = .int .i64 most /\ e.get 9 = .sl br 0 x.length 1) ?_ ?_
   . rcases hcase with ⟨d2, F, p1, s1⟩ | ⟨d2, rfl⟩
     . simp only [RT, Q0, Q1, Q2, Q3, Q4, Q5, Q6, Q7, Q8, decide_eq_true d2, h6, Aa8 BM4 hb3, hcv, Bt6, p1, s1]
       and_intros <;> first | rfl | assumption
     . simp only [RT, Q0, Q1, Q2, Q3, Q4, Q5, Q6, Q7, Q8, decide_eq_false d2]
       and_intros <;> first | rfl | assumption
   clear h25 h24 h23 h4 h5 h6 h1 hcase
   rintro z e F ⟨rfl, rfl, h25, h24, h23, h4, h5, h6, h1, h9⟩
   simp only [RT, Q0, Q1, Q2, Q3, Q4, Q5, Q6, Q7, Q8, h9, hlen2]
   refine Aa2 (fun z e G => ∃ (j : Nat) (l : Bts), z = x.length - j /\ j <= x.length /\ e.get 46 = .int .i64 j /\ e.get 45 = .int .i64 x.length /\ e.get 25 = .int .i64 i /\ e.get 24 = .int .i64 xs.length /\ e.get 23 = v /\ e.get 4 = .ptr b4 0 /\ e.get 5 = .ptr pp 0 /\ e.get 6 = .ptr b6 0 /\ e.get 1 = .int .i64 most /\ e.get 9 = .sl br 0 x.length 1 /\ OwI (· = f0) Av G pp b6 P' fo' ov' fx' /\ G.blk[br]? = some ⟨bc l, .arr f0 0⟩ /\ l.length = x.length /\ Sole0 G br f0)
    (fun z e G => Is z (.exit 2) /\ e.get 25 = .int .i64 i /\ e.get 24 = .int .i64 xs.length /\ e.get 23 = v /\ e.get 4 = .ptr b4 0 /\ e.get 5 = .ptr pp 0 /\ e.get 6 = .ptr b6 0 /\ e.get 1 = .int .i64 most /\ OwI (· = f0) Av G pp b6 P' fo' ov' fx')
    ⟨_, 0, x, rfl, by omega, rfl, rfl, h25, h24, h23, h4, h5, h6, h1, h9, hE, rE, rfl, soE⟩ ?_ ?_
   . clear h25 h24 h23 h4 h5 h6 h1 h9
     rintro z e G ⟨j, l, rfl, hj, h46, h45, h25, h24, h23, h4, h5, h6, h1, h9, hG, rG, hll, so⟩
     simp only [RT, Q0, Q1, Q2, Q3, Q4, Q5, Q6, Q7, Q8, h46, h45]
     refine Aa1 (fun g1 => ?_) (fun g1 => ?_)
     rotate_left
     . simp only [RT, Q0, Q1, Q2, Q3, Q4, Q5, Q6, Q7, Q8]
       exact ⟨rfl, h25, h24, h23, h4, h5, h6, h1, hG⟩
     obtain ⟨y, hy⟩ := Ad3 (l := l) (i := j) (by omega)
     have had : evIndexAddr Try.prog 44 (.sl br 0 x.length 1) (.int .i64 (j : Int)) = some (.ptr br j) := by
      have := AN6 (P := Try.prog) (t := 44) (b := br) (o := 0) (n := x.length) (k := .i64) (i := j) Try.underlying44 sz5 (by omega)
      simpa using this
     have hld : evLoad Try.prog 5 (.ptr br j) G = some (.int .u8 y.toNat) := by rw [Ab5 ag5 rG, Ap2, hy]; rfl
     obtain ⟨u, hzz⟩ := BV7 y
     obtain ⟨H, s1, s2, s3, s4⟩ := AE3 (P := Try.prog) (t := 5) (o := j) (x := .int .u8 (u.toNat : Int)) so rG rfl sz5 (by rw [Aa5]; simp; omega) rfl
     rw [AJ9 (by omega)] at s3
     have hH := hG.row hw s2 rG hbr
     have hll' : (l.set j u).length = x.length := by rw [List.length_set, hll]
     have hwj : IntKind.i64.wrap ((j : Int) + 1) = ((j + 1 : Nat) : Int) := by rw [Ae4 (by omega)]
     simp only [RT, Q0, Q1, Q2, Q3, Q4, Q5, Q6, Q7, Q8, h46, h9, had, hld, hzz, s1, hwj]
     refine ⟨x.length - (j + 1), by omega, j + 1, l.set j u, rfl, by omega, ?_⟩
     and_intros <;> first | rfl | assumption | exact s4.1 | exact s4.2
   . clear h25 h24 h23 h4 h5 h6 h1 h9
     rintro z e G hz ⟨rfl, h25, h24, h23, h4, h5, h6, h1, hG⟩
     have hG := hG.on_ hw
     simp only [RT, Q0, Q1, Q2, Q3, Q4, Q5, Q6, Q7, Q8, h25, hwi]
     refine ⟨xs.length - (i + 1), by omega, i + 1, P', ov', fo', fx', rfl, by omega, ?_⟩
     and_intros <;> first | rfl | assumption
 clear hI
 rintro z e B hz (⟨rfl, h4, o⟩ | ⟨rfl, P, ov, fo, fx, h4, h5, h6, h1, hI⟩)
 . simp only [RT, Q0, Q1, Q2, Q3, Q4, Q5, Q6, Q7, Q8, h4, o]
 have wB := hI.fr.wf hw
 have hok := hI.po.ok
 have hP24 := hok.len
 obtain ⟨_, C, k2, rfl, f2', y1, y2⟩ := Aw0 (A := B) (pp := pp) most
 have hC := hI.fr0 hw f2'
 have wC := hC.fr.wf hw
 obtain ⟨ys, hys⟩ : ∃ l, l = P.take most.toNat := ⟨_, rfl⟩
 have hlAC := hC.fr.len
 simp only [RT, Q0, Q1, Q2, Q3, Q4, Q5, Q6, Q7, Q8, h5, h1]
 refine Aa0 k2 ?_
 simp only [RT, Q0, Q1, Q2, Q3, Q4, Q5, Q6, Q7, Q8]
 refine AE5 (S := nwS (fun _ => False) C.blk.length) (T := S0) (K := fun r => arrHp C r ≠ none ∨ r = B.blk.length + 1) (Fin := fun _ => True) (AR := argPf) (xs := ys)
  (fun i D => OwI (fun _ => False) Av D pp b6 P fo ov fx /\ Fr (nwS (fun _ => False) C.blk.length) C D) (fun z D => False)
  rfl (fun q => q) (fun q => q) ?_ ⟨hC, .refl _ _⟩ ?_ (fun _ _ _ q => q.elim) Try.func4 Try.ntmps4 (by simp) ?_ ?_ (fun _ _ _ q => q.elim)
 . intro A0 hf0 hblk
   have g := Ar4 (S := orLoop (nwS (fun _ => False) C.blk.length) C.loops.length) (hf0.wf wC) (hC.po.fr0 hf0) (hf0.row0 y1) (hf0.row0 y2)
   have e : arrHp A0 = arrHp C := by funext r; unfold arrHp; rw [hblk]
   rw [e, <- hys] at g; exact g
 . rintro i D E ⟨q1, q2⟩ hf
   exact ⟨q1.loop hw hf hC.fr.llen, q2.trans hf fun z q => .inr (by subst q; exact Nat.le_refl _)⟩
 . rintro i x D E args hi ⟨q1, q2⟩ hDE hfE ⟨w, rfl, hnw⟩
   refine ⟨_, rfl, ?_⟩
   have hlD := q2.len
   have hxe := hok.ent x (by have := List.mem_of_getElem? hi; rw [hys] at this; exact List.mem_of_mem_take this)
   have hkeep : ∀ {G : AS}, Fr (nwS (fun _ => False) C.blk.length) E G -> ∀ r, (arrHp C r ≠ none ∨ r = B.blk.length + 1) -> G.blk[r]? = E.blk[r]? := fun {G} hf r hr => by
    have hrl : r < C.blk.length := by
     rcases hr with hr | hr
     . exact Classical.byContradiction fun q => hr ((Af1 C).fresh (by omega))
     . have := Ab9 y2; omega
    have hlE := hDE.len
    rw [List.getElem?_eq_getElem (show r < E.blk.length by omega)]
    refine hf.row _ _ (List.getElem?_eq_getElem _) fun q => ?_
    rcases q with q | q
    . exact q
    . omega
   rcases hnw with ⟨rfl, rfl⟩ | ⟨c, f0, rfl, a1, a2, a3, a4⟩
   . simp only [RT, Q0, Q1, Q2, Q3, Q4, Q5, Q6, Q7, Q8]
     refine ⟨rfl, .refl _ _, fun F hF => ?_⟩
     have q1F := (q1.fr0 hw hDE).loop hw hF hC.fr.llen
     have q2F : Fr (nwS (fun _ => False) C.blk.length) C F := (q2.then0 hDE).trans hF fun z q => .inr (by subst q; exact Nat.le_refl _)
     simp only [RT, Q0, Q1, Q2, Q3, Q4, Q5, Q6, Q7, Q8, BF0]
     refine Aa2 (fun z e G => z = 0 /\ G = F /\ e.get 63 = .int .i64 0 /\ e.get 62 = .int .i64 0) (fun z e G => Is z (.exit 6) /\ G = F) ⟨_, rfl, rfl, rfl, rfl⟩ ?_ ?_
     . rintro z e G ⟨rfl, rfl, h63, h62⟩
       simp only [RT, Q0, Q1, Q2, Q3, Q4, Q5, Q6, Q7, Q8, h63, h62, decide_eq_false (show ¬ ((0 : Int) < 0) by omega)]
       exact rfl
     . rintro z e G hz ⟨rfl, rfl⟩
       simp only [RT, Q0, Q1, Q2, Q3, Q4, Q5, Q6, Q7, Q8]
       exact ⟨.refl _ _, .inl ⟨rfl, ⟨q1F, q2F⟩, fun r hr => by
        have hrl : r < C.blk.length := by
         rcases hr with hr | hr
         . exact Classical.byContradiction fun q => hr ((Af1 C).fresh (by omega))
         . have := Ab9 y2; omega
        have hlE := hDE.len
        rw [List.getElem?_eq_getElem (show r < E.blk.length by omega)]
        exact hF.row _ _ (List.getElem?_eq_getElem _) fun q => by cases q⟩⟩
   . simp only [RT, Q0, Q1, Q2, Q3, Q4, Q5, Q6, Q7, Q8]
     refine ⟨rfl, .refl _ _, fun F hF => ?_⟩
     have q1F := (q1.off hw hDE (f0 := f0) a3).loop hw hF hC.fr.llen
     have q2F : Fr (nwS (fun _ => False) C.blk.length) C F := (q2.then0 hDE).trans hF fun z q => .inr (by subst q; exact Nat.le_refl _)
     have rF := hF.row _ _ a1 (fun q => by cases q)
     have soF := a2.fr hF (fun q => by cases q)
     have hbr : Av.blk.length <= c := by omega
     have hlen2 : ∀ B, evLen Try.prog 44 (.sl c 0 x.length 1) B = some (.int .i64 (x.length : Nat)) := fun B => by unfold evLen; rw [Try.underlying44]
     have hxl := AR1 hxe
     simp only [RT, Q0, Q1, Q2, Q3, Q4, Q5, Q6, Q7, Q8, hlen2]
     refine Aa2 (fun z e G => ∃ (j : Nat) (l : Bts), z = x.length - j /\ j <= x.length /\ e.get 63 = .int .i64 j /\ e.get 62 = .int .i64 x.length /\ e.get 11 = .sl c 0 x.length 1 /\ OwI (· = f0) Av G pp b6 P fo ov fx /\ G.blk[c]? = some ⟨bc l, .arr f0 0⟩ /\ l.length = x.length /\ Sole0 G c f0 /\ Fr (nwS (fun _ => False) C.blk.length) F G)
      (fun z e G => Is z (.exit 6) /\ OwI (· = f0) Av G pp b6 P fo ov fx /\ Fr (nwS (fun _ => False) C.blk.length) F G)
      ⟨_, 0, x, rfl, by omega, rfl, rfl, rfl, q1F, rF, rfl, soF, .refl _ _⟩ ?_ ?_
     . rintro z e G ⟨j, l, rfl, hj, h63, h62, h11, hG, rG, hll, so, hfG⟩
       simp only [RT, Q0, Q1, Q2, Q3, Q4, Q5, Q6, Q7, Q8, h63, h62]
       refine Aa1 (fun g1 => ?_) (fun g1 => ?_)
       rotate_left
       . simp only [RT, Q0, Q1, Q2, Q3, Q4, Q5, Q6, Q7, Q8]
         exact ⟨rfl, hG, hfG⟩
       obtain ⟨y, hy⟩ := Ad3 (l := l) (i := j) (by omega)
       have had : evIndexAddr Try.prog 44 (.sl c 0 x.length 1) (.int .i64 (j : Int)) = some (.ptr c j) := by
        have := AN6 (P := Try.prog) (t := 44) (b := c) (o := 0) (n := x.length) (k := .i64) (i := j) Try.underlying44 sz5 (by omega)
        simpa using this
       have hld : evLoad Try.prog 5 (.ptr c j) G = some (.int .u8 y.toNat) := by rw [Ab5 ag5 rG, Ap2, hy]; rfl
       obtain ⟨u, hzz⟩ := BV7 y
       obtain ⟨H, s1, s2, s3, s4⟩ := AE3 (P := Try.prog) (t := 5) (o := j) (x := .int .u8 (u.toNat : Int)) so rG rfl sz5 (by rw [Aa5]; simp; omega) rfl
       rw [AJ9 (by omega)] at s3
       have hH := hG.row hw s2 rG hbr
       have hll' : (l.set j u).length = x.length := by rw [List.length_set, hll]
       have hwj : IntKind.i64.wrap ((j : Int) + 1) = ((j + 1 : Nat) : Int) := by rw [Ae4 (by omega)]
       have hfH : Fr (nwS (fun _ => False) C.blk.length) F H := hfG.trans s2 fun z q => .inl (by subst q; exact .inr (by omega))
       simp only [RT, Q0, Q1, Q2, Q3, Q4, Q5, Q6, Q7, Q8, h63, h11, had, hld, hzz, s1, hwj]
       refine ⟨x.length - (j + 1), by omega, j + 1, l.set j u, rfl, by omega, ?_⟩
       and_intros <;> first | rfl | assumption | exact s4.1 | exact s4.2
     . rintro z e G hz ⟨rfl, hG, hfG⟩
       simp only [RT, Q0, Q1, Q2, Q3, Q4, Q5, Q6, Q7, Q8]
       have hEG : Fr (nwS (fun _ => False) C.blk.length) F G := hfG
       refine ⟨hfG, .inl ⟨rfl, ⟨hG.on_ hw, q2F.thn hfG⟩, fun r hr => ?_⟩⟩
       have hrl : r < C.blk.length := by
        rcases hr with hr | hr
        . exact Classical.byContradiction fun q => hr ((Af1 C).fresh (by omega))
        . have := Ab9 y2; omega
       have hlE := hDE.len
       rw [List.getElem?_eq_getElem (show r < E.blk.length by omega)]
       refine hfG.row _ _ (hF.row _ _ (List.getElem?_eq_getElem _) fun q => by cases q) fun q => ?_
       rcases q with q | q
       . exact q
       . omega
 rintro D E ⟨q1, _⟩ hDE _ hBE
 have hE : OwI (fun _ => False) Av E pp b6 P fo ov fx := q1.oth hw hDE (fun q => by rcases q with q | q; exact q; cases q) (fun q => by rcases q with q | q; exact q; cases q) (fun b k q => by rcases q with q | q; exact q.elim; cases q) (fun z q => by
  rcases q with q | q
  . exact q.elim
  . subst q; exact hC.fr.llen) (fun f q => .inl q)
 have wE := hE.fr.wf hw
 obtain ⟨E1, e1', g1, t1, _⟩ := Aa9 E [.int .i64 0]
 obtain ⟨b13, hb13⟩ : ∃ b, b = E.blk.length := ⟨_, rfl⟩
 rw [<- hb13] at t1
 obtain ⟨E2, s1, g2, t2, _⟩ := Ae6 (P := Try.prog) (t := 3) (x := .int .i64 0) t1 rfl sz3 rfl
 have g12 : Fr S0 E E2 := g1.row_ g2 (by omega)
 have hE2 := hE.fr0 hw g12
 have hlen3 := fun X => hE.li.len (P := Try.prog) Try.underlying43 X
 obtain ⟨_, F, k3, rfl, g3, y3, y4⟩ := Aw0 (A := E2) (pp := pp) (P.length : Int)
 have hF := hE2.fr0 hw g3
 have wF := hF.fr.wf hw
 have hxs : P.take ((P.length : Nat) : Int).toNat = P := List.take_of_length_le (by simp)
 have n13 : b13 ≠ pp /\ b13 ≠ b6 := by
  have h1 := hE.po.lt.1
  have h2 := Ab9 hE.bx
  omega
 have l13 : Av.blk.length <= b13 := by have := hE.fr.len; omega
 have l13' : b13 < E2.blk.length := Ab9 t2
 simp only [RT, Q0, Q1, Q2, Q3, Q4, Q5, Q6, Q7, Q8, zc3, <- e1', <- hb13, s1, h5, h6, Aa8 BM4 hE2.bx, hlen3]
 refine Aa0 k3 ?_
 simp only [RT, Q0, Q1, Q2, Q3, Q4, Q5, Q6, Q7, Q8]
 refine AE5 (S := (· = .row b13)) (T := S0) (K := fun r => arrHp F r ≠ none ∨ r = E2.blk.length + 1) (Fin := fun _ => True) (AR := argPf) (xs := P)
  (fun i D => OwI (fun _ => False) Av D pp b6 P fo ov fx /\ D.blk[b13]? = some ⟨[.int .i64 (i : Int)], .var⟩) (fun z D => False)
  rfl (fun q => by cases q) (fun q => q) ?_ ⟨hF, g3.row0 t2⟩ ?_ (fun _ _ _ q => q.elim) Try.func4 Try.ntmps4 (by simp) ?_ ?_ (fun _ _ _ q => q.elim)
 . intro A0 hf0 hblk
   have g := Ar4 (S := orLoop (· = .row b13) F.loops.length) (hf0.wf wF) (hF.po.fr0 hf0) (hf0.row0 y3) (hf0.row0 y4)
   have e : arrHp A0 = arrHp F := by funext r; unfold arrHp; rw [hblk]
   rw [e, hxs] at g; exact g
 . rintro i D G ⟨q1, q2⟩ hf
   exact ⟨q1.loop hw hf hF.fr.llen, hf.row _ _ q2 (fun y => by cases y)⟩
 . rintro i x D G args hi ⟨q1, q2⟩ hDG hfG ⟨w, rfl, hnw⟩
   refine ⟨_, rfl, ?_⟩
   simp only [RT, Q0, Q1, Q2, Q3, Q4, Q5, Q6, Q7, Q8]
   refine ⟨rfl, .refl _ _, fun H hH => ?_⟩
   have q1H := (q1.fr0 hw hDG).loop hw hH hF.fr.llen
   have q2H := hH.row _ _ (hDG.row0 q2) (fun y => by cases y)
   have wG := (q1.fr0 hw hDG).fr.wf hw
   have hwx : Slc eU8 (qHp (fun _ => False) H) w x := (hnw.slcQ (X := fun _ => False) (fun f q => q.elim)).mono (Ae3 hH (fun b k q => by cases q) wG fun f q => .inl q)
   have hcv := AN3 (P := Try.prog) (A := H) (s := 44) (d := 9) (by decide) hwx (AV4 _ H) Try.underlying44 Try.underlying5 Try.underlying9
   obtain ⟨b', o', c', g3', g4', g5'⟩ := q1H.li.at (P := Try.prog) (k := .i64) (Hp.on_emp H) Try.underlying43 sz9 ag9 hi
   rw [A43.1 g5'] at g4'
   have hil := (List.getElem?_eq_some_iff.1 hi).1
   obtain ⟨I, u1, u2, u3, _⟩ := Ae6 (P := Try.prog) (t := 3) (x := .int .i64 ((i + 1 : Nat) : Int)) q2H rfl sz3 rfl
   have hwi : IntKind.i64.wrap ((i : Int) + 1) = ((i + 1 : Nat) : Int) := by rw [Ae4 (by omega)]
   rw [BB1, Ab1 (by rfl)]
   simp only [RT, Q0, Q1, Q2, Q3, Q4, Q5, Q6, Q7, Q8, hcv, h6, Aa8 BM4 q1H.bx, Aa8 ag3 q2H, g3', g4', hwi, u1]
   refine ⟨u2, .inl ⟨rfl, ⟨q1H.box hw u2 q2H n13 l13, u3⟩, fun r hr => ?_⟩⟩
   have hrl : r < F.blk.length /\ r ≠ b13 := by
    have h0 : F.blk[b13]? = some ⟨[.int .i64 0], .var⟩ := g3.row0 t2
    rcases hr with hr | hr
    . exact ⟨Classical.byContradiction fun q => hr ((Af1 F).fresh (by omega)), fun q => hr (by rw [q]; exact Ae2 h0)⟩
    . have := Ab9 y4; exact ⟨by omega, by omega⟩
   have hlG := hfG.len
   rw [List.getElem?_eq_getElem (show r < G.blk.length by omega)]
   exact u2.row _ _ (hH.row _ _ (List.getElem?_eq_getElem _) fun q => by cases q) fun q => by cases q; exact hrl.2 rfl
 rintro D G ⟨q1, q2⟩ hDG _ hFG
 have hG : OwI (fun _ => False) Av G pp b6 P fo ov fx := q1.oth hw hDG (fun q => by rcases q with q | q; exact q; cases q) (fun q => by rcases q with q | q; exact q; cases q) (fun b k q => by rcases q with q | q; exact q.elim; cases q) (fun z q => by
  rcases q with q | q
  . exact q.elim
  . subst q; exact hF.fr.llen) (fun f q => .inl q)
 have q2G := hDG.row _ _ q2 (fun q => by rcases q with q | q; exact q; cases q)
 have kl := AQ9 hG.po
 obtain ⟨C0, o1, o2⟩ := out true (rvB hG.fr)
 simp only [RT, Q0, Q1, Q2, Q3, Q4, Q5, Q6, Q7, Q8, BB2, Aa8 ag3 q2G, h6, Aa8 BM4 hG.bx, hlen3, h5, Aa6]
 refine Aa0 kl ?_
 simp only [RT, Q0, Q1, Q2, Q3, Q4, Q5, Q6, Q7, Q8, Aa6]
 refine ⟨Bo6 (ha := rfl) rfl rfl rfl rfl (Aa8 ag3 q2G) rfl Aa6, ?_⟩
 simp only [RT, Q0, Q1, Q2, Q3, Q4, Q5, Q6, Q7, Q8, h4, o1, o2, Aa6]
end
end Go.Sv.Try
