/- Pools in memory. -/
import Derived.Test.YtjhnciflgaijjaaSv4
import Derived.Test.YtjhnciflgaijjaaBpB
set_option linter.unusedSimpArgs false
set_option linter.unusedVariables false
open Nat renaming reduceLT → Q0, reduceBEq → Q1, reduceEqDiff → Q2, reduceAdd → Q3
open Int renaming reduceEq → Q4, reduceLT → Q5, reduceLE → Q6, reduceGT → Q7, reduceGE → Q8
namespace Go.Sv.Try
open Go Go.Proofs
abbrev WtP := Int × Int × Bts
noncomputable def wt (x : Bts) : WtP := ((nmOf x).1, (nmOf x).2, x)
noncomputable def cntP (P : List Bts) (who : Int) : Nat := (P.filter fun x => decide ((nmOf x).1 = who)).length
open Classical in
noncomputable def putC (P : List Bts) (x : Bts) : Int := if entC x ≠ 0 then entC x else if ∃ y ∈ P, nmOf y = nmOf x then 5 else if cntP P (nmOf x).1 = 3 then 120 else if P.length = 24 then 3 else 0
open Classical in
noncomputable def putP (P : List Bts) (x : Bts) : List Bts := if putC P x = 0 then P ++ [x] else P
noncomputable def doneP (P L : List Bts) : List Bts := P.filter fun x => (lookL (mapOf L) (nmOf x)).isNone
structure PoOk (P : List Bts) : Prop where
 ent : ∀ x ∈ P, entC x = 0
 one : OnceN P
 cnt : ∀ w, cntP P w <= 3
 len : P.length <= 24
theorem PoOk.nil : PoOk [] := ⟨fun x q => (by cases q), List.nodup_nil, fun w => Nat.zero_le _, by simp⟩
theorem A96 {P : List Bts} {x : Bts} (h : putC P x = 0) : entC x = 0 /\ (∀ y ∈ P, nmOf y ≠ nmOf x) /\ cntP P (nmOf x).1 ≠ 3 /\ P.length ≠ 24 := by
 unfold putC at h
 split at h
 . rename_i q; exact absurd h q
 . rename_i q1
   split at h
   . cases h
   . rename_i q2
     split at h
     . cases h
     . rename_i q3
       split at h
       . cases h
       . rename_i q4
         exact ⟨Classical.byContradiction q1, fun y hy q => q2 ⟨y, hy, q⟩, q3, q4⟩
theorem PoOk.put {P : List Bts} (h : PoOk P) (x : Bts) : PoOk (putP P x) := by
 unfold putP
 split
 . rename_i q
   obtain ⟨q1, q2, q3, q4⟩ := A96 q
   refine ⟨fun y hy => ?_, ?_, fun w => ?_, by rw [List.length_append]; have := h.len; simp; omega⟩
   . rcases List.mem_append.1 hy with hy | hy
     . exact h.ent y hy
     . rw [List.mem_singleton.1 hy]; exact q1
   . unfold OnceN
     rw [List.map_append, List.nodup_append]
     refine ⟨h.one, by simp, fun a ha b hb => ?_⟩
     obtain ⟨y, hy, rfl⟩ := List.mem_map.1 ha
     have hb : b = nmOf x := by simpa using hb
     subst hb
     exact q2 y hy
   . unfold cntP
     rw [List.filter_append, List.length_append]
     have h1 := h.cnt w
     unfold cntP at h1
     by_cases e : (nmOf x).1 = w
     . have h2 := h.cnt (nmOf x).1
       unfold cntP at h2 q3
       subst e
       simp
       omega
     . simp [e]; omega
 . exact h
theorem PoOk.filter {P : List Bts} (h : PoOk P) (p : Bts -> Bool) : PoOk (P.filter p) := by
 refine ⟨fun x hx => h.ent x (List.mem_filter.1 hx).1, ?_, fun w => ?_, Nat.le_trans (List.length_filter_le _ _) h.len⟩
 . have := h.one
   unfold OnceN at this ⊢
   exact this.sublist (List.filter_sublist.map _)
 . refine Nat.le_trans ?_ (h.cnt w)
   unfold cntP
   exact (List.filter_sublist.filter _).length_le
theorem Bv6 {p : Bts -> Bool} {P : List Bts} {i : Nat} {x : Bts} (h : P[i]? = some x) (hp : p x = true) : (P.filter p)[((P.take i).filter p).length]? = some x := by
 have hi := List.getElem?_eq_some_iff.1 h
 have e : P = P.take i ++ x :: P.drop (i + 1) := by rw [<- hi.2, <- List.drop_eq_getElem_cons hi.1, List.take_append_drop]
 have e2 : P.filter p = (P.take i).filter p ++ x :: (P.drop (i + 1)).filter p := by
  conv => lhs; rw [e]
  rw [List.filter_append, List.filter_cons, if_pos hp]
 rw [e2, List.getElem?_append_right (Nat.le_refl _), Nat.sub_self]; rfl
theorem Au7 {p : Bts -> Bool} {P : List Bts} {i : Nat} {x : Bts} (h : P[i]? = some x) : (P.take (i + 1)).filter p = (P.take i).filter p ++ (if p x = true then [x] else []) := by
 rw [Ac4 h, List.filter_append]
 congr 1
 cases q : p x <;> simp [q]
def eWt : Enc WtP := ePair (eInt .i64) (ePair (eInt .i64) (eSl eU8))
noncomputable def wtC (x : Bts) (v : V) : List V := [.int .i64 (nmOf x).1, .int .i64 (nmOf x).2, v]
theorem BJ4 {m : Hp} {x : Bts} {v : V} (h : Slc eU8 m v x) : eWt.R m (wtC x v) (wt x) := ⟨[.int .i64 (nmOf x).1], [.int .i64 (nmOf x).2, v], rfl, rfl, [.int .i64 (nmOf x).2], [v], rfl, rfl, v, rfl, h⟩
theorem Bn6 {m : Hp} {w : V} {x : Bts} (h : eWt.W m w (wt x)) : ∃ v, w = .agg (wtC x v) /\ Slc eU8 m v x := by
 unfold Enc.W at h
 rw [if_pos (show eWt.agg = true from rfl)] at h
 obtain ⟨d, rfl, c1, c2, rfl, h1, c3, c4, rfl, h2, v, rfl, h3⟩ := h
 have h1 : c1 = [.int .i64 (nmOf x).1] := h1
 have h2 : c3 = [.int .i64 (nmOf x).2] := h2
 subst h1 h2
 exact ⟨v, rfl, h3⟩
def poX (Z : Nat -> Prop) (fo : Option Nat) : Nat -> Prop := fun f => Z f ∨ fo = some f
structure IsPo (Z : Nat -> Prop) (A : AS) (pp : Nat) (P : List Bts) (fo : Option Nat) : Prop where
 ex : ∃ lv, A.blk[pp]? = some ⟨[lv], .var⟩ /\ Lst eWt (qHp (poX Z fo) A) A lv (P.map wt) fo
 ok : PoOk P
def poS (A : AS) (pp : Nat) (fo : Option Nat) : Loc -> Prop := fun z => z = .row pp ∨ inFamO A fo z
section
variable {A B C : AS} {m : Hp} {Z Z' : Nat -> Prop} {pp : Nat} {P : List Bts} {fo : Option Nat} {S : Loc -> Prop}
theorem IsPo.frO (h : IsPo Z A pp P fo) (hf : Fr S A B) (h1 : ¬ S (.row pp)) (o : Off fo A S) (hq : (qHp (poX Z fo) A).le (qHp (poX Z' fo) B)) : IsPo Z' B pp P fo := by
 obtain ⟨lv, h2, h3⟩ := h.ex
 exact ⟨⟨lv, hf.row _ _ h2 h1, (h3.fr hf o).mono hq⟩, h.ok⟩
theorem IsPo.fr0 (h : IsPo Z A pp P fo) (hf : Fr S0 A B) : IsPo Z B pp P fo := h.frO hf (fun q => q) .s0 (Ae7 hf)
theorem IsPo.oth (h : IsPo Z A pp P fo) (hw : WF A) (hf : Fr S A B) (h1 : ¬ S (.row pp)) (hX : Tch Z A S) (hd : ∀ f, fo = some f -> ¬ Z f) (hz : ∀ f, Z' f -> Z f ∨ A.blk.length <= f) : IsPo Z' B pp P fo :=
 h.frO hf h1 (.tch hX hd) (Ad1 hf (hX.mono fun f q => .inl q) hw fun f q => q.elim (fun q => (hz f q).imp .inl id) fun q => .inl (.inr q))
theorem IsPo.lt (h : IsPo Z A pp P fo) : pp < A.blk.length /\ ∀ f, fo = some f -> f < A.blk.length := by
 obtain ⟨lv, h2, h3⟩ := h.ex
 exact ⟨Ab9 h2, h3.famLt⟩
theorem Bv7 (b : Nat) : evFieldAddr Try.prog 130 (.ptr b 0) 0 = some (.ptr b 0) := by kernel_rfl
theorem Bv8 (b : Nat) : evNilCheck (.ptr b 0) = some (.ptr b 0) := rfl
theorem BJ5 : evBuild Try.prog 130 [] = some (.agg [.snil]) := by kernel_rfl
theorem BR6 (b : Nat) : evFieldAddr Try.prog 135 (.ptr b 0) 0 = some (.ptr b 0) /\ evFieldAddr Try.prog 135 (.ptr b 0) 1 = some (.ptr b 1) /\ evFieldAddr Try.prog 135 (.ptr b 0) 2 = some (.ptr b 2) := ⟨by kernel_rfl, by kernel_rfl, by kernel_rfl⟩
theorem BG4 {b : Nat} {k : BK} {x : Bts} {v : V} (h : A.blk[b]? = some ⟨wtC x v, k⟩) : evLoad Try.prog 3 (.ptr b 0) A = some (.int .i64 (nmOf x).1) /\ evLoad Try.prog 3 (.ptr b 1) A = some (.int .i64 (nmOf x).2) /\ evLoad Try.prog 44 (.ptr b 2) A = some v /\ evLoad Try.prog 135 (.ptr b 0) A = some (.agg (wtC x v)) := by
 refine ⟨by rw [Ab3 ag3 h]; rfl, by rw [Ab3 ag3 h]; rfl, by rw [Ab3 AY7 h]; rfl, AN0 (P := Try.prog) Bl3 AI5 h rfl⟩
theorem By6 {x : Bts} {v : V} (h : v.one = true) : (wtC x v).all V.one = true := by show (true && (true && (v.one && true))) = true; rw [h]; rfl
theorem Bv9 : (zeroT Try.prog 135).bind V.cells = some [.int .i64 0, .int .i64 0, .snil] := BR0
theorem Bn7 {x : Bts} {v : V} (h : v.one = true) : ∃ A', evStore Try.prog 135 (.ptr A.blk.length 0) (.agg (wtC x v)) (A.push ⟨[.int .i64 0, .int .i64 0, .snil], .var⟩) = some A' /\ Fr S0 A A' /\ A'.blk[A.blk.length]? = some ⟨wtC x v, .var⟩ := by
 obtain ⟨A2, s1, s2, s3, s4⟩ := Ag2 (P := Try.prog) A (z := [.int .i64 0, .int .i64 0, .snil]) (t := 135) (x := .agg (wtC x v)) (cs := wtC x v) rfl AI5 rfl (By6 h)
 exact ⟨A2, s1, s2, s3⟩
theorem BJ6 (a c : Int) (b o n z : Nat) : evBuild Try.prog 135 [(0, .int .i64 a), (1, .int .i64 c), (2, .sl b o n z)] = some (.agg [.int .i64 a, .int .i64 c, .sl b o n z]) := by kernel_rfl
theorem BJ7 (a c : Int) : evBuild Try.prog 135 [(0, .int .i64 a), (1, .int .i64 c), (2, .snil)] = some (.agg [.int .i64 a, .int .i64 c, .snil]) := by kernel_rfl
theorem BU1 {x : Bts} {v : V} : bsl Try.prog 128 1 (some [(0, .agg (wtC x v))]) = some (.newSl (wtC x v) 1 3) := AQ8 Try.underlying128 AI5 Bv9 rfl rfl (by decide)
theorem AU0 : ∃ w A', EvF Try.prog HH 25 [] A w A' /\ Fr S0 A A' /\ w = .ptr A.blk.length 0 /\ IsPo Z A' A.blk.length [] none := by
 refine Aa5 rfl Try.func25 (by unfold Try.f25; rfl) Try.ntmps25 (by unfold Try.f25; rfl) (by simp) ?_
 simp only [RT, Q0, Q1, Q2, Q3, Q4, Q5, Q6, Q7, Q8, BJ5]
 exact ⟨Fr.pushVar A _, ⟨.snil, Ab0 A _, .nil⟩, .nil⟩
theorem Az9 (h : IsPo Z A pp P fo) : EvF Try.prog HH 28 [.ptr pp 0] A (.int .i64 P.length) A := by
 obtain ⟨lv, h1, h2⟩ := h.ex
 have hlen := fun B => h2.len (P := Try.prog) Try.underlying128 B
 rw [List.length_map] at hlen
 have key : ∃ w A', EvF Try.prog HH 28 [.ptr pp 0] A w A' /\ w = .int .i64 P.length /\ A' = A := by
  refine Aa5 rfl Try.func28 (by unfold Try.f28; rfl) Try.ntmps28 (by unfold Try.f28; rfl) (by simp) ?_
  simp only [RT, Q0, Q1, Q2, Q3, Q4, Q5, Q6, Q7, Q8, Bv8, Bv7, Aa6 AY6 h1, hlen]
 obtain ⟨_, _, k, rfl, rfl⟩ := key
 exact k
theorem B34 (b o n z : Nat) : evBin Try.prog .eql 44 (.sl b o n z) .snil = some (.bool false) := by kernel_rfl
theorem B35 : evBin Try.prog .eql 44 .snil .snil = some (.bool true) := by kernel_rfl
def NewB (A A' : AS) (w : V) (x : Bts) : Prop := (w = .snil /\ x = []) ∨ ∃ c f, w = .sl c 0 x.length 1 /\ A'.blk[c]? = some ⟨bc x, .arr f 0⟩ /\ Sole0 A' c f /\ A.blk.length <= f /\ A.blk.length <= c
theorem NewB.slcQ {w : V} {x : Bts} (h : NewB A B w x) {X : Nat -> Prop} (hX : ∀ f, X f -> f < A.blk.length) : Slc eU8 (qHp X B) w x := by
 rcases h with ⟨rfl, rfl⟩ | ⟨c, f, rfl, h1, _, h2, _⟩
 . exact .inl ⟨rfl, rfl⟩
 . exact Aw6 h1 fun q => by have := hX f q; omega
theorem NewB.one {w : V} {x : Bts} (h : NewB A B w x) : w.one = true := by
 rcases h with ⟨rfl, rfl⟩ | ⟨c, f, rfl, _⟩ <;> rfl
theorem NewB.fr0 {w : V} {x : Bts} (h : NewB A B w x) (hf : Fr S0 B C) : NewB A C w x := by
 rcases h with h | ⟨c, f, h0, h1, h2, h3⟩
 . exact .inl h
 . exact .inr ⟨c, f, h0, hf.row0 h1, h2.fr hf fun q => q, h3⟩
theorem AK0 {v : V} {x : Bts} (hw : WF A) (hm : m.on A) (hv : Slc eU8 m v x) (hx : x.length <= 1000000000000) : ∃ w A', EvF Try.prog HH 68 [v] A w A' /\ Fr S0 A A' /\ NewB A A' w x := by
 refine Aa5 rfl Try.func68 (by unfold Try.f68; rfl) Try.ntmps68 (by unfold Try.f68; rfl) (by simp) ?_
 rcases Au0 hv with rfl | ⟨b, o, n, z, rfl⟩
 . have hx0 := By0 hv rfl
   simp only [RT, Q0, Q1, Q2, Q3, Q4, Q5, Q6, Q7, Q8, B35]
   exact ⟨.refl _ _, .inl ⟨rfl, hx0⟩⟩
 . obtain ⟨c, B, y1, y2, y3, y4, y5⟩ := AM2 (P := Try.prog) (t := 44) (tx := 44) hw Bl5 Try.underlying44 hv hm (by omega) (by omega)
   simp only [RT, Q0, Q1, Q2, Q3, Q4, Q5, Q6, Q7, Q8, B34, BJ0, y1]
   exact ⟨y5, .inr ⟨c, _, rfl, y2, y3, Nat.le_refl _, y4⟩⟩
def argW (_ : AS) (args : List V) (x : Bts) : Prop := ∃ v, args = [.agg (wtC x v)] /\ v.one = true
theorem AU1 (who : Int) : ∃ w A', EvF Try.prog HH 67 [.ptr pp 0, .int .i64 who] A w A' /\ w = .fn 91 [] [.ptr A.blk.length 0, .ptr (A.blk.length + 1) 0] /\ Fr S0 A A' /\ A'.blk[A.blk.length]? = some ⟨[.ptr pp 0], .var⟩ /\ A'.blk[A.blk.length + 1]? = some ⟨[.int .i64 who], .var⟩ := by
 refine Aa5 rfl Try.func67 (by unfold Try.f67; rfl) Try.ntmps67 (by unfold Try.f67; rfl) (by simp) ?_
 obtain ⟨A1, e1, f1, r1, n1⟩ := Aa8 A [.ptr pp 0]
 obtain ⟨A2, e2, f2, r2, n2⟩ := Aa8 A1 [.int .i64 who]
 simp only [RT, Q0, Q1, Q2, Q3, Q4, Q5, Q6, Q7, Q8, <- e1, <- e2, n1]
 rw [n1] at r2
 exact ⟨f1.then0 f2, f2.row0 r1, r2⟩
set_option maxRecDepth 10000 in
set_option maxHeartbeats 8000000 in
theorem AN8 {b1 b2 : Nat} {who : Int} {S : Loc -> Prop} {m : Hp} (hm0 : m = qHp (poX Z fo) A) (hS : ∀ b, S (.row b) -> m b = none /\ b ≠ b2 /\ ∀ f base k, fo = some f -> A.blk[b]? = some k -> k.kind ≠ .arr f base) (h : IsPo Z A pp P fo) (h1 : A.blk[b1]? = some ⟨[.ptr pp 0], .var⟩) (h2 : A.blk[b2]? = some ⟨[.int .i64 who], .var⟩) :
 Goes Try.prog HH 91 [] [.ptr b1 0, .ptr b2 0] A S argW (P.filter fun x => decide ((nmOf x).1 = who)) := by
 intro lo J D hJ hD hstep hJ0
 refine Aa5 rfl Try.func91 (by unfold Try.f91; rfl) Try.ntmps91 (by unfold Try.f91; rfl) (by simp) ?_
 obtain ⟨lv, hx1, hx2⟩ := h.ex
 rw [<- hm0] at hx2
 have hlen := fun B => hx2.len (P := Try.prog) Try.underlying128 B
 rw [List.length_map] at hlen
 have hmon : m.on A := by rw [hm0]; exact Ao8 _ _
 have hP24 := h.ok.len
 obtain ⟨p, hp⟩ : ∃ p : Bts -> Bool, p = fun x => decide ((nmOf x).1 = who) := ⟨_, rfl⟩
 rw [<- hp] at hstep ⊢
 simp only [RT, Q0, Q1, Q2, Q3, Q4, Q5, Q6, Q7, Q8, Aa6 B10 h1, Bv8, Bv7, Aa6 AY6 hx1, hlen]
 refine Aa4 (fun z e B => ∃ i : Nat, z = P.length - i /\ i <= P.length /\ e.get 11 = .int .i64 i /\ e.get 0 = .yield lo /\ e.get 2 = .ptr b2 0 /\ e.get 9 = lv /\ e.get 10 = .int .i64 P.length /\ Fr S A B /\ J ((P.take i).filter p).length B)
  (fun z e B => Fr S A B /\ ((Is z (.exit 0) /\ J (P.filter p).length B) ∨ (Is z .ret /\ ∃ i, i < (P.filter p).length /\ D i B)))
  ⟨_, 0, rfl, by omega, rfl, rfl, rfl, rfl, rfl, .refl _ _, hJ0⟩ ?_ ?_
 rotate_left
 . rintro z e B hz ⟨q1, ⟨rfl, q2⟩ | ⟨rfl, q2⟩⟩
   . simp only [RT, Q0, Q1, Q2, Q3, Q4, Q5, Q6, Q7, Q8]
     exact ⟨q1, .inl q2⟩
   . simp only [RT, Q0, Q1, Q2, Q3, Q4, Q5, Q6, Q7, Q8]
     exact ⟨q1, .inr q2⟩
 rintro z e B ⟨i, rfl, hi, h11, h0, h2', h9, h10, hf, hj⟩
 simp only [RT, Q0, Q1, Q2, Q3, Q4, Q5, Q6, Q7, Q8, h11, h10]
 refine Aa1 (fun q1 => ?_) (fun q1 => ?_)
 rotate_left
 . have : i = P.length := by omega
   subst this
   rw [List.take_length] at hj
   simp only [RT, Q0, Q1, Q2, Q3, Q4, Q5, Q6, Q7, Q8]
   exact ⟨hf, .inl ⟨rfl, hj⟩⟩
 obtain ⟨x, hx⟩ := Ac9 (l := P) (i := i) (by omega)
 have hx' : (P.map wt)[i]? = some (wt x) := by rw [List.getElem?_map, hx]; rfl
 have hLB := hx2.fr hf fun b q f k base hfo hk => (hS b q).2.2 f base k hfo hk
 obtain ⟨bb, o, c, g3, g4, g5⟩ := hLB.at (P := Try.prog) (k := .i64) (hmon.fr hf fun b q => (hS b q).1) Try.underlying128 AI5 Bl3 hx'
 obtain ⟨v, rfl, hv⟩ := Bn6 g5
 obtain ⟨B1, s1, s2, s3⟩ := Bn7 (A := B) (x := x) hv.one
 have fa := BR6 B.blk.length
 have ld := BG4 s3
 have h2B : B1.blk[b2]? = some ⟨[.int .i64 who], .var⟩ := s2.row0 (hf.row _ _ h2 fun q => (hS _ q).2.1 rfl)
 have hwi : IntKind.i64.wrap ((i : Int) + 1) = ((i + 1 : Nat) : Int) := by rw [Ad6 (by omega)]
 have hfB := hf.then0 s2
 by_cases c1 : (nmOf x).1 = who
 . have hpx : p x = true := by rw [hp]; exact decide_eq_true c1
   obtain ⟨y, E, y1, y2, y3, y4⟩ := hstep _ _ B1 [.agg (wtC x v)] (Bv6 hx hpx) (hJ _ _ _ hj s2) hfB ⟨v, rfl, hv.one⟩
   have hfE := hfB.thn y2
   simp only [RT, Q0, Q1, Q2, Q3, Q4, Q5, Q6, Q7, Q8, h9, h11, g3, g4, Bv9, s1, fa, ld, h2', Aa6 ag3 h2B, decide_eq_true c1, h0]
   refine ⟨_, E, y1, ?_⟩
   cases y with
   | true =>
    have y3 := y3 rfl
    have e : ((P.take (i + 1)).filter p).length = ((P.take i).filter p).length + 1 := by rw [Au7 hx, if_pos hpx, List.length_append]; rfl
    rw [<- e] at y3
    simp only [RT, Q0, Q1, Q2, Q3, Q4, Q5, Q6, Q7, Q8, h11, hwi]
    refine ⟨P.length - (i + 1), by omega, i + 1, rfl, by omega, ?_⟩
    and_intros <;> first | rfl | assumption
   | false =>
    simp only [RT, Q0, Q1, Q2, Q3, Q4, Q5, Q6, Q7, Q8]
    exact ⟨hfE, .inr ⟨rfl, _, (List.getElem?_eq_some_iff.1 (Bv6 hx hpx)).1, y4 rfl⟩⟩
 . have hpx : p x = false := by rw [hp]; exact decide_eq_false c1
   have hj := hJ _ _ _ hj s2
   have e : ((P.take (i + 1)).filter p).length = ((P.take i).filter p).length := by rw [Au7 hx, hpx]; simp
   rw [<- e] at hj
   simp only [RT, Q0, Q1, Q2, Q3, Q4, Q5, Q6, Q7, Q8, h9, h11, g3, g4, Bv9, s1, fa, ld, h2', Aa6 ag3 h2B, decide_eq_false c1, hwi]
   refine ⟨P.length - (i + 1), by omega, i + 1, rfl, by omega, ?_⟩
   and_intros <;> first | rfl | assumption
end
end Go.Sv.Try
namespace Go.Sv
open Go
theorem A97 {P : Program} {H : Hints} {f : FuncId} {nt : Nat} {k : List Kt} {e : Env} {A : AS} {Q : Ex -> Env -> AS -> Prop} {τ : Type} {g : Operand} {ps : Array Tmp} {asg bd : Code} {h : FuncId} {first cap : List V} {S : Loc -> Prop} {AR : AS -> List V -> τ -> Prop} {xs : List τ} {fn : Func}
 (I : Nat -> AS -> Prop) (D : Ex -> AS -> Prop)
 (hg : e.eval g = some (.fn h first cap)) (hl : ¬ S (.loop A.loops.length))
 (hgo : ∀ A0, Fr S0 A A0 -> Goes P H h first cap A0 (orLoop S A.loops.length) AR xs) (hI : I 0 A)
 (hIs : ∀ i A1 A', I i A1 -> Fr (· = .loop A.loops.length) A1 A' -> I i A')
 (hDs : ∀ x A1 A', D x A1 -> Fr (· = .loop A.loops.length) A1 A' -> D x A')
 (hf : P.funcs[f]? = some fn) (hnt : fn.ntmps = nt) (hps : ps.toList.all (fun p => decide (p < nt)) = true)
 (hbody : ∀ i x A1 args, xs[i]? = some x -> I i A1 -> Fr (orLoop S A.loops.length) A A1 -> AR A1 args x -> ∃ e0, bindParams e ps.toList args = some e0 /\
  Run P H f nt [.code asg] .normal e0 A1 fun x e1 A1' => Is x .normal /\ Fr S A1 A1' /\ ∀ A1b, Fr (· = .loop A.loops.length) A1' A1b ->
   Run P H f nt [.code bd] .normal e1 A1b fun x e2 A2 => Fr S A1b A2 /\ ((Is x .normal /\ I (i + 1) A2) ∨ (x ≠ .normal /\ D x A2)))
 (hend : ∀ A2, I xs.length A2 -> Fr S A A2 -> Run P H f nt k .normal e A2 Q)
 (hout : ∀ x A2, x ≠ .normal -> D x A2 -> Fr S A A2 -> Run P H f nt k x e A2 Q) : Run P H f nt (.code (.rangeFunc g ps asg bd) :: k) .normal e A Q := by
 refine A71 I (fun x _ A2 => D x A2) hg hl hgo hI hIs (fun x i A1 A' q z => hDs x _ _ q z) hf hnt hps ?_ hend (fun x i A2 _ h1 h2 h3 => hout x A2 h1 h2 h3)
 intro i x A1 args h1 h2 h3 h4
 obtain ⟨e0, q1, q2⟩ := hbody i x A1 args h1 h2 h3 h4
 refine ⟨e0, q1, Ac5 q2 fun x e1 A1' ⟨z1, z2, z3⟩ => ⟨z1, z2, fun A1b z4 => Ac5 (z3 A1b z4) fun x e2 A2 ⟨w1, w2⟩ => ⟨w1, ?_⟩⟩⟩
 rcases w2 with ⟨rfl, w2⟩ | ⟨w0, w2⟩
 . exact w2
 . cases x with
   | normal => exact absurd rfl w0
   | exit id => exact w2
   | ret => exact w2
end Go.Sv
namespace Go.Sv.Try
open Go Go.Proofs
section
variable {A B C : AS} {m : Hp} {Z Z' : Nat -> Prop} {pp : Nat} {P : List Bts} {fo : Option Nat} {S : Loc -> Prop}
theorem Bf5 {pp : Nat} (hw : WF A) (hf : Fr S0 A B) (h1 : A.blk.length <= pp) (h2 : ∀ f, fo = some f -> A.blk.length <= f) : ∀ z, poS B pp fo z -> z.newTo A := by
 rintro z (q | q)
 . subst q; exact h1
 . exact AD5 hw hf h2 q
theorem Bn8 {S : Loc -> Prop} (hf : Fr S A B) {z : Loc} (h : poS B pp fo z) : poS A pp fo z ∨ z.newTo A := by
 rcases h with q | q
 . exact .inl (.inl q)
 . exact (Ab6 hf q).imp .inr id
theorem IsPo.push (h : IsPo Z A pp P fo) (hw : WF A) {x : Bts} {v : V} (hv : Slc eU8 (qHp (poX Z fo) A) v x) (hok : PoOk (P ++ [x])) :
 ∃ lv lv' B C fo', A.blk[pp]? = some ⟨[lv], .var⟩ /\ evAppend Try.prog 128 128 lv (.sl A.blk.length 0 1 3) (A.push ⟨wtC x v, .arr A.blk.length 0⟩) = some (lv', B) /\ evStore Try.prog 128 (.ptr pp 0) lv' B = some C /\ IsPo Z C pp (P ++ [x]) fo' /\ Fr (poS A pp fo) A C /\ Gr A fo fo' := by
 obtain ⟨lv, h1, h2⟩ := h.ex
 have hln := h.ok.len
 obtain ⟨lv', B, fo', p1, p2, p3, p4⟩ := h2.push (P := Try.prog) (t := 128) (tx := 128) (n := 3) rfl BZ4 Try.underlying128 hw (y := wt x) (cs' := wtC x v) (BJ4 hv) (by rw [List.length_map]; omega) (by rw [List.length_map]; omega)
 have hB := p3.row _ _ h1 (Aa9 h1)
 have wB := p3.wf hw
 obtain ⟨C, s1, s2, s3, s4⟩ := Ae4 (P := Try.prog) (t := 128) (x := lv') hB (one_cells p2.one) BQ9 p2.one
 have q1 := Ad1 (X := poX Z fo) (Y := poX Z fo') p3 (.famO fun f q => .inr q) hw fun f q => q.elim (fun q => .inl (.inl q)) fun q => (p4.or q).imp .inr id
 have q2 := Ad1 (X := poX Z fo') (Y := poX Z fo') s2 (.box hB) wB fun f q => .inl q
 have e : (P ++ [x]).map wt = P.map wt ++ [wt x] := by simp
 refine ⟨lv, lv', B, C, fo', h1, p1, s1, ⟨⟨lv', s3, ?_⟩, hok⟩, (p3.mono fun z q => .inr q).trans s2 fun z q => .inl (.inl q), p4⟩
 rw [e]
 exact (p2.fr s2 (.box hB)).mono (Hp.le_trans q1 q2)
set_option maxRecDepth 10000 in
set_option maxHeartbeats 32000000 in
theorem AU2 {v : V} {x : Bts} (hw : WF A) (hZ : ∀ f, Z f -> f < A.blk.length) (h : IsPo Z A pp P fo) (hm : m.on A) (hv : Slc eU8 m v x) (hx : x.length <= 1000000000) :
 ∃ w A', EvF Try.prog HH 26 [.ptr pp 0, v] A w A' /\ w = .int .i64 (putC P x) /\ Fr (poS A pp fo) A A' /\ ∃ fo', IsPo Z A' pp (putP P x) fo' /\ Gr A fo fo' := by
 refine Aa5 rfl Try.func26 (by unfold Try.f26; rfl) Try.ntmps26 (by unfold Try.f26; rfl) (by simp) ?_
 obtain ⟨A1, e1, f1, r1, n1⟩ := Aa8 A [.int .i64 0]
 obtain ⟨b4, hb4⟩ : ∃ b, b = A.blk.length := ⟨_, rfl⟩
 rw [<- hb4] at r1
 have w1 := f1.wf hw
 obtain ⟨_, A2, k2, f2, X, dv, iv, lw, rfl, z1, z2⟩ := Ar4 w1 (hm.fr0 f1) hv (by omega)
 obtain ⟨A3, t1, t2, t3⟩ := Al7 (A := A2) z1
 obtain ⟨b5, hb5⟩ : ∃ b, b = A2.blk.length := ⟨_, rfl⟩
 rw [<- hb5] at t1 t3
 have f13 := (f1.then0 f2).then0 t2
 have out : ∀ {B : AS} (n : Int), B.blk[b4]? = some ⟨[.int .i64 0], .var⟩ -> ∃ C, evStore Try.prog 45 (.ptr b4 0) (.int .i64 n) B = some C /\ evLoad Try.prog 45 (.ptr b4 0) C = some (.int .i64 n) /\ Fr (· = .row b4) B C /\ C.blk[b4]? = some ⟨[.int .i64 n], .var⟩ := fun {B} n h => by
  obtain ⟨C, t1, t2, t3, t4⟩ := Ae4 (P := Try.prog) (t := 45) (x := .int .i64 n) h rfl BX5 rfl
  exact ⟨C, t1, Aa6 BR7 t3, t2, t3⟩
 have r13 := (f2.then0 t2).row0 r1
 have hpp := h.lt.1
 have ppb4 : b4 ≠ pp := by omega
 have fin : ∀ {B C : AS}, Fr S0 A B -> Fr (· = .row b4) B C -> putC P x ≠ 0 -> Fr (poS A pp fo) A C /\ ∃ fo', IsPo Z C pp (putP P x) fo' /\ Gr A fo fo' := fun {B C} q1 q2 q3 => by
  have f := (q1.row_ q2 (by omega))
  refine ⟨f.mono fun _ q => q.elim, fo, ?_, .rfl'⟩
  rw [show putP P x = P from if_neg q3]
  exact h.fr0 f
 simp only [RT, Q0, Q1, Q2, Q3, Q4, Q5, Q6, Q7, Q8, B13, <- e1, <- hb4]
 refine Aa0 k2 ?_
 by_cases c0 : entC x = 0
 rotate_left
 . have hp : putC P x = entC x := if_pos c0
   obtain ⟨C, o1, o2, o3, o4⟩ := out (entC x) r13
   simp only [RT, Q0, Q1, Q2, Q3, Q4, Q5, Q6, Q7, Q8, zcM, <- hb5, t1, c0, o1, o2]
   refine ⟨by rw [hp], ?_⟩
   exact fin f13 o3 (by rw [hp]; exact c0)
 have hX := z2 c0
 have hnm : (X.who, X.num) = nmOf x := by rw [hX]; rfl
 have hwho : X.who = (nmOf x).1 := by rw [<- hnm]
 have hnum : X.num = (nmOf x).2 := by rw [<- hnm]
 have fam := faM b5
 obtain ⟨A4, e4, f4, r4, n4⟩ := Aa8 A3 [.int .i64 0]
 obtain ⟨b7, hb7⟩ : ∃ b, b = A3.blk.length := ⟨_, rfl⟩
 rw [<- hb7] at r4
 have r4' : A4.blk[b7]? = some ⟨[.int .i64 0], .var⟩ := r4
 obtain ⟨A5, s1, s2, s3, s4⟩ := Ae4 (P := Try.prog) (t := 3) (x := .int .i64 0) r4 rfl sz3 rfl
 have f35 : Fr S0 A3 A5 := f4.row_ s2 (by omega)
 have f15 := f13.then0 f35
 have w5 := f15.wf hw
 have hX5 := f35.row0 t3
 have ldm := ldM hX5 z1.id
 obtain ⟨_, A6, k6, rfl, f6, y1, y2⟩ := AU1 (A := A5) (pp := pp) X.who
 have f16 := f15.then0 f6
 have w6 := f16.wf hw
 have h6 := h.fr0 f16
 have r46 := f6.row0 (f35.row0 r13)
 have r76 := f6.row0 s3
 have x6 := f6.row0 hX5
 have l1 := f1.len
 have l2 := f2.len
 have l3 := t2.len
 have l35 := f35.len
 have l5 : b7 < A5.blk.length := Ab9 s3
 have l5' : b5 < A3.blk.length := Ab9 t3
 have n45 : b4 < b5 := by have := Ab9 r1; omega
 obtain ⟨xs, hxs⟩ : ∃ l, l = P.filter fun y => decide ((nmOf y).1 = X.who) := ⟨_, rfl⟩
 have hxlen : xs.length = cntP P (nmOf x).1 := by rw [hxs, hwho]; rfl
 have hx3 : xs.length <= 3 := by rw [hxlen]; exact h.ok.cnt _
 have st5 : ∀ {B : AS}, B.blk[b4]? = some ⟨[.int .i64 0], .var⟩ -> ∃ C, evStore Try.prog 45 (.ptr b4 0) (.int .i64 5) B = some C /\ Fr (· = .row b4) B C /\ C.blk[b4]? = some ⟨[.int .i64 5], .var⟩ := fun q => by
  obtain ⟨C, o1, _, o3, o4⟩ := out 5 q
  exact ⟨C, o1, o3, o4⟩
 simp only [RT, Q0, Q1, Q2, Q3, Q4, Q5, Q6, Q7, Q8, zcM, <- hb5, t1, c0, zc3, <- e4, <- hb7, s1, fam, ldm]
 refine Aa0 k6 ?_
 simp only [RT, Q0, Q1, Q2, Q3, Q4, Q5, Q6, Q7, Q8]
 refine A97 (S := fun z => z = .row b7 ∨ z = .row b4) (AR := argW) (xs := xs)
  (fun i B => B.blk[b4]? = some ⟨[.int .i64 0], .var⟩ /\ B.blk[b7]? = some ⟨[.int .i64 (i : Int)], .var⟩ /\ B.blk[b5]? = some ⟨mc X dv iv lw, .var⟩ /\ ∀ y ∈ xs.take i, (nmOf y).2 ≠ X.num)
  (fun z B => Is z .ret /\ B.blk[b4]? = some ⟨[.int .i64 5], .var⟩ /\ ∃ y ∈ P, nmOf y = nmOf x)
  rfl (fun q => by rcases q with q | q <;> cases q) ?_ ⟨r46, r76, x6, by simp⟩ ?_ ?_ Try.func26 Try.ntmps26 (by simp) ?_ ?_ ?_
 . intro A0 hf0
   rw [hxs]
   refine AN8 (m := qHp (poX Z fo) A0) rfl ?_ (h6.fr0 hf0) (hf0.row0 y1) (hf0.row0 y2)
   have l6 := f6.len
   have q4 := hf0.row0 r46
   have q7 := hf0.row0 r76
   rintro b ((q | q) | q)
   . cases q
     exact ⟨AN4 q7, by omega, fun f base k _ hk => by rw [q7] at hk; cases hk; simp⟩
   . cases q
     exact ⟨AN4 q4, by omega, fun f base k _ hk => by rw [q4] at hk; cases hk; simp⟩
   . cases q
 . rintro i B C ⟨q1, q2, q3, q4⟩ hf
   exact ⟨hf.row _ _ q1 (fun y => by cases y), hf.row _ _ q2 (fun y => by cases y), hf.row _ _ q3 (fun y => by cases y), q4⟩
 . rintro z B C ⟨q1, q2, q3⟩ hf
   exact ⟨q1, hf.row _ _ q2 (fun y => by cases y), q3⟩
 . rintro i y B args hi ⟨q1, q2, q3, q4⟩ hfB ⟨u, rfl, hu⟩
   refine ⟨_, rfl, ?_⟩
   obtain ⟨C, s5, s6, s7⟩ := Bn7 (A := B) (x := y) hu
   simp only [RT, Q0, Q1, Q2, Q3, Q4, Q5, Q6, Q7, Q8, Bv9, s5]
   refine ⟨rfl, s6.mono fun _ q => q.elim, fun B1 hB1 => ?_⟩
   have fC : Fr (· = .loop A6.loops.length) B B1 := (s6.mono fun _ q => q.elim : Fr (· = .loop A6.loops.length) B C).thn hB1
   have c1 := fC.row _ _ q1 (fun y => by cases y)
   have c2 := fC.row _ _ q2 (fun y => by cases y)
   have c3 := fC.row _ _ q3 (fun y => by cases y)
   have c4 := hB1.row _ _ s7 (fun y => by cases y)
   have fw := BR6 B.blk.length
   have ldw := BG4 c4
   have ldm := ldM c3 z1.id
   have hi3 : i < 3 := by have := (List.getElem?_eq_some_iff.1 hi).1; omega
   by_cases d1 : (nmOf y).2 = X.num
   . have hy : y ∈ P /\ (nmOf y).1 = X.who := by
      have := List.mem_of_getElem? hi
      rw [hxs, List.mem_filter] at this
      exact ⟨this.1, of_decide_eq_true this.2⟩
     obtain ⟨E, o1, o2, o3⟩ := st5 c1
     simp only [RT, Q0, Q1, Q2, Q3, Q4, Q5, Q6, Q7, Q8, fw, ldw, fam, ldm, decide_eq_true d1, o1]
     exact ⟨o2.mono fun z q => .inr q, .inr ⟨by simp, rfl, o3, y, hy.1, by rw [<- hnm, <- d1, <- hy.2]⟩⟩
   . obtain ⟨E, o1, o2, o3, o4⟩ := Ae4 (P := Try.prog) (t := 3) (x := .int .i64 ((i + 1 : Nat) : Int)) c2 rfl sz3 rfl
     have hwi : IntKind.i64.wrap ((i : Int) + 1) = ((i + 1 : Nat) : Int) := by rw [Ad6 (by omega)]
     have n7 : ∀ b, b ≠ b7 -> ¬ (Loc.row b = Loc.row b7) := fun b q z => by cases z; exact q rfl
     simp only [RT, Q0, Q1, Q2, Q3, Q4, Q5, Q6, Q7, Q8, fw, ldw, fam, ldm, decide_eq_false d1, Aa6 ag3 c2, hwi, o1]
     refine ⟨o2.mono fun z q => .inl q, .inl ⟨rfl, o2.row _ _ c1 (n7 _ (by omega)), o3, o2.row _ _ c3 (n7 _ (by omega)), fun z hz => ?_⟩⟩
     rw [Ac4 hi] at hz
     rcases List.mem_append.1 hz with hz | hz
     . exact q4 z hz
     . rw [List.mem_singleton.1 hz]; exact d1
 rotate_left
 . rintro z B hz ⟨rfl, q1, hdup⟩ hf
   have hp : putC P x = 5 := by unfold putC; rw [if_neg (by simp [c0]), if_pos hdup]
   have ld := Aa6 (P := Try.prog) (t := 45) BR7 q1
   simp only [RT, Q0, Q1, Q2, Q3, Q4, Q5, Q6, Q7, Q8, ld]
   rw [hp]
   refine ⟨rfl, ?_⟩
   have fB : Fr S0 A B := f16.trans hf fun z q => by
    rcases q with q | q
    . subst q; right; show A.blk.length <= b7; omega
    . subst q; right; show A.blk.length <= b4; omega
   refine ⟨fB.mono fun _ q => q.elim, fo, ?_, .rfl'⟩
   rw [show putP P x = P from if_neg (by rw [hp]; decide)]
   exact h.fr0 fB
 rintro B ⟨q1, q2, q3, q4⟩ hf
 rw [List.take_length] at q4
 have fB : Fr S0 A B := f16.trans hf fun z q => by
  rcases q with q | q
  . subst q; right; show A.blk.length <= b7; omega
  . subst q; right; show A.blk.length <= b4; omega
 have wB := fB.wf hw
 have hB := h.fr0 fB
 have hnd : ¬ ∃ y ∈ P, nmOf y = nmOf x := by
  rintro ⟨y, hy, q⟩
  refine q4 y ?_ (by rw [q, <- hnum])
  rw [hxs, List.mem_filter]
  exact ⟨hy, by rw [q]; exact decide_eq_true hwho.symm⟩
 have c0' : ¬ entC x ≠ 0 := by simp [c0]
 have ldm := ldM q3 z1.id
 obtain ⟨lv, hx1, hx2⟩ := hB.ex
 have hlen := fun B => hx2.len (P := Try.prog) Try.underlying128 B
 rw [List.length_map] at hlen
 by_cases d3 : (xs.length : Int) = 3
 . have hp : putC P x = 120 := by unfold putC; rw [if_neg c0', if_neg hnd, if_pos (by rw [<- hxlen]; omega)]
   obtain ⟨C, o1, o2, o3, o4⟩ := out 120 q1
   simp only [RT, Q0, Q1, Q2, Q3, Q4, Q5, Q6, Q7, Q8, Aa6 ag3 q2, decide_eq_true d3, o1, o2]
   rw [hp]
   exact ⟨rfl, fin fB o3 (by rw [hp]; decide)⟩
 by_cases d4 : (P.length : Int) = 24
 . have hp : putC P x = 3 := by unfold putC; rw [if_neg c0', if_neg hnd, if_neg (by rw [<- hxlen]; omega), if_pos (by omega)]
   obtain ⟨C, o1, o2, o3, o4⟩ := out 3 q1
   simp only [RT, Q0, Q1, Q2, Q3, Q4, Q5, Q6, Q7, Q8, Aa6 ag3 q2, decide_eq_false d3, Bv8, Bv7, Aa6 AY6 hx1, hlen, decide_eq_true d4, o1, o2]
   rw [hp]
   exact ⟨rfl, fin fB o3 (by rw [hp]; decide)⟩
 have hp : putC P x = 0 := by unfold putC; rw [if_neg c0', if_neg hnd, if_neg (by rw [<- hxlen]; omega), if_neg (by omega)]
 have hpp2 : putP P x = P ++ [x] := if_pos hp
 have hok := h.ok.put x
 rw [hpp2] at hok
 obtain ⟨w, C, k8, f8, hnw⟩ := AK0 wB (hm.fr0 fB) hv (by omega)
 have hC := hB.fr0 f8
 have lB := hB.lt
 have hZB := fB.len
 have hsw := hnw.slcQ (X := poX Z fo) fun f q => q.elim (fun q => by have := hZ f q; omega) fun q => lB.2 f q
 obtain ⟨lv2, lv', D, E, fo', u1, u2, u3, u4, u5, u6⟩ := hC.push (f8.wf wB) hsw hok
 have e9 : lv2 = lv := by have := f8.row0 hx1; rw [u1] at this; cases this; rfl
 subst e9
 have qc3 := f8.row0 q3
 have ldmC := ldM qc3 z1.id
 have hwt : evBuild Try.prog 135 [(0, .int .i64 X.who), (1, .int .i64 X.num), (2, w)] = some (.agg (wtC x w)) := by
  rw [hwho, hnum]
  rcases hnw with ⟨rfl, _⟩ | ⟨_, _, rfl, _⟩
  . exact BJ7 _ _
  . exact BJ6 _ _ _ _ _ _
 have q1E := u5.row _ _ (f8.row0 q1) (by
  rintro (q | q)
  . cases q; exact ppb4 rfl
  . exact Aa9 (f8.row0 q1) q)
 obtain ⟨G, o1, o2, o3, o4⟩ := out 0 q1E
 have lAC := (fB.then0 f8)
 simp only [RT, Q0, Q1, Q2, Q3, Q4, Q5, Q6, Q7, Q8, Aa6 ag3 q2, decide_eq_false d3, Bv8, Bv7, Aa6 AY6 hx1, hlen, decide_eq_false d4, Bs5, fam, ldm, Aa2]
 refine Aa0 k8 ?_
 simp only [RT, Q0, Q1, Q2, Q3, Q4, Q5, Q6, Q7, Q8, Aa2]
 refine ⟨Aa3 (ha := rfl) rfl (Aa6 AY6 u1) rfl (Aa3 (ha := rfl) rfl ldmC.2.1 rfl (Aa3 (ha := rfl) rfl ldmC.2.2.2.2.2.1 rfl Aa2)), ?_⟩
 simp only [RT, Q0, Q1, Q2, Q3, Q4, Q5, Q6, Q7, Q8, hwt, BU1, u2, Bv8, Bv7, u3, o1, o2, Aa2]
 have fAE : Fr (poS A pp fo) A E := (lAC.mono fun _ q => q.elim : Fr (poS A pp fo) A C).trans u5 fun z q => Bn8 lAC q
 rw [hp]
 refine ⟨rfl, fAE.trans o3 fun z q => .inr (by subst q; show A.blk.length <= b4; omega), fo', ?_, u6.from lAC.len⟩
 rw [hpp2]
 have hbx : E.blk[b4]? = some ⟨[.int .i64 0], .var⟩ := q1E
 exact u4.frO o3 (fun q => by cases q; exact ppb4 rfl) (.box hbx) (Ad1 o3 (.box hbx) (fAE.wf hw) fun f q => .inl q)
end
end Go.Sv.Try
namespace Go.Sv.Try
open Go Go.Proofs
section
variable {A B C : AS} {m : Hp} {Z Z' : Nat -> Prop} {pp : Nat} {P : List Bts} {fo : Option Nat} {S : Loc -> Prop}
theorem Own.low {N N' n sz : Nat} {v : V} {cs : List V} (h : Own N A v n sz cs) (hn : N' <= N) : Own N' A v n sz cs := by
 obtain ⟨o1, o2, o3⟩ := h
 refine ⟨o1, o2, o3.imp id ?_⟩
 rintro ⟨b, f, base, q1, q2, q3, q4, q5⟩
 exact ⟨b, f, base, q1, q2, by omega, by omega, q5⟩
theorem Ax7 : ∀ (l : List Bts) (t : Nat), ((optAll t l).flatMap fieldB).length <= (l.map fun b => b.length + 4).sum
 | [], t => by simp [optAll]
 | b :: l, t => by
  have h1 := Ax7 l (t + 1)
  simp only [optAll, List.flatMap_append, List.length_append, List.map_cons, List.sum_cons]
  have h2 : ((opt1 t b).flatMap fieldB).length <= b.length + 4 := by
   unfold opt1
   split
   . simp
   . simp [fieldB, Ah0]
  omega
theorem Ap3 {x : Bts} (h : entC x = 0) : x.length <= 400 := by
 obtain ⟨h1, h2, h3⟩ := Bv4 h
 obtain ⟨_, _, h4⟩ := A50 h
 rw [<- h3, h1]
 rw [h1] at h2
 have hok := AI6 h2
 have hn := hok.nums
 have d1 : (digits (readMsg x).who.toNat).length <= 6 := Ah1 _ 6 (by have := hn (readMsg x).who (by simp [M.nums, entM, msg0]); omega)
 have d2 : (digits (readMsg x).num.toNat).length <= 6 := Ah1 _ 6 (by have := hn (readMsg x).num (by simp [M.nums, entM, msg0]); omega)
 have := Ax7 (P9 (entM (readMsg x).who (readMsg x).num (readMsg x).data)) 1
 unfold writeB fieldList
 rw [List.length_cons]
 have e : ((P9 (entM (readMsg x).who (readMsg x).num (readMsg x).data)).map fun b => b.length + 4).sum = (digits (readMsg x).who.toNat).length + (digits (readMsg x).num.toNat).length + (readMsg x).data.length + 36 := by
  unfold P9 entM msg0
  simp [Ac8]
  omega
 omega
def argPf (A A1 : AS) (args : List V) (x : Bts) : Prop := ∃ w, args = [w] /\ NewB A A1 w x
theorem AK1 (most : Int) : ∃ w A', EvF Try.prog HH 27 [.ptr pp 0, .int .i64 most] A w A' /\ w = .fn 69 [] [.ptr A.blk.length 0, .ptr (A.blk.length + 1) 0] /\ Fr S0 A A' /\ A'.blk[A.blk.length]? = some ⟨[.ptr pp 0], .var⟩ /\ A'.blk[A.blk.length + 1]? = some ⟨[.int .i64 most], .var⟩ := by
 refine Aa5 rfl Try.func27 (by unfold Try.f27; rfl) Try.ntmps27 (by unfold Try.f27; rfl) (by simp) ?_
 obtain ⟨A1, e1, f1, r1, n1⟩ := Aa8 A [.ptr pp 0]
 obtain ⟨A2, e2, f2, r2, n2⟩ := Aa8 A1 [.int .i64 most]
 simp only [RT, Q0, Q1, Q2, Q3, Q4, Q5, Q6, Q7, Q8, <- e1, <- e2, n1]
 rw [n1] at r2
 exact ⟨f1.then0 f2, f2.row0 r1, r2⟩
set_option maxRecDepth 10000 in
set_option maxHeartbeats 16000000 in
theorem AD6 {b1 b2 : Nat} {most : Int} {S : Loc -> Prop} (hw : WF A) (h : IsPo Z A pp P fo) (h1 : A.blk[b1]? = some ⟨[.ptr pp 0], .var⟩) (h2 : A.blk[b2]? = some ⟨[.int .i64 most], .var⟩) :
 GoesH Try.prog HH 69 [] [.ptr b1 0, .ptr b2 0] A S S0 (fun r => arrHp A r ≠ none ∨ r = b2) (fun _ => True) argPf (P.take most.toNat) := by
 intro lo J D hstep hJ0
 refine Aa5 rfl Try.func69 (by unfold Try.f69; rfl) Try.ntmps69 (by unfold Try.f69; rfl) (by simp) ?_
 obtain ⟨lv, hx1, hx2⟩ := h.ex
 have hsl := hx2.slcArr (AH0 _ _)
 have hlen := fun B => hx2.len (P := Try.prog) Try.underlying128 B
 rw [List.length_map] at hlen
 have hP24 := h.ok.len
 obtain ⟨n, hn⟩ : ∃ n, n = (P.take most.toNat).length := ⟨_, rfl⟩
 have hn' : n = min most.toNat P.length := by rw [hn, List.length_take]
 simp only [RT, Q0, Q1, Q2, Q3, Q4, Q5, Q6, Q7, Q8, Aa6 B10 h1, Bv8, Bv7, Aa6 AY6 hx1, hlen]
 refine Aa4 (fun z e B => ∃ i : Nat, z = P.length - i /\ i <= n /\ e.get 11 = .int .i64 i /\ e.get 0 = .yield lo /\ e.get 2 = .ptr b2 0 /\ e.get 9 = lv /\ e.get 10 = .int .i64 P.length /\ Fr S A B /\ (∀ r, arrHp A r ≠ none ∨ r = b2 -> B.blk[r]? = A.blk[r]?) /\ J i B)
  (fun z e B => Fr S A B /\ (Is z (.exit 0) ∨ Is z .ret) /\ ((∃ A2, J n A2 /\ Fr S0 A2 B) ∨ ∃ i A2, i < n /\ D i A2 /\ Fr S0 A2 B))
  ⟨_, 0, rfl, by omega, rfl, rfl, rfl, rfl, rfl, .refl _ _, fun r _ => rfl, hJ0⟩ ?_ ?_
 rotate_left
 . rintro z e B hz ⟨hf, rfl | rfl, hd⟩
   . simp only [RT, Q0, Q1, Q2, Q3, Q4, Q5, Q6, Q7, Q8]
     exact ⟨hf, by rw [<- hn]; simpa using hd⟩
   . simp only [RT, Q0, Q1, Q2, Q3, Q4, Q5, Q6, Q7, Q8]
     exact ⟨hf, by rw [<- hn]; simpa using hd⟩
 rintro z e B ⟨i, rfl, hi, h11, h0, h2', h9, h10, hf, hK, hj⟩
 simp only [RT, Q0, Q1, Q2, Q3, Q4, Q5, Q6, Q7, Q8, h11, h10]
 refine Aa1 (fun q1 => ?_) (fun q1 => ?_)
 rotate_left
 . have : i = n := by omega
   subst this
   simp only [RT, Q0, Q1, Q2, Q3, Q4, Q5, Q6, Q7, Q8]
   exact ⟨hf, .inl rfl, .inl ⟨B, hj, .refl _ _⟩⟩
 have hmB : (arrHp A).on B := fun b cs q => by
  obtain ⟨k, hk⟩ := Af6 A b cs q
  exact ⟨k, by rw [hK b (.inl (by rw [q]; simp))]; exact hk⟩
 have hwB := hf.wf hw
 obtain ⟨x, hx⟩ := Ac9 (l := P) (i := i) (by omega)
 have hx' : (P.map wt)[i]? = some (wt x) := by rw [List.getElem?_map, hx]; rfl
 have hxl := AN2 (h.ok.ent x (List.mem_of_getElem? hx))
 obtain ⟨bb, o, c, g3, g4, g5⟩ := hsl.at (P := Try.prog) (k := .i64) hmB Try.underlying128 AI5 Bl3 hx'
 obtain ⟨v, rfl, hv⟩ := Bn6 g5
 obtain ⟨B1, s1, s2, s3⟩ := Bn7 (A := B) (x := x) hv.one
 have fa := BR6 B.blk.length
 have ld := BG4 s3
 have h2B : B1.blk[b2]? = some ⟨[.int .i64 most], .var⟩ := s2.row0 (by rw [hK b2 (.inr rfl)]; exact h2)
 have hwi : IntKind.i64.wrap ((i : Int) + 1) = ((i + 1 : Nat) : Int) := by rw [Ad6 (by omega)]
 by_cases c1 : (i : Int) >= most
 . have : i = n := by omega
   subst this
   simp only [RT, Q0, Q1, Q2, Q3, Q4, Q5, Q6, Q7, Q8, h9, h11, g3, g4, Bv9, s1, h2', Aa6 ag3 h2B, decide_eq_true c1]
   exact ⟨hf.then0 s2, .inr rfl, .inl ⟨B, hj, s2⟩⟩
 obtain ⟨w, B2, k1, f2, hnw⟩ := AK0 (s2.wf hwB) (hmB.fr0 s2) hv (by omega)
 have f12 := s2.then0 f2
 have hnw' : NewB B B2 w x := by
  rcases hnw with q | ⟨c, f, q0, q1, q2, q3, q4⟩
  . exact .inl q
  . have := s2.len
    exact .inr ⟨c, f, q0, q1, q2, by omega, by omega⟩
 have hat : (P.take most.toNat)[i]? = some x := by rw [List.getElem?_take_of_lt (by omega)]; exact hx
 obtain ⟨bo, B4, y1, y2, y3, y4⟩ := hstep i x B B2 [w] hat hj f12 (hf.then0 f12) ⟨w, rfl, hnw'⟩
 have hfE := (hf.then0 f12).thn y2
 simp only [RT, Q0, Q1, Q2, Q3, Q4, Q5, Q6, Q7, Q8, h9, h11, g3, g4, Bv9, s1, h2', Aa6 ag3 h2B, decide_eq_false c1, h0, fa, ld]
 refine Aa0 k1 ?_
 simp only [RT, Q0, Q1, Q2, Q3, Q4, Q5, Q6, Q7, Q8, h0]
 refine ⟨_, B4, y1, ?_⟩
 cases bo with
 | true =>
  obtain ⟨z5, z6⟩ := y3 rfl
  have hK' : ∀ r, arrHp A r ≠ none ∨ r = b2 -> B4.blk[r]? = A.blk[r]? := fun r hr => by
   rw [z6 r hr]
   have := hK r hr
   cases hr' : A.blk[r]? with
   | none =>
    rcases hr with hr | hr
    . exact absurd (by unfold arrHp; rw [hr']) hr
    . subst hr; rw [h2] at hr'; cases hr'
   | some k =>
    rw [hr'] at this
    exact f12.row r k this fun q => q
  have hin : i + 1 <= n := by omega
  simp only [RT, Q0, Q1, Q2, Q3, Q4, Q5, Q6, Q7, Q8, h11, hwi]
  refine ⟨P.length - (i + 1), by omega, i + 1, rfl, by omega, ?_⟩
  and_intros <;> first | rfl | assumption
 | false =>
  simp only [RT, Q0, Q1, Q2, Q3, Q4, Q5, Q6, Q7, Q8]
  exact ⟨hfE, .inr rfl, .inr ⟨i, B4, by omega, y4 rfl, .refl _ _⟩⟩
structure ColI (A B : AS) (bl : Nat) (l : List Bts) : Prop where
 fr : Fr S0 A B
 ex : ∃ lv fo, B.blk[bl]? = some ⟨[lv], .var⟩ /\ Lst (eSl eU8) (qHp (zOf fo) B) B lv l fo /\ ∀ f, fo = some f -> A.blk.length <= f
theorem ColI.go {bl : Nat} {l : List Bts} (h : ColI A B bl l) (hw : WF A) (hf : Fr S B C) (h1 : ∀ z, S z -> ∃ j, z = .loop j /\ A.loops.length <= j) : ColI A C bl l := by
 obtain ⟨lv, fo, q1, q2, q3⟩ := h.ex
 have nr : ∀ b, ¬ S (.row b) := fun b q => by obtain ⟨j, e, _⟩ := h1 _ q; cases e
 exact ⟨h.fr.trans hf fun z q => by obtain ⟨j, rfl, e⟩ := h1 _ q; exact .inr e, lv, fo, hf.row _ _ q1 (nr _), (q2.fr hf fun b q => absurd q (nr b)).mono (Ad1 hf (fun b k q => absurd q (nr b)) (h.fr.wf hw) fun f q => .inl q), q3⟩
set_option maxRecDepth 10000 in
set_option maxHeartbeats 32000000 in
theorem AH4 {b1 b2 : Nat} {most : Int} (hw : WF A) (h : IsPo Z A pp P fo) (h1 : A.blk[b1]? = some ⟨[.ptr pp 0], .var⟩) (h2 : A.blk[b2]? = some ⟨[.int .i64 most], .var⟩) :
 ∃ w A', EvF Try.prog HH 104 [.snil, .fn 69 [] [.ptr b1 0, .ptr b2 0]] A w A' /\ Fr S0 A A' /\ ∃ fo', Lst (eSl eU8) (qHp (zOf fo') A') A' w (P.take most.toNat) fo' /\ ∀ f, fo' = some f -> A.blk.length <= f := by
 refine Aa5 rfl Try.func104 (by unfold Try.f104; rfl) Try.ntmps104 (by unfold Try.f104; rfl) (by simp) ?_
 obtain ⟨A1, e1, f1, r1, n1⟩ := Aa8 A [.snil]
 obtain ⟨bl, hbl⟩ : ∃ b, b = A.blk.length := ⟨_, rfl⟩
 rw [<- hbl] at r1 n1
 have w1 := f1.wf hw
 have l1 := Ab9 h2
 simp only [RT, Q0, Q1, Q2, Q3, Q4, Q5, Q6, Q7, Q8, <- e1, <- hbl]
 have hI0 : ColI A A1 bl [] := ⟨f1, .snil, none, r1, .nil, fun f q => by cases q⟩
 obtain ⟨xs, hxs⟩ : ∃ l, l = P.take most.toNat := ⟨_, rfl⟩
 have hx24 : xs.length <= 24 := by rw [hxs, List.length_take]; have := h.ok.len; omega
 refine AY4 (S := nwS (· = bl) A.blk.length) (T := S0) (K := fun r => arrHp A1 r ≠ none ∨ r = b2) (Fin := fun _ => True) (AR := argPf) (xs := xs)
  (fun i B => ColI A B bl (xs.take i)) (fun z B => False) rfl (fun q => q) (fun q => q) ?_ (by simpa using hI0) ?_ (fun _ _ _ q => q.elim) Try.func104 Try.ntmps104 (by simp) ?_ ?_ (fun _ _ _ q => q.elim)
 . intro A0 hf0 hblk
   have g := AD6 (S := orLoop (nwS (· = bl) A.blk.length) A1.loops.length) (hf0.wf w1) ((h.fr0 f1).fr0 hf0) (hf0.row0 (f1.row0 h1)) (hf0.row0 (f1.row0 h2))
   have e : arrHp A0 = arrHp A1 := by funext r; unfold arrHp; rw [hblk]
   rw [e, <- hxs] at g; exact g
 . intro i B C q hf
   exact q.go hw hf fun z y => ⟨_, y, f1.llen⟩
 . rintro i x B C args hi hI hBC hfC ⟨w, rfl, hnw⟩
   refine ⟨_, rfl, ?_⟩
   simp only [RT, Q0, Q1, Q2, Q3, Q4, Q5, Q6, Q7, Q8]
   refine ⟨rfl, .refl _ _, fun D hD => ?_⟩
   obtain ⟨lv0, fo0, q1, q2, q3⟩ := hI.ex
   have hwx := hnw.slcQ (X := zOf fo0) fun f q => q2.famLt f q
   have hIC := hI.go hw hBC (fun z q => q.elim)
   have hID := hIC.go hw hD fun z y => ⟨_, y, f1.llen⟩
   have wC := hIC.fr.wf hw
   have wD := hID.fr.wf hw
   have q1D := hD.row _ _ (hBC.row0 q1) (fun y => by cases y)
   have q2D : Lst (eSl eU8) (qHp (zOf fo0) D) D lv0 (xs.take i) fo0 := (((q2.fr0 hBC).mono (Ae7 hBC)).fr hD fun b q => by cases q).mono (Ad1 hD (fun b k q => by cases q) wC fun f q => .inl q)
   have hwD : Slc eU8 (qHp (zOf fo0) D) w x := hwx.mono (Ad1 hD (fun b k q => by cases q) wC fun f q => .inl q)
   obtain ⟨lv', E, fo', p1, p2, p3, p4⟩ := q2D.push (P := Try.prog) (t := 22) (tx := 22) (n := 1) rfl BG3 Try.underlying22 wD (y := x) (cs' := [w]) ⟨w, rfl, hwD⟩ (by rw [List.length_take]; omega) (by rw [List.length_take]; omega)
   have q1E := p3.row _ _ q1D (Aa9 q1D)
   have wE := p3.wf wD
   obtain ⟨F, s1, s2, s3, s4⟩ := Ae4 (P := Try.prog) (t := 22) (x := lv') q1E (one_cells p2.one) BQ6 p2.one
   simp only [RT, Q0, Q1, Q2, Q3, Q4, Q5, Q6, Q7, Q8, Aa6 BQ7 q1D, Bn1 (Au0 hwD), p1, s1]
   have hin : ∀ z, inFamO D fo0 z -> nwS (· = bl) A.blk.length z := fun z q => by
    have := AD5 hw hID.fr q3 q
    cases z with
    | row b => exact .inr this
    | fam f => exact this
    | map r => cases fo0 <;> exact q.elim
    | loop r => cases fo0 <;> exact q.elim
    | it r => cases fo0 <;> exact q.elim
   have fE : Fr S0 A E := hID.fr.newFam hw p3 q3
   have fDF : Fr (nwS (· = bl) A.blk.length) D F := (p3.mono hin).trans s2 fun z q => .inl (by subst q; exact .inl rfl)
   have hbA : A1.blk[bl]? = some ⟨[.snil], .var⟩ := r1
   refine ⟨fDF, .inl ⟨rfl, ⟨?_, lv', fo', s3, ?_, fun f q => ?_⟩, fun r hr => ?_⟩⟩
   . exact fE.trans s2 fun z q => .inr (by subst q; show A.blk.length <= bl; omega)
   . rw [Ac4 hi]
     exact (p2.fr s2 (.box q1E)).mono (Hp.le_trans (Ad1 p3 (.famO fun f q => q) wD fun f q => p4.or q) (Ad1 s2 (.box q1E) wE fun f q => .inl q))
   . rcases p4.or q with y | y
     . exact q3 f y
     . have := hID.fr.len; omega
   . have hrl : r < A1.blk.length /\ r ≠ bl := by
      rcases hr with hr | hr
      . refine ⟨Classical.byContradiction fun q => hr ((Af6 A1).fresh (by omega)), fun q => hr (by rw [q]; exact Ae5 hbA)⟩
      . subst hr; have := f1.len; exact ⟨by omega, by omega⟩
     have hrA : r < A.blk.length := by omega
     have hrow : ∃ k, C.blk[r]? = some k := ⟨_, List.getElem?_eq_getElem (by have := hIC.fr.len; omega)⟩
     obtain ⟨k, hk⟩ := hrow
     rw [hk]
     refine fDF.row _ _ (hD.row _ _ hk fun q => by cases q) fun q => ?_
     rcases q with q | q
     . exact hrl.2 q
     . omega
 . rintro B C hI hBC _ hAC
   rw [List.take_length] at hI
   have hIC := hI.go hw hBC fun z q => by
    rcases q with q | q
    . exact q.elim
    . exact ⟨_, q, f1.llen⟩
   obtain ⟨lv0, fo0, q1, q2, q3⟩ := hIC.ex
   simp only [RT, Q0, Q1, Q2, Q3, Q4, Q5, Q6, Q7, Q8, Aa6 BQ7 q1]
   exact ⟨hIC.fr, fo0, by rw [<- hxs]; exact q2, fun f q => by have := q3 f q; omega⟩
theorem AU3 {b1 b2 : Nat} {most : Int} (hw : WF A) (h : IsPo Z A pp P fo) (h1 : A.blk[b1]? = some ⟨[.ptr pp 0], .var⟩) (h2 : A.blk[b2]? = some ⟨[.int .i64 most], .var⟩) :
 ∃ w A', EvF Try.prog HH 86 [.fn 69 [] [.ptr b1 0, .ptr b2 0]] A w A' /\ Fr S0 A A' /\ ∃ fo', Lst (eSl eU8) (qHp (zOf fo') A') A' w (P.take most.toNat) fo' /\ ∀ f, fo' = some f -> A.blk.length <= f := by
 refine Aa5 rfl Try.func86 (by unfold Try.f86; rfl) Try.ntmps86 (by unfold Try.f86; rfl) (by simp) ?_
 obtain ⟨w, A', k, q⟩ := AH4 (most := most) hw h h1 h2
 simp only [RT, Q0, Q1, Q2, Q3, Q4, Q5, Q6, Q7, Q8]
 refine Aa0 k ?_
 simp only [RT, Q0, Q1, Q2, Q3, Q4, Q5, Q6, Q7, Q8]
 exact q
theorem Ar5 (hw : WF A) (h : IsPo Z A pp P fo) :
 ∃ w A', EvF Try.prog HH 59 [.ptr pp 0] A w A' /\ Fr S0 A A' /\ (joinE (P.take 8) ≠ 0 -> w = .snil) /\ (joinE (P.take 8) = 0 -> Own A.blk.length A' w (writeB (batM (P.take 8))).length 1 (bc (writeB (batM (P.take 8))))) := by
 refine Aa5 rfl Try.func59 (by unfold Try.f59; rfl) Try.ntmps59 (by unfold Try.f59; rfl) (by simp) ?_
 obtain ⟨_, A1, k1, rfl, f1, q1, q2⟩ := AK1 (A := A) (pp := pp) 8
 obtain ⟨w, A2, k2, f2, fo', hL, hfo⟩ := AU3 (most := 8) (f1.wf hw) (h.fr0 f1) q1 q2
 have hP := h.ok.len
 have f12 := f1.then0 f2
 have hL : Lst (eSl eU8) (qHp (zOf fo') A2) A2 w (P.take 8) fo' := hL
 obtain ⟨_, A3, k3, f3, u, rfl, u1, u2⟩ := Bf0 (f12.wf hw) (Af6 A2) (hL.slcArr (AH0 _ _)) (by rw [List.length_take]; omega) (fun b hb => by have := AN2 (h.ok.ent b (List.mem_of_mem_take hb)); omega)
 simp only [RT, Q0, Q1, Q2, Q3, Q4, Q5, Q6, Q7, Q8]
 refine Aa0 k1 ?_
 simp only [RT, Q0, Q1, Q2, Q3, Q4, Q5, Q6, Q7, Q8]
 refine Aa0 k2 ?_
 simp only [RT, Q0, Q1, Q2, Q3, Q4, Q5, Q6, Q7, Q8]
 refine Aa0 k3 ?_
 simp only [RT, Q0, Q1, Q2, Q3, Q4, Q5, Q6, Q7, Q8]
 refine ⟨f12.then0 f3, u1, fun q => ?_⟩
 exact Own.low (u2 q) f12.len
end
end Go.Sv.Try
namespace Go.Sv.Try
open Go Go.Proofs
section
variable {A B C : AS} {m : Hp} {Z Z' : Nat -> Prop} {pp bp tp r : Nat} {P L : List Bts} {fo fl ft fh : Option Nat} {S : Loc -> Prop} {M : List ((Int × Int) × Nat)} {N : List Bts} {Hs : List HdP}
theorem B36 (b : Nat) : evFieldAddr Try.prog 162 (.ptr b 0) 0 = some (.ptr b 0) := by kernel_rfl
theorem BU2 (b : Nat) : evBuild Try.prog 162 [(0, .fn 50 [.ptr b 0] [])] = some (.agg [.fn 50 [.ptr b 0] []]) := by kernel_rfl
def hasFn (bp : Nat) : V := .fn 85 [.agg [.fn 50 [.ptr bp 0] []]] []
noncomputable def hasB (M : List ((Int × Int) × Nat)) (x : Bts) : Bool := (lookL M (nmOf x)).isSome
abbrev hasP (M : List ((Int × Int) × Nat)) (x : Bts) : Prop := hasB M x = true
theorem A53 {M : List ((Int × Int) × Nat)} {x : Bts} (h : hasP M x) : [x].filter (fun x => !decide (hasP M x)) = [] := List.filter_eq_nil_iff.2 fun y hy => by rw [List.mem_singleton.1 hy, decide_eq_true h]; decide
theorem By7 {M : List ((Int × Int) × Nat)} {x : Bts} (h : ¬ hasP M x) : [x].filter (fun x => !decide (hasP M x)) = [x] := List.filter_eq_self.2 fun y hy => by rw [List.mem_singleton.1 hy, decide_eq_false h]; rfl
set_option maxRecDepth 10000 in
theorem A54 (hb : BkR Z A bp tp r M N L Hs fl ft fh) {x : Bts} {v : V} (hv : v.one = true) :
 ∃ w A', EvF Try.prog HH 85 [.agg [.fn 50 [.ptr bp 0] []], .agg (wtC x v)] A w A' /\ Fr S0 A A' /\ w = .bool (decide (hasP M x)) := by
 have key : ∀ {B : AS}, BkR Z B bp tp r M N L Hs fl ft fh -> ∃ i er : Int, EvF Try.prog HH 50 [.ptr bp 0, .int .i64 (nmOf x).1, .int .i64 (nmOf x).2] B (.tup [.int .i64 i, .int .i64 er]) B /\ decide (er = 0) = decide (hasP M x) := fun {B} hb => by
  have kf := AN5 hb (nmOf x).1 (nmOf x).2
  have e : decide (hasP M x) = (lookL M ((nmOf x).1, (nmOf x).2)).isSome := by show decide ((lookL M ((nmOf x).1, (nmOf x).2)).isSome = true) = _; simp
  rw [e]
  cases q : lookL M ((nmOf x).1, (nmOf x).2) with
  | none => rw [q] at kf; exact ⟨_, _, kf, rfl⟩
  | some i => rw [q] at kf; exact ⟨_, _, kf, rfl⟩
 refine Aa5 rfl Try.func85 (by unfold Try.f85; rfl) Try.ntmps85 (by unfold Try.f85; rfl) (by simp) ?_
 obtain ⟨A1, e1, f1, r1, n1⟩ := Aa8 A [.fn 50 [.ptr bp 0] []]
 obtain ⟨A2, e2, f2, r2, n2⟩ := Aa8 A1 (wtC x v)
 have f12 := f1.then0 f2
 have fw := BR6 A1.blk.length
 have ldw := BG4 r2
 obtain ⟨i, er, kf, hh⟩ := key (hb.fr0 f12)
 simp only [RT, Q0, Q1, Q2, Q3, Q4, Q5, Q6, Q7, Q8, <- e1, <- e2, B36, Aa6 BX6 (f2.row0 r1), fw, ldw]
 refine Aa0 kf ?_
 simp only [RT, Q0, Q1, Q2, Q3, Q4, Q5, Q6, Q7, Q8]
 exact ⟨f12, by rw [hh]⟩
set_option maxRecDepth 10000 in
set_option maxHeartbeats 8000000 in
theorem AH5 {lv : V} (hw : WF A) (hb : BkR Z A bp tp r M N L Hs fl ft fh) (hm : m.on A) (hl : Slc eWt m lv (P.map wt)) (hP : P.length <= 1000) :
 ∃ w A', EvF Try.prog HH 103 [lv, hasFn bp] A w A' /\ Fr S0 A A' /\ ((w = .int .i64 (-1) /\ ∀ x ∈ P, ¬ hasP M x) ∨ ∃ (i : Nat) (x : Bts), w = .int .i64 i /\ P[i]? = some x /\ hasP M x /\ ∀ x ∈ P.take i, ¬ hasP M x) := by
 refine Aa5 rfl Try.func103 (by unfold Try.f103; rfl) Try.ntmps103 (by unfold Try.f103; rfl) (by simp) ?_
 have hlen := fun B => hl.len (P := Try.prog) Try.underlying128 B
 rw [List.length_map] at hlen
 simp only [RT, Q0, Q1, Q2, Q3, Q4, Q5, Q6, Q7, Q8, hlen]
 refine Aa4 (fun z e B => ∃ i : Nat, z = P.length - i /\ i <= P.length /\ e.get 8 = .int .i64 i /\ e.get 7 = .int .i64 P.length /\ e.get 0 = lv /\ e.get 1 = hasFn bp /\ Fr S0 A B /\ ∀ x ∈ P.take i, ¬ hasP M x)
  (fun z e B => Fr S0 A B /\ ((Is z (.exit 0) /\ ∀ x ∈ P, ¬ hasP M x) ∨ (Is z .ret /\ ∃ (i : Nat) (x : Bts), e.get 4 = .int .i64 i /\ P[i]? = some x /\ hasP M x /\ ∀ x ∈ P.take i, ¬ hasP M x)))
  ⟨_, 0, rfl, by omega, rfl, rfl, rfl, rfl, .refl _ _, by simp⟩ ?_ ?_
 rotate_left
 . rintro z e B hz ⟨hf, ⟨rfl, hn⟩ | ⟨rfl, i, x, h4, hx, hp, hn⟩⟩
   . simp only [RT, Q0, Q1, Q2, Q3, Q4, Q5, Q6, Q7, Q8]
     exact ⟨hf, .inl hn⟩
   . simp only [RT, Q0, Q1, Q2, Q3, Q4, Q5, Q6, Q7, Q8, h4]
     exact ⟨hf, .inr ⟨i, x, rfl, hx, hp, hn⟩⟩
 rintro z e B ⟨i, rfl, hi, h8, h7, h0, h1, hf, hn⟩
 simp only [RT, Q0, Q1, Q2, Q3, Q4, Q5, Q6, Q7, Q8, h8, h7]
 refine Aa1 (fun q1 => ?_) (fun q1 => ?_)
 rotate_left
 . have : i = P.length := by omega
   subst this
   rw [List.take_length] at hn
   simp only [RT, Q0, Q1, Q2, Q3, Q4, Q5, Q6, Q7, Q8]
   exact ⟨hf, .inl ⟨rfl, hn⟩⟩
 obtain ⟨x, hx⟩ := Ac9 (l := P) (i := i) (by omega)
 have hx' : (P.map wt)[i]? = some (wt x) := by rw [List.getElem?_map, hx]; rfl
 obtain ⟨bb, o, c, g3, g4, g5⟩ := hl.at (P := Try.prog) (k := .i64) (hm.fr0 hf) Try.underlying128 AI5 Bl3 hx'
 obtain ⟨v, rfl, hv⟩ := Bn6 g5
 obtain ⟨_, C, k1, f1, rfl⟩ := A54 (hb.fr0 hf) (x := x) hv.one
 have hwi : IntKind.i64.wrap ((i : Int) + 1) = ((i + 1 : Nat) : Int) := by rw [Ad6 (by omega)]
 have hfC := hf.then0 f1
 simp only [RT, Q0, Q1, Q2, Q3, Q4, Q5, Q6, Q7, Q8, h8, h1, hasFn, h0, g3, g4]
 refine Aa0 k1 ?_
 by_cases c1 : hasP M x
 . simp only [RT, Q0, Q1, Q2, Q3, Q4, Q5, Q6, Q7, Q8, decide_eq_true c1, h8]
   refine ⟨hfC, .inr ⟨rfl, i, x, rfl, hx, c1, hn⟩⟩
 . have hn' : ∀ y ∈ P.take (i + 1), ¬ hasP M y := fun y hy => by
    rw [Ac4 hx] at hy
    rcases List.mem_append.1 hy with hy | hy
    . exact hn y hy
    . rw [List.mem_singleton.1 hy]; exact c1
   simp only [RT, Q0, Q1, Q2, Q3, Q4, Q5, Q6, Q7, Q8, decide_eq_false c1, h8, hwi]
   refine ⟨P.length - (i + 1), by omega, i + 1, rfl, by omega, ?_⟩
   and_intros <;> first | rfl | assumption
theorem BkR.offP (hb : BkR Z A bp tp r M N L Hs fl ft fh) (hw : WF A) (hd : ∀ f, bkF fl ft fh f -> fo ≠ some f) (hz : ∀ f, fo = some f -> Z f) (hf : Fr (inFamO A fo) A B) : BkR Z B bp tp r M N L Hs fl ft fh := by
 obtain ⟨⟨_, x1⟩, _, x2⟩ := hb.box
 have o : ∀ {g : Option Nat}, (∀ f, g = some f -> bkF fl ft fh f) -> Off g A (inFamO A fo) := fun {g} hg => AB7 fun f q => by
  intro z
  exact hd f (hg f z) q
 exact hb.frO hf (Aa9 x1) (Aa9 x2) (fun q => by cases fo <;> exact q.elim) (o fun f q => .inl q) (o fun f q => .inr (.inl q)) (o fun f q => .inr (.inr q)) (Ad1 hf (.famO fun f q => .inl (hz f q)) hw fun f q => .inl q)
noncomputable def restP (M : List ((Int × Int) × Nat)) (P : List Bts) : List Bts := P.filter fun x => !decide (hasP M x)
set_option maxRecDepth 10000 in
set_option maxHeartbeats 32000000 in
theorem AD7 {lv : V} (hw : WF A) (hb : BkR Z' A bp tp r M N L Hs fl ft fh) (hd : ∀ f, bkF fl ft fh f -> fo ≠ some f) (hz : ∀ f, fo = some f -> Z' f) (hl : Lst eWt (qHp (poX Z fo) A) A lv (P.map wt) fo) (hP : P.length <= 1000) :
 ∃ w A', EvF Try.prog HH 84 [lv, hasFn bp] A w A' /\ Fr (inFamO A fo) A A' /\ Lst eWt (qHp (poX Z fo) A) A' w ((restP M P).map wt) fo := by
 refine Aa5 rfl Try.func84 (by unfold Try.f84; rfl) Try.ntmps84 (by unfold Try.f84; rfl) (by simp) ?_
 obtain ⟨mm, hmm⟩ : ∃ x, x = qHp (poX Z fo) A := ⟨_, rfl⟩
 rw [<- hmm] at hl ⊢
 have hmo : mm.on A := by rw [hmm]; exact Ao8 _ _
 have hms : ∀ b, inFamO A fo (.row b) -> mm b = none := fun b q => by
  cases hfo : fo with
  | none => rw [hfo] at q; exact q.elim
  | some f => rw [hfo] at q; rw [hmm]; exact Az7 (.inr hfo) q
 have hsl := hl.slcArr (by rw [hmm]; exact AH0 _ _)
 obtain ⟨_, A1, k1, f1, hidx⟩ := AH5 hw hb (Af6 A) hsl hP
 simp only [RT, Q0, Q1, Q2, Q3, Q4, Q5, Q6, Q7, Q8]
 refine Aa0 k1 ?_
 rcases hidx with ⟨rfl, hno⟩ | ⟨i, x0, rfl, hx0, hp0, hno⟩
 . have e : restP M P = P := List.filter_eq_self.2 fun x hx => by rw [decide_eq_false (hno x hx)]; rfl
   simp only [RT, Q0, Q1, Q2, Q3, Q4, Q5, Q6, Q7, Q8]
   rw [e]
   exact ⟨f1.mono fun _ q => q.elim, hl.fr0 f1⟩
 have hi0 := (List.getElem?_eq_some_iff.1 hx0).1
 have wi : IntKind.i64.wrap ((i : Int) + 1) = ((i + 1 : Nat) : Int) := by rw [Ad6 (by omega)]
 have hne : ¬ ((i : Int) = -1) := by omega
 simp only [RT, Q0, Q1, Q2, Q3, Q4, Q5, Q6, Q7, Q8, decide_eq_false hne, wi]
 have hrest0 : (P.take (i + 1)).filter (fun x => !decide (hasP M x)) = P.take i := by
  rw [Ac4 hx0, List.filter_append, List.filter_eq_self.2 (fun x hx => by rw [decide_eq_false (hno x hx)]; rfl), A53 hp0, List.append_nil]
 refine Aa4 (fun z e B => ∃ (j k : Nat) (cur : List Bts), z = P.length - j /\ j <= P.length /\ k < j /\ cur.length = P.length /\ cur.take k = (P.take j).filter (fun x => !decide (hasP M x)) /\ cur.drop j = P.drop j /\ e.get 6 = .int .i64 j /\ e.get 5 = .int .i64 k /\ e.get 0 = lv /\ e.get 1 = hasFn bp /\ Fr (inFamO A fo) A B /\ Lst eWt mm B lv (cur.map wt) fo)
  (fun z e B => Is z (.exit 0) /\ ∃ (k : Nat) (cur : List Bts), k <= cur.length /\ cur.take k = restP M P /\ e.get 5 = .int .i64 k /\ e.get 0 = lv /\ Fr (inFamO A fo) A B /\ Lst eWt mm B lv (cur.map wt) fo)
  ⟨_, i + 1, i, P, rfl, by omega, by omega, rfl, hrest0.symm, rfl, rfl, rfl, rfl, rfl, f1.mono fun _ q => q.elim, hl.fr0 f1⟩ ?_ ?_
 . rintro z e B ⟨j, k, cur, rfl, hj, hkj, hcl, htk, hdr, h6, h5, h0, h1, hf, hL⟩
   have hlen := fun X => hL.len (P := Try.prog) Try.underlying128 X
   rw [List.length_map, hcl] at hlen
   simp only [RT, Q0, Q1, Q2, Q3, Q4, Q5, Q6, Q7, Q8, h6, h0, hlen]
   refine Aa1 (fun q1 => ?_) (fun q1 => ?_)
   rotate_left
   . have : j = P.length := by omega
     subst this
     rw [List.take_length] at htk
     simp only [RT, Q0, Q1, Q2, Q3, Q4, Q5, Q6, Q7, Q8]
     refine ⟨rfl, k, cur, by omega, htk, ?_⟩
     and_intros <;> first | rfl | assumption
   have wB := hf.wf hw
   obtain ⟨x, hx⟩ := Ac9 (l := P) (i := j) (by omega)
   have hcx : cur[j]? = some x := by
    have := congrArg (fun l => l[0]?) hdr
    simp only [List.getElem?_drop] at this
    rw [Nat.add_zero] at this
    rw [this, hx]
   have hdr' : cur.drop (j + 1) = P.drop (j + 1) := by rw [<- List.drop_drop, <- List.drop_drop, hdr]
   have hx' : (cur.map wt)[j]? = some (wt x) := by rw [List.getElem?_map, hcx]; rfl
   obtain ⟨bb, o, c, g3, g4, g5⟩ := hL.at (P := Try.prog) (k := .i64) (hmo.fr hf hms) Try.underlying128 AI5 Bl3 hx'
   obtain ⟨v, rfl, hv⟩ := Bn6 g5
   obtain ⟨C, s1, s2, s3⟩ := Bn7 (A := B) (x := x) hv.one
   have ldw := (BG4 s3).2.2.2
   have fC := hf.then0 s2
   obtain ⟨_, D, k2, f2, rfl⟩ := A54 (hb.offP hw hd hz fC) (x := x) hv.one
   have fD := fC.then0 f2
   have sD := f2.row0 s3
   have ldw2 := (BG4 sD).2.2.2
   have wD := fD.wf hw
   have wj : IntKind.i64.wrap ((j : Int) + 1) = ((j + 1 : Nat) : Int) := by rw [Ad6 (by omega)]
   have wk : IntKind.i64.wrap ((k : Int) + 1) = ((k + 1 : Nat) : Int) := by rw [Ad6 (by omega)]
   have hLD := (hL.fr0 s2).fr0 f2
   simp only [RT, Q0, Q1, Q2, Q3, Q4, Q5, Q6, Q7, Q8, h0, h6, g3, g4, Bv9, s1, h1, hasFn, ldw]
   refine Aa0 k2 ?_
   by_cases c1 : hasP M x
   . have htk' : cur.take k = (P.take (j + 1)).filter (fun x => !decide (hasP M x)) := by rw [Ac4 hx, List.filter_append, <- htk, A53 c1, List.append_nil]
     simp only [RT, Q0, Q1, Q2, Q3, Q4, Q5, Q6, Q7, Q8, decide_eq_true c1, h6, wj]
     refine ⟨P.length - (j + 1), by omega, j + 1, k, cur, rfl, by omega, by omega, hcl, htk', hdr', ?_⟩
     and_intros <;> first | rfl | assumption
   . obtain ⟨b5, o5, E, t1, t2, t3, t4⟩ := hLD.set (P := Try.prog) (k := .i64) Try.underlying128 AI5 (i := k) (by rw [List.length_map]; omega) (x := wt x) (xv := .agg (wtC x v)) (c := wtC x v) rfl (BJ4 hv)
     rw [<- List.map_set] at t3
     have htk' : (cur.set k x).take (k + 1) = (P.take (j + 1)).filter (fun x => !decide (hasP M x)) := by
      rw [Ac4 hx, List.filter_append, <- htk, List.take_set]
      have : (cur.take (k + 1)).set k x = cur.take k ++ [x] := by
       obtain ⟨y, hy⟩ := Ac9 (l := cur) (i := k) (by omega)
       rw [Ac4 hy, List.set_append_right _ _ (by rw [List.length_take]; omega)]
       rw [List.length_take, show k - min k cur.length = 0 by omega]; rfl
      rw [this, By7 c1]
     have hdr2 : (cur.set k x).drop (j + 1) = P.drop (j + 1) := by rw [List.drop_set_of_lt (by omega), hdr']
     have hcl' : (cur.set k x).length = P.length := by rw [List.length_set, hcl]
     have fE : Fr (inFamO A fo) A E := fD.trans t4 fun z q => Ab6 fD q
     simp only [RT, Q0, Q1, Q2, Q3, Q4, Q5, Q6, Q7, Q8, decide_eq_false c1, h0, h5, ldw2, t1, t2, wk, h6, wj]
     refine ⟨P.length - (j + 1), by omega, j + 1, k + 1, cur.set k x, rfl, by omega, by omega, hcl', htk', hdr2, ?_⟩
     and_intros <;> first | rfl | assumption
 . rintro z e B hz ⟨rfl, k, cur, hk, htk, h5, h0, hf, hL⟩
   obtain ⟨w, u, C, t1, t2, t3, t4, t5⟩ := hL.clearEnd (P := Try.prog) (k := .i64) (k' := .i64) Try.underlying128 AI5 (by decide) Bv9 rfl rfl (by kernel_rfl) (n := k) (by rw [List.length_map]; exact hk) B
   rw [<- List.map_take, htk] at t4
   simp only [RT, Q0, Q1, Q2, Q3, Q4, Q5, Q6, Q7, Q8, h0, h5, t1, BE5, t2, t3 C]
   exact ⟨hf.trans t5 fun z q => Ab6 hf q, t4⟩
set_option maxRecDepth 10000 in
set_option maxHeartbeats 8000000 in
theorem AN9 (hw : WF A) (h : IsPo Z A pp P fo) (hb : BkR Z' A bp tp r (mapOf L) N L Hs fl ft fh) (hd : ∀ f, bkF fl ft fh f -> fo ≠ some f) (hz : ∀ f, fo = some f -> Z' f) :
 ∃ w A', EvF Try.prog HH 58 [.ptr pp 0, .ptr bp 0] A w A' /\ w = .int .i64 ((P.length : Int) - (doneP P L).length) /\ Fr (poS A pp fo) A A' /\ IsPo Z A' pp (doneP P L) fo := by
 refine Aa5 rfl Try.func58 (by unfold Try.f58; rfl) Try.ntmps58 (by unfold Try.f58; rfl) (by simp) ?_
 obtain ⟨lv, h1, h2⟩ := h.ex
 have hP := h.ok.len
 have hlen := fun B => h2.len (P := Try.prog) Try.underlying128 B
 rw [List.length_map] at hlen
 obtain ⟨w, A1, k1, f1, hL⟩ := AD7 hw hb hd hz h2 (by omega)
 have e : restP (mapOf L) P = doneP P L := by
  unfold restP doneP
  congr 1; funext x
  show (!decide ((lookL (mapOf L) (nmOf x)).isSome = true)) = _
  cases lookL (mapOf L) (nmOf x) <;> simp
 rw [e] at hL
 have r1 := f1.row _ _ h1 (Aa9 h1)
 obtain ⟨A2, s1, s2, s3, s4⟩ := Ae4 (P := Try.prog) (t := 128) (x := w) r1 (one_cells hL.one) BQ9 hL.one
 have hlen2 := fun B => hL.len (P := Try.prog) Try.underlying128 B
 rw [List.length_map] at hlen2
 have hdl : (doneP P L).length <= P.length := List.length_filter_le _ _
 have hwd : IntKind.i64.wrap ((P.length : Int) - ((doneP P L).length : Int)) = (P.length : Int) - ((doneP P L).length : Int) := Ae1 (by omega) (by omega)
 have ld1 := Aa6 (P := Try.prog) (t := 128) AY6 h1
 have hk1 : EvF Try.prog HH 84 [lv, .fn 85 [.agg [.fn 50 [.ptr bp 0] []]] []] A w A1 := k1
 simp only [RT, Q0, Q1, Q2, Q3, Q4, Q5, Q6, Q7, Q8, Bv8, Bv7, ld1, hlen, BU2]
 refine Aa0 hk1 ?_
 simp only [RT, Q0, Q1, Q2, Q3, Q4, Q5, Q6, Q7, Q8, Bv8, Bv7, s1, Aa6 AY6 s3, hlen2, hwd]
 have wA1 := f1.wf hw
 refine ⟨(f1.mono fun z q => .inr q).trans s2 fun z q => .inl (.inl q), ⟨⟨w, s3, ?_⟩, h.ok.filter _⟩⟩
 refine (hL.fr s2 (.box r1)).mono (Hp.le_trans (Ad1 f1 (.famO fun f q => .inr q) hw fun f q => .inl q) (Ad1 s2 (.box r1) wA1 fun f q => .inl q))
end
end Go.Sv.Try
namespace Go.Sv.Try
open Go Go.Proofs
theorem AU4 : ∀ {l L : List Bts}, OnceN (L ++ l) -> (∀ x ∈ l, entC x = 0) -> L.length + l.length <= 1000 -> l.foldl addE L = L ++ l
 | [], L, _, _, _ => by simp
 | x :: l, L, h, he, hl => by
  have hn : lookL (mapOf L) (nmOf x) = none := by
   unfold mapOf
   refine Au4 0 fun y hy q => ?_
   unfold OnceN at h
   rw [List.map_append, List.nodup_append] at h
   exact h.2.2 (nmOf y) (List.mem_map_of_mem hy) (nmOf x) (by simp) q
  rw [List.foldl_cons, Au2 (he x (by simp)) hn (by simp at hl; omega)]
  rw [AU4 (L := L ++ [x]) (by rw [List.append_assoc]; exact h) (fun y hy => he y (by simp [hy])) (by simp at hl ⊢; omega), List.append_assoc]; rfl
theorem Bf6 {L P : List Bts} (h : OnceN (L ++ P)) (n : Nat) : doneP P (L ++ P.take n) = P.drop n := by
 have key : ∀ (L P : List Bts) (n : Nat), OnceN (L ++ P) -> P.filter (fun x => (lookL (mapOf (L ++ P.take n)) (nmOf x)).isNone) = P.drop n := by
  intro L P n h
  have e : P = P.take n ++ P.drop n := (List.take_append_drop n P).symm
  have h1 : (P.take n).filter (fun x => (lookL (mapOf (L ++ P.take n)) (nmOf x)).isNone) = [] := List.filter_eq_nil_iff.2 fun x hx => by
   obtain ⟨j, hj⟩ := List.getElem?_of_mem hx
   have ho : OnceN (L ++ P.take n) := by
    unfold OnceN at h ⊢
    exact h.sublist ((List.Sublist.append_left (List.take_sublist n P) L).map _)
   have hjj : (L ++ P.take n)[L.length + j]? = some x := by rw [List.getElem?_append_right (by omega), show L.length + j - L.length = j by omega, hj]
   rw [By5 ho hjj]; simp
  have h2 : (P.drop n).filter (fun x => (lookL (mapOf (L ++ P.take n)) (nmOf x)).isNone) = P.drop n := List.filter_eq_self.2 fun x hx => by
   have : lookL (mapOf (L ++ P.take n)) (nmOf x) = none := by
    unfold mapOf
    refine Au4 0 fun y hy q => ?_
    unfold OnceN at h
    rw [e, <- List.append_assoc, List.map_append, List.nodup_append] at h
    exact h.2.2 (nmOf y) (List.mem_map_of_mem hy) (nmOf x) (List.mem_map_of_mem hx) q
   rw [this]; rfl
  conv => lhs; rw [e]
  rw [List.filter_append]
  have e2 : ∀ z : List Bts, z = P.take n -> (P.take n ++ P.drop n).take n = P.take n := fun _ _ => by rw [List.take_append_drop]
  simp only [e2 _ rfl, h1, h2, List.nil_append]
 exact key L P n h
theorem Ax8 : ∀ {l : List Bts}, (∀ x ∈ l, entC x = 0) -> lens l <= l.length * 410
 | [], _ => by simp [lens, sumOf]
 | x :: l, h => by
  have h1 := Ax8 (l := l) fun y hy => h y (by simp [hy])
  have h2 := Ap3 (h x (by simp))
  simp only [lens, sumOf, List.length_cons] at h1 ⊢
  omega
theorem AD8 {P : List Bts} (h : ∀ x ∈ P, entC x = 0) (n : Nat) (hn : n <= 8) : joinE (P.take n) = 0 := by
 have hl : (P.take n).length <= 8 := by rw [List.length_take]; omega
 refine Bn2 hl ?_
 have := Ax8 (l := P.take n) fun x hx => h x (List.mem_of_mem_take hx)
 omega
theorem A06 {P : List Bts} (h : ∀ x ∈ P, entC x = 0) : (writeB (batM (P.take 8))).length <= 10000 := by
 have h1 := Ax7 (P9 (batM (P.take 8))) 1
 have h2 := Ax8 (l := P.take 8) fun x hx => h x (List.mem_of_mem_take hx)
 have h3 : (P.take 8).length <= 8 := by rw [List.length_take]; omega
 have h4 := Ad7 (P.take 8)
 have e : ((P9 (batM (P.take 8))).map fun b => b.length + 4).sum = ((P.take 8).flatMap runB).length + 36 := by
  unfold P9 batM msg0
  simp [Ac8]
  omega
 unfold writeB fieldList
 rw [List.length_cons]
 omega
theorem A98 {L P : List Bts} (h : OnceN (L ++ P)) (he : ∀ x ∈ P, entC x = 0) (hl : L.length + P.length <= 1000) : applyB L (writeB (batM (P.take 8))) = L ++ P.take 8 := by
 have hj := AD8 he 8 (Nat.le_refl _)
 have h8 : (P.take 8).length <= 8 := by rw [List.length_take]; omega
 have hc : checkM (batM (P.take 8)) = 0 := by unfold joinE at hj; rw [if_neg (by omega)] at hj; exact hj
 unfold applyB
 rw [Bf2 h8 hc]
 refine AU4 ?_ (fun x hx => he x (List.mem_of_mem_take hx)) (by rw [List.length_take]; omega)
 unfold OnceN at h ⊢
 exact h.sublist ((List.Sublist.append_left (List.take_sublist 8 P) L).map _)
def pbZ (X : Nat -> Prop) (fl ft fh : Option Nat) : Nat -> Prop := fun f => X f ∨ bkF fl ft fh f
structure PB (X : Nat -> Prop) (A B : AS) (pp : Nat) (P : List Bts) (fo : Option Nat) (bp tp r : Nat) (L : List Bts) (Hs : List HdP) (fl ft fh : Option Nat) : Prop where
 fr : Fr S0 A B
 po : IsPo (pbZ X fl ft fh) B pp P fo
 bk : IsBk (pbZ X fo none none) B bp tp r L Hs fl ft fh
 d : ∀ f, bkF fl ft fh f -> fo ≠ some f
 dx : ∀ f, X f -> ¬ bkF fl ft fh f /\ fo ≠ some f
 n1 : pp ≠ bp
 n2 : pp ≠ tp
 l1 : A.blk.length <= pp
 l2 : A.blk.length <= bp
 l3 : A.blk.length <= tp
 l4 : A.maps.length <= r
 lf : ∀ f, bkF fl ft fh f -> A.blk.length <= f
 lo : ∀ f, fo = some f -> A.blk.length <= f
section
variable {A B C : AS} {m : Hp} {X Y : Nat -> Prop} {pp bp tp r : Nat} {P L : List Bts} {fo fl ft fh : Option Nat} {S : Loc -> Prop} {Hs : List HdP}
theorem A55 {Z : Nat -> Prop} {M : List ((Int × Int) × Nat)} {N : List Bts} (h : BkR Z A bp tp r M N L Hs fl ft fh) : ∀ f, bkF fl ft fh f -> f < A.blk.length := fun f q => by
 obtain ⟨_, _, a, b, c⟩ := h.lt
 rcases q with q | q | q
 . exact a f q
 . exact b f q
 . exact c f q
theorem PB.fr0 (h : PB X A B pp P fo bp tp r L Hs fl ft fh) (hf : Fr S0 B C) : PB X A C pp P fo bp tp r L Hs fl ft fh :=
 { h with fr := h.fr.then0 hf, po := h.po.fr0 hf, bk := h.bk.fr0 hf }
theorem PB.put (h : PB X A B pp P fo bp tp r L Hs fl ft fh) (hw : WF A) (hX : ∀ f, X f -> f < B.blk.length) (hm : m.on B) {v : V} {x : Bts} (hv : Slc eU8 m v x) (hx : x.length <= 1000000000) :
 ∃ C fo', EvF Try.prog HH 26 [.ptr pp 0, v] B (.int .i64 (putC P x)) C /\ Fr (poS B pp fo) B C /\ Gr B fo fo' /\ PB X A C pp (putP P x) fo' bp tp r L Hs fl ft fh := by
 have hwB := h.fr.wf hw
 have lb := A55 h.bk.raw
 obtain ⟨_, C, k, rfl, f, fo', k1, k2⟩ := AU2 hwB (fun g q => q.elim (hX g) (lb g)) h.po hm hv hx
 obtain ⟨⟨_, x1⟩, _, x2⟩ := h.bk.raw.box
 obtain ⟨lv, y1, _⟩ := h.po.ex
 have hAB := h.fr.len
 refine ⟨C, fo', k, f, k2, { h with fr := h.fr.trans f fun z q => .inr (Bf5 hw h.fr h.l1 h.lo z q), po := k1, bk := h.bk.oth hwB f ?_ ?_ ?_ (.or (.box y1) (.famO fun g q => .inr (.inl q))) (fun g q z => ?_) (fun g q => ?_), d := fun g q z => ?_, dx := fun g q => ⟨(h.dx g q).1, fun z => ?_⟩, lo := fun g q => ?_ }⟩
 . rintro (q | q)
   . cases q; exact h.n1 rfl
   . exact Aa9 x1 q
 . rintro (q | q)
   . cases q; exact h.n2 rfl
   . exact Aa9 x2 q
 . rintro (q | q)
   . cases q
   . cases fo <;> exact q.elim
 . rcases z with z | z | z | z
   . exact (h.dx g z).1 q
   . exact h.d g q z
   . cases z
   . cases z
 . rcases q with q | q | q | q
   . exact .inl (.inl q)
   . exact (k2.or q).imp (fun y => .inr (.inl y)) id
   . cases q
   . cases q
 . rcases k2.or z with y | y
   . exact h.d g q y
   . have := lb g q; omega
 . rcases k2.or z with y | y
   . exact (h.dx g q).2 y
   . have := hX g q; omega
 . rcases k2.or q with y | y
   . exact h.lo g y
   . omega
theorem PB.app (h : PB X A B pp P fo bp tp r L Hs fl ft fh) (hw : WF A) (hX : ∀ f, X f -> f < B.blk.length) (hm : m.on B) {v : V} {b : Bts} (hv : Slc eU8 m v b) (hb : b.length <= 1000000000) (hH : Hs.length <= 1000) :
 ∃ C fl' ft' fh', EvF Try.prog HH 44 [.ptr bp 0, v] B (.int .i64 (((applyB L b).length : Int) - L.length)) C /\ Fr (bkS B bp tp r fl ft fh) B C /\ PB X A C pp P fo bp tp r (applyB L b) (Hs ++ [hdOf Hs (applyB L b)]) fl' ft' fh' /\ ∀ g, bkF fl' ft' fh' g -> bkF fl ft fh g ∨ B.blk.length <= g := by
 have hwB := h.fr.wf hw
 have lb := A55 h.bk.raw
 have lo := h.po.lt.2
 obtain ⟨_, C, k, rfl, f, fl', ft', fh', k1, g1, g2, g3⟩ := Ax5 hwB (fun g q => by
  rcases q with q | q | q | q
  . exact hX g q
  . exact lo g q
  . cases q
  . cases q) h.bk hm hv (by omega) (by omega)
 have gg : ∀ g, bkF fl' ft' fh' g -> bkF fl ft fh g ∨ B.blk.length <= g := fun g y => by
  rcases y with y | y | y
  . exact (g1.or y).imp .inl id
  . exact (g2.or y).imp (fun z => .inr (.inl z)) id
  . exact (g3.or y).imp (fun z => .inr (.inr z)) id
 obtain ⟨lv, y1, _⟩ := h.po.ex
 have hAB := h.fr.len
 refine ⟨C, fl', ft', fh', k, f, { h with fr := h.fr.trans f fun z y => .inr (AN6 hw h.fr h.l2 h.l3 h.l4 (fun g y => h.lf g (.inl y)) (fun g y => h.lf g (.inr (.inl y))) (fun g y => h.lf g (.inr (.inr y))) z y), bk := k1, po := h.po.oth hwB f (As5 y1 h.n1 h.n2) (AN7 h.bk.raw fun g y => .inr y) (fun g q z => ?_) (fun g q => ?_), d := fun g q z => ?_, dx := fun g q => ⟨fun z => ?_, (h.dx g q).2⟩, lf := fun g q => ?_ }, gg⟩
 . rcases z with z | z
   . exact (h.dx g z).2 q
   . exact h.d g z q
 . rcases q with q | q
   . exact .inl (.inl q)
   . exact (gg g q).imp .inr id
 . rcases gg g q with y | y
   . exact h.d g y z
   . have := lo g z; omega
 . rcases gg g z with y | y
   . exact (h.dx g q).1 y
   . have := hX g q; omega
 . rcases gg g q with y | y
   . exact h.lf g y
   . omega
theorem PB.done (h : PB X A B pp P fo bp tp r L Hs fl ft fh) (hw : WF A) :
 ∃ C, EvF Try.prog HH 58 [.ptr pp 0, .ptr bp 0] B (.int .i64 ((P.length : Int) - (doneP P L).length)) C /\ Fr (poS B pp fo) B C /\ PB X A C pp (doneP P L) fo bp tp r L Hs fl ft fh := by
 have hwB := h.fr.wf hw
 obtain ⟨_, C, k, rfl, f, k1⟩ := AN9 hwB h.po h.bk.raw h.d (fun g q => .inr (.inl q))
 obtain ⟨⟨_, x1⟩, _, x2⟩ := h.bk.raw.box
 obtain ⟨lv, y1, _⟩ := h.po.ex
 refine ⟨C, k, f, { h with fr := h.fr.trans f fun z q => .inr (Bf5 hw h.fr h.l1 h.lo z q), po := k1, bk := h.bk.oth hwB f ?_ ?_ ?_ (.or (.box y1) (.famO fun g q => .inr (.inl q))) (fun g q z => ?_) (fun g q => .inl q) }⟩
 . rintro (q | q)
   . cases q; exact h.n1 rfl
   . exact Aa9 x1 q
 . rintro (q | q)
   . cases q; exact h.n2 rfl
   . exact Aa9 x2 q
 . rintro (q | q)
   . cases q
   . cases fo <;> exact q.elim
 . rcases z with z | z | z | z
   . exact (h.dx g z).1 q
   . exact h.d g q z
   . cases z
   . cases z
theorem PB.round (h : PB X A B pp P fo bp tp r L Hs fl ft fh) (hw : WF A) (hX : ∀ f, X f -> f < B.blk.length) (ho : OnceN (L ++ P)) (hl : L.length + P.length <= 1000) (hH : Hs.length <= 900) :
 ∃ w C1 C2 C3 Hs' fl' ft' fh', EvF Try.prog HH 59 [.ptr pp 0] B w C1 /\ EvF Try.prog HH 44 [.ptr bp 0, w] C1 (.int .i64 ((min 8 P.length : Nat) : Int)) C2 /\ EvF Try.prog HH 58 [.ptr pp 0, .ptr bp 0] C2 (.int .i64 ((min 8 P.length : Nat) : Int)) C3 /\ PB X A C3 pp (P.drop 8) fo bp tp r (L ++ P.take 8) Hs' fl' ft' fh' /\ Hs'.length = Hs.length + 1 /\ Fr (fun z => poS B pp fo z ∨ bkS B bp tp r fl ft fh z) B C3 := by
 have hwB := h.fr.wf hw
 obtain ⟨w, C1, k1, f1, _, hb⟩ := Ar5 hwB h.po
 have hj := AD8 h.po.ok.ent 8 (Nat.le_refl _)
 have hb := hb hj
 have hc : checkM (batM (P.take 8)) = 0 := by unfold joinE at hj; rw [if_neg (by rw [List.length_take]; omega)] at hj; exact hj
 have h1 := h.fr0 f1
 have hsl := hb.arrBts
 have hlen := A06 h.po.ok.ent
 have l1 := f1.len
 obtain ⟨C2, fl', ft', fh', k2, f2, h2, _⟩ := h1.app hw (fun f q => by have := hX f q; omega) (Af6 C1) hsl (by omega) (by omega)
 rw [A98 ho h.po.ok.ent hl] at k2 h2
 obtain ⟨C3, k3, f3, h3⟩ := h2.done hw
 rw [Bf6 ho 8] at k3 h3
 have e1 : ((L ++ P.take 8).length : Int) - (L.length : Int) = ((min 8 P.length : Nat) : Int) := by rw [List.length_append, List.length_take]; omega
 have e2 : ((P.length : Int)) - ((P.drop 8).length : Int) = ((min 8 P.length : Nat) : Int) := by rw [List.length_drop]; omega
 rw [e1] at k2
 rw [e2] at k3
 have f12 : Fr (fun z => poS B pp fo z ∨ bkS B bp tp r fl ft fh z) B C2 := (f1.mono fun _ q => q.elim : Fr (fun z => poS B pp fo z ∨ bkS B bp tp r fl ft fh z) B C1).trans f2 fun z q => by
  rcases q with q | q | q | q | q | q
  . exact .inl (.inr (.inl q))
  . exact .inl (.inr (.inr (.inl q)))
  . exact .inl (.inr (.inr (.inr (.inl q))))
  . exact (Ab6 f1 q).imp (fun y => .inr (.inr (.inr (.inr (.inl y))))) id
  . exact (Ab6 f1 q).imp (fun y => .inr (.inr (.inr (.inr (.inr (.inl y)))))) id
  . exact (Ab6 f1 q).imp (fun y => .inr (.inr (.inr (.inr (.inr (.inr y)))))) id
 exact ⟨w, C1, C2, C3, _, fl', ft', fh', k1, k2, k3, h3, by simp, f12.trans f3 fun z q => by
  rcases q with q | q
  . exact .inl (.inl (.inl q))
  . exact (Ab6 f12 q).imp (fun y => .inl (.inr y)) id⟩
theorem By8 (hw : WF A) (hX : ∀ f, ¬ X f) : ∃ w1 B1 w2 B2 pp bp tp r ft, EvF Try.prog HH 25 [] A w1 B1 /\ EvF Try.prog HH 43 [] B1 w2 B2 /\ w1 = .ptr pp 0 /\ w2 = .ptr bp 0 /\ PB X A B2 pp [] none bp tp r [] [] none ft none := by
 obtain ⟨_, B1, k1, f1, rfl, p1⟩ := AU0 (A := A) (Z := X)
 obtain ⟨_, B2, k2, f2, bp, tp, r, ft, rfl, hB, hft, g1, g2, g3⟩ := AT8 (Z := pbZ X none none none) (f1.wf hw)
 have l1 := f1.len
 have l1' := f1.mlen
 have hlp := p1.lt.1
 have lft : ∀ f, bkF none ft none f -> B1.blk.length <= f := fun f q => by
  rcases q with q | q | q
  . cases q
  . exact hft f q
  . cases q
 refine ⟨_, B1, _, B2, A.blk.length, bp, tp, r, ft, k1, k2, rfl, rfl, { fr := f1.then0 f2, po := p1.oth (f1.wf hw) f2 (fun q => q) .s0 (fun f q => by cases q) (fun f q => ?_), bk := hB, d := fun f q z => (by cases z), dx := fun f q => absurd q (hX f), n1 := by omega, n2 := by omega, l1 := Nat.le_refl _, l2 := by omega, l3 := by omega, l4 := by omega, lf := fun f q => by have := lft f q; omega, lo := fun f q => (by cases q) }⟩
 rcases q with q | q
 . exact .inl q
 . exact .inr (lft f q)
end
end Go.Sv.Try
