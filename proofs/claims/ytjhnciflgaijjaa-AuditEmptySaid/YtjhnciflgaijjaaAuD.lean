/- Audits: which heads aren't those of a list. -/
import Derived.Test.YtjhnciflgaijjaaAuC
import Derived.Test.YtjhnciflgaijjaaSv4
import Derived.Test.YtjhnciflgaijjaaAuA
namespace Go.Sv
open Go
set_option linter.unusedVariables false
abbrev HdP := Int × Int × Bts
def rightD (ls : List Bts) (h : HdP) : Prop := 0 ≤ h.2.1 ∧ h.2.1 ≤ ls.length ∧ rootR ((ls.map leafH).take h.2.1.toNat) = h.2.2
instance (ls : List Bts) (h : HdP) : Decidable (rightD ls h) := by unfold rightD; infer_instance
def badP (ls : List Bts) (hs : List HdP) (i : Nat) : Bool := match hs[i]? with
  | some h => !decide (rightD ls h)
  | none => false
def badH (ls : List Bts) (hs : List HdP) : List Nat := (List.range hs.length).filter (badP ls hs)
theorem run_cutA {P : Program} {H : Hints} {f : FuncId} {nt : Nat} {a : Kt} {k2 : List Kt} {x : Ex} {e : Env} {A : AS} {Q : Ex → Env → AS → Prop} (R : Ex → Env → AS → Prop) (h : Run P H f nt [a] x e A R) (hk : ∀ x e A, R x e A → Run P H f nt k2 x e A Q) : Run P H f nt (a :: k2) x e A Q := run_app (k1 := [a]) h hk
theorem filt_at {p : Nat → Bool} {i n : Nat} (h : i < n) (hp : p i = true) : ((List.range n).filter p)[((List.range i).filter p).length]? = some i := by
  obtain ⟨k, rfl⟩ : ∃ k, n = i + 1 + k := ⟨n - (i + 1), by omega⟩
  rw [List.range_add, List.range_succ, List.filter_append, List.filter_append, List.append_assoc, List.getElem?_append_right (Nat.le_refl _), Nat.sub_self]
  simp [hp]
theorem filt_succ {p : Nat → Bool} {i : Nat} : ((List.range (i + 1)).filter p) = (List.range i).filter p ++ (if p i = true then [i] else []) := by
  rw [List.range_succ, List.filter_append]
  congr 1
  cases h : p i <;> simp [h]
end Go.Sv
namespace Go.Sv.Try
open Go Go.Proofs
set_option linter.unusedVariables false
set_option linter.unusedSimpArgs false
def smallS (l : List (List Bts)) : Prop := l.length ≤ 8 ∧ ∀ x ∈ l, x.length ≤ 12 ∧ ∀ b ∈ x, b.length ≤ 1000
set_option maxRecDepth 10000 in
set_option maxHeartbeats 8000000 in
theorem fewS_spec {m : Hp} {A : AS} {v : V} {l : List (List Bts)} (hm : m.on A) (h : Slc (eSl (eSl eU8)) m v l) : ∃ w, EvF Try.prog HH 18 [v] A w A ∧ ∃ r, w = .bool r ∧ (r = true → smallS l) := by
  have key : ∃ w A', EvF Try.prog HH 18 [v] A w A' ∧ A' = A ∧ ∃ r, w = .bool r ∧ (r = true → smallS l) := by
    refine run_fn2 rfl Try.func18 (by unfold Try.f18; rfl) Try.ntmps18 (by unfold Try.f18; rfl) (by simp) ?_
    have hlen := fun B => h.len (P := Try.prog) Try.underlying26 B
    simp only [RT, Nat.reduceLT, Nat.reduceBEq, Nat.reduceEqDiff, Nat.reduceAdd, Int.reduceEq, Int.reduceLT, Int.reduceLE, Int.reduceGT, Int.reduceGE, hlen]
    refine condK_of (fun hgt => ?_) (fun hle => ?_)
    · simp only [RT, Nat.reduceLT, Nat.reduceBEq, Nat.reduceEqDiff, Nat.reduceAdd, Int.reduceEq, Int.reduceLT, Int.reduceLE, Int.reduceGT, Int.reduceGE]
      exact ⟨false, rfl, by simp⟩
    simp only [RT, Nat.reduceLT, Nat.reduceBEq, Nat.reduceEqDiff, Nat.reduceAdd, Int.reduceEq, Int.reduceLT, Int.reduceLE, Int.reduceGT, Int.reduceGE, hlen]
    refine run_loop (fun n e A' => A' = A ∧ ∃ i : Nat, n = l.length - i ∧ i ≤ l.length ∧ e.get 12 = .int .i64 i ∧ e.get 10 = v ∧ e.get 11 = .int .i64 l.length ∧ ∀ x ∈ l.take i, x.length ≤ 12 ∧ ∀ b ∈ x, b.length ≤ 1000) ⟨_, rfl, 0, rfl, by simp, rfl, rfl, rfl, by simp⟩ ?_
    rintro n e A' ⟨rfl, i, rfl, hi, h12, h10, h11, hall⟩
    simp only [RT, Nat.reduceLT, Nat.reduceBEq, Nat.reduceEqDiff, Nat.reduceAdd, Int.reduceEq, Int.reduceLT, Int.reduceLE, Int.reduceGT, Int.reduceGE, h12, h11]
    refine condK_of (fun hlt => ?_) (fun hge => ?_)
    · obtain ⟨x, hx⟩ := get_lt (l := l) (i := i) (by omega)
      have hil := (List.getElem?_eq_some_iff.1 hx).1
      obtain ⟨b, o, c, g1, g2, g3⟩ := h.at (P := Try.prog) (k := .i64) hm Try.underlying26 sz22 ag22 hx
      rw [eSl_W] at g3
      have g4 := fun B => g3.len (P := Try.prog) Try.underlying22 B
      simp only [RT, Nat.reduceLT, Nat.reduceBEq, Nat.reduceEqDiff, Nat.reduceAdd, Int.reduceEq, Int.reduceLT, Int.reduceLE, Int.reduceGT, Int.reduceGE, h10, h12, g1, g2, g4]
      refine condK_of (fun hgt => ?_) (fun hle2 => ?_)
      · simp only [RT, Nat.reduceLT, Nat.reduceBEq, Nat.reduceEqDiff, Nat.reduceAdd, Int.reduceEq, Int.reduceLT, Int.reduceLE, Int.reduceGT, Int.reduceGE]
        exact ⟨false, rfl, by simp⟩
      simp only [RT, Nat.reduceLT, Nat.reduceBEq, Nat.reduceEqDiff, Nat.reduceAdd, Int.reduceEq, Int.reduceLT, Int.reduceLE, Int.reduceGT, Int.reduceGE, g4]
      refine run_loop (fun n e' A'' => A'' = A' ∧ e'.get 12 = .int .i64 i ∧ e'.get 10 = v ∧ e'.get 11 = .int .i64 l.length ∧ ∃ j : Nat, n = x.length - j ∧ j ≤ x.length ∧ e'.get 21 = .int .i64 j ∧ e'.get 19 = c ∧ e'.get 20 = .int .i64 x.length ∧ ∀ b ∈ x.take j, b.length ≤ 1000) ⟨_, rfl, h12, h10, h11, 0, rfl, by simp, rfl, rfl, rfl, by simp⟩ ?_
      rintro n e' A'' ⟨rfl, k12, k10, k11, j, rfl, hj, k21, k19, k20, hall2⟩
      simp only [RT, Nat.reduceLT, Nat.reduceBEq, Nat.reduceEqDiff, Nat.reduceAdd, Int.reduceEq, Int.reduceLT, Int.reduceLE, Int.reduceGT, Int.reduceGE, k21, k20]
      refine condK_of (fun hlt => ?_) (fun hge => ?_)
      · obtain ⟨y, hy⟩ := get_lt (l := x) (i := j) (by omega)
        have hjl := (List.getElem?_eq_some_iff.1 hy).1
        obtain ⟨b', o', c', m1, m2, m3⟩ := g3.at (P := Try.prog) (k := .i64) hm Try.underlying22 sz44 ag44 hy
        rw [eSl_W] at m3
        have m4 := fun B => m3.len (P := Try.prog) Try.underlying44 B
        simp only [RT, Nat.reduceLT, Nat.reduceBEq, Nat.reduceEqDiff, Nat.reduceAdd, Int.reduceEq, Int.reduceLT, Int.reduceLE, Int.reduceGT, Int.reduceGE, k19, k21, m1, m2, m4]
        refine condK_of (fun hgt => ?_) (fun hle3 => ?_)
        · simp only [RT, Nat.reduceLT, Nat.reduceBEq, Nat.reduceEqDiff, Nat.reduceAdd, Int.reduceEq, Int.reduceLT, Int.reduceLE, Int.reduceGT, Int.reduceGE]
          exact ⟨false, rfl, by simp⟩
        · simp only [RT, Nat.reduceLT, Nat.reduceBEq, Nat.reduceEqDiff, Nat.reduceAdd, Int.reduceEq, Int.reduceLT, Int.reduceLE, Int.reduceGT, Int.reduceGE, k21]
          refine ⟨x.length - (j + 1), by omega, k12, k10, k11, j + 1, rfl, hjl, by rw [wrapS (by omega)], k19, k20, fun b hb => ?_⟩
          rcases mem_take_succ hy hb with q | rfl
          · exact hall2 b q
          · omega
      · simp only [RT, Nat.reduceLT, Nat.reduceBEq, Nat.reduceEqDiff, Nat.reduceAdd, Int.reduceEq, Int.reduceLT, Int.reduceLE, Int.reduceGT, Int.reduceGE, k12]
        refine ⟨l.length - (i + 1), by omega, i + 1, rfl, hil, by rw [wrapS (by omega)], k10, k11, fun y hy => ?_⟩
        rcases mem_take_succ hx hy with q | rfl
        · exact hall y q
        · refine ⟨by omega, fun b hb => hall2 b ?_⟩
          rw [List.take_of_length_le (by omega)]; exact hb
    · simp only [RT, Nat.reduceLT, Nat.reduceBEq, Nat.reduceEqDiff, Nat.reduceAdd, Int.reduceEq, Int.reduceLT, Int.reduceLE, Int.reduceGT, Int.reduceGE]
      exact ⟨true, rfl, fun _ => ⟨by omega, by rw [List.take_of_length_le (by omega)] at hall; exact hall⟩⟩
  obtain ⟨w, A', h1, rfl, h2⟩ := key
  exact ⟨w, h1, h2⟩
section
variable {A B : AS} {m : Hp}
def hdC (x : HdP) : List V := .int .i64 x.1 :: .int .i64 x.2.1 :: bc x.2.2
def eHd : Enc HdP := ePair (eInt .i64) (ePair (eInt .i64) (eB 32 (by decide)))
theorem eHd_W {w : V} {x : HdP} (h : eHd.W m w x) : w = .agg (hdC x) ∧ x.2.2.length = 32 := by
  obtain ⟨cs, rfl, h⟩ := h
  obtain ⟨_, _, rfl, rfl, _, _, rfl, rfl, rfl, h⟩ := h
  exact ⟨rfl, h⟩
theorem hdC_len {x : HdP} (h : x.2.2.length = 32) : (hdC x).length = 34 := by simp [hdC, bc_len, h]
theorem hdC_one (x : HdP) : (hdC x).all V.one = true := by simp only [hdC, List.all_cons, bc_one]; rfl
def hd0 : HdP := (0, 0, z32s)
theorem zcHd : (zeroT Try.prog 34).bind V.cells = some (hdC hd0) := by kernel_rfl
theorem newHd {x : HdP} (h : x.2.2.length = 32) : ∃ A', evStore Try.prog 34 (.ptr A.blk.length 0) (.agg (hdC x)) (A.push ⟨hdC hd0, .var⟩) = some A' ∧ Fr S0 A A' ∧ A'.blk[A.blk.length]? = some ⟨hdC x, .var⟩ := by
  obtain ⟨A2, s1, s2, s3, s4⟩ := new_set (P := Try.prog) A (z := hdC hd0) (t := 34) (x := .agg (hdC x)) (cs := hdC x) rfl (by rw [hdC_len h]; exact sz34) (by rw [hdC_len h]; rfl) (hdC_one x)
  exact ⟨A2, s1, s2, s3⟩
theorem faHd (b : Nat) : evFieldAddr Try.prog 34 (.ptr b 0) 0 = some (.ptr b 0) ∧ evFieldAddr Try.prog 34 (.ptr b 0) 1 = some (.ptr b 1) ∧ evFieldAddr Try.prog 34 (.ptr b 0) 2 = some (.ptr b 2) := ⟨by kernel_rfl, by kernel_rfl, by kernel_rfl⟩
theorem ldHd {b : Nat} {k : BK} {x : HdP} (hb : A.blk[b]? = some ⟨hdC x, k⟩) (h : x.2.2.length = 32) : evLoad Try.prog 3 (.ptr b 0) A = some (.int .i64 x.1) ∧ evLoad Try.prog 3 (.ptr b 1) A = some (.int .i64 x.2.1) ∧ evLoad Try.prog 32 (.ptr b 2) A = some (.agg (bc x.2.2)) ∧ evLoad Try.prog 34 (.ptr b 0) A = some (.agg (hdC x)) :=
  ⟨by rw [load_at ag3 hb]; rfl, by rw [load_at ag3 hb]; rfl, At.load hb (o := 2) ⟨[.int .i64 x.1, .int .i64 x.2.1], [], by simp [hdC], rfl⟩ ag32 sz32 (by rw [bc_len, h]), At.load hb (At.all _) ag34 sz34 (hdC_len h)⟩
theorem eqI2 {x y : Bts} (hx : x.length = 32) (hy : y.length = 32) : evEq Try.prog 32 (.agg (bc x)) (.agg (bc y)) = some (decide (x = y)) :=
  eq_bytes (n := 32) (by kernel_rfl) ag32 (by kernel_rfl) hx hy
def argN (_ : AS) (args : List V) (i : Nat) : Prop := args = [.int .i64 (i : Int)]
theorem false_spec {v u : V} (hv : v.one = true) (hu : u.one = true) : ∃ w A', EvF Try.prog HH 19 [v, u] A w A' ∧ w = .fn 61 [] [.ptr A.blk.length 0, .ptr (A.blk.length + 1) 0] ∧ Fr S0 A A' ∧ A'.blk[A.blk.length]? = some ⟨[v], .var⟩ ∧ A'.blk[A.blk.length + 1]? = some ⟨[u], .var⟩ := by
  refine run_fn2 rfl Try.func19 (by unfold Try.f19; rfl) Try.ntmps19 (by unfold Try.f19; rfl) (by simp) ?_
  obtain ⟨A1, e1, f1, r1, n1⟩ := new_var A [v]
  obtain ⟨A2, e2, f2, r2, n2⟩ := new_var A1 [u]
  simp only [RT, Nat.reduceLT, Nat.reduceBEq, Nat.reduceEqDiff, Nat.reduceAdd, Int.reduceEq, Int.reduceLT, Int.reduceLE, Int.reduceGT, Int.reduceGE, one_cells hv, one_cells hu, ← e1, ← e2, n1]
  rw [n1] at r2
  exact ⟨f1.then0 f2, f2.row0 r1, r2⟩
set_option maxRecDepth 10000 in
set_option maxHeartbeats 16000000 in
theorem false1_goes {b1 b2 : Nat} {v u : V} {ls : List Bts} {hs : List HdP} {S : Loc → Prop} (hw : WF A) (hm : m.on A) (hS : ∀ b, S (.row b) → m b = none ∧ b ≠ b1 ∧ b ≠ b2 ∧ b < A.blk.length) (h1 : A.blk[b1]? = some ⟨[v], .var⟩) (h2 : A.blk[b2]? = some ⟨[u], .var⟩)
    (hl : Slc (eSl eU8) m v ls) (hh : Slc eHd m u hs) (hn : ls.length ≤ 1000000) (hx : ∀ x ∈ ls, x.length ≤ 1000000) (hhn : hs.length ≤ 1000000) :
    Goes Try.prog HH 61 [] [.ptr b1 0, .ptr b2 0] A S argN (badH ls hs) := by
  intro lo J D hJ hD hstep hJ0
  refine run_fn2 rfl Try.func61 (by unfold Try.f61; rfl) Try.ntmps61 (by unfold Try.f61; rfl) (by simp) ?_
  obtain ⟨xs, hxs⟩ : ∃ x, x = badH ls hs := ⟨_, rfl⟩
  rw [← hxs] at hstep ⊢
  obtain ⟨p, hp⟩ : ∃ p, p = badP ls hs := ⟨_, rfl⟩
  have hxs2 : xs = (List.range hs.length).filter p := by rw [hxs, hp]; rfl
  obtain ⟨w0, A1, k1, f1, fo, hL, hfo⟩ := entries_spec hw hm hl (by omega) (fun x q => by have := hx x q; omega)
  obtain ⟨lv, hlv⟩ : ∃ l, l = ls.map leafH := ⟨_, rfl⟩
  rw [← hlv] at hL
  have hlvn : lv.length = ls.length := by rw [hlv, List.length_map]
  have hlen := fun B => hh.len (P := Try.prog) Try.underlying23 B
  have hf1 : Fr S A A1 := f1.mono fun _ q => q.elim
  simp only [RT, Nat.reduceLT, Nat.reduceBEq, Nat.reduceEqDiff, Nat.reduceAdd, Int.reduceEq, Int.reduceLT, Int.reduceLE, Int.reduceGT, Int.reduceGE, load_one ag22 h1]
  refine run_call1 k1 ?_
  simp only [RT, Nat.reduceLT, Nat.reduceBEq, Nat.reduceEqDiff, Nat.reduceAdd, Int.reduceEq, Int.reduceLT, Int.reduceLE, Int.reduceGT, Int.reduceGE, load_one ag23 (f1.row0 h2), hlen]
  have hlenL := fun B => hL.len (P := Try.prog) Try.underlying36 B
  have keepL : ∀ {B C : AS}, Fr S A B → Lst eI Hp.emp B w0 lv fo → Fr S B C → Lst eI Hp.emp C w0 lv fo := fun {B C} q w z => w.fr z fun b y f k base y1 y2 y3 => by
    have hb := (hS b y).2.2.2
    obtain ⟨cs', z1, z2⟩ := q.kind b _ (List.getElem?_eq_getElem hb)
    rw [y2] at z1; cases z1
    have := hw b _ f base (List.getElem?_eq_getElem hb) y3
    have := hfo f y1
    omega
  refine run_loop_j (fun z e B => ∃ i : Nat, z = hs.length - i ∧ i ≤ hs.length ∧ e.get 12 = .int .i64 i ∧ e.get 0 = .yield lo ∧ e.get 4 = w0 ∧ e.get 10 = u ∧ e.get 11 = .int .i64 hs.length ∧ Fr S A B ∧ Lst eI Hp.emp B w0 lv fo ∧ J ((List.range i).filter p).length B)
    (fun z e B => Fr S A B ∧ ((Is z (.exit 0) ∧ J xs.length B) ∨ (Is z .ret ∧ ∃ i, i < xs.length ∧ D i B)))
    ⟨_, 0, rfl, by omega, rfl, rfl, rfl, rfl, rfl, hf1, hL, hJ _ _ _ hJ0 f1⟩ ?_ ?_
  rotate_left
  · rintro z e B hz ⟨q1, ⟨rfl, q2⟩ | ⟨rfl, q2⟩⟩
    · simp only [RT, Nat.reduceLT, Nat.reduceBEq, Nat.reduceEqDiff, Nat.reduceAdd, Int.reduceEq, Int.reduceLT, Int.reduceLE, Int.reduceGT, Int.reduceGE]
      exact ⟨q1, .inl q2⟩
    · simp only [RT, Nat.reduceLT, Nat.reduceBEq, Nat.reduceEqDiff, Nat.reduceAdd, Int.reduceEq, Int.reduceLT, Int.reduceLE, Int.reduceGT, Int.reduceGE]
      exact ⟨q1, .inr q2⟩
  clear hL k1 f1 hf1 hJ0
  rintro z e B ⟨i, rfl, hi, h12, h0, h4, h10, h11, hf, hL, hj⟩
  simp only [RT, Nat.reduceLT, Nat.reduceBEq, Nat.reduceEqDiff, Nat.reduceAdd, Int.reduceEq, Int.reduceLT, Int.reduceLE, Int.reduceGT, Int.reduceGE, h11, h12]
  refine condK_of (fun q1 => ?_) (fun q1 => ?_)
  rotate_left
  · have : i = hs.length := by omega
    subst this
    simp only [RT, Nat.reduceLT, Nat.reduceBEq, Nat.reduceEqDiff, Nat.reduceAdd, Int.reduceEq, Int.reduceLT, Int.reduceLE, Int.reduceGT, Int.reduceGE]
    exact ⟨hf, .inl ⟨rfl, by rw [hxs2]; exact hj⟩⟩
  obtain ⟨x, hx'⟩ := get_lt (l := hs) (i := i) (by omega)
  obtain ⟨b, o, c, g3, g4, g5⟩ := hh.at (P := Try.prog) (k := .i64) (hm.fr hf fun b q => (hS b q).1) Try.underlying23 sz34 ag34 hx'
  obtain ⟨rfl, hx32⟩ := eHd_W g5
  obtain ⟨C, s1, s2, s3⟩ := newHd (A := B) hx32
  obtain ⟨b6, hb6⟩ : ∃ b, b = B.blk.length := ⟨_, rfl⟩
  rw [← hb6] at s1 s3
  have hfC := hf.then0 s2
  have hLC := hL.fr0 s2
  have hjC := hJ _ _ _ hj s2
  have fa := faHd b6
  have ld := ldHd s3 hx32
  have hwi : IntKind.i64.wrap ((i : Int) + 1) = ((i + 1 : Nat) : Int) := by rw [wrapS (by omega)]
  have hpi : p i = !decide (rightD ls x) := by rw [hp]; unfold badP; rw [hx']
  simp only [RT, Nat.reduceLT, Nat.reduceBEq, Nat.reduceEqDiff, Nat.reduceAdd, Int.reduceEq, Int.reduceLT, Int.reduceLE, Int.reduceGT, Int.reduceGE, h10, h12, g3, g4, zcHd, ← hb6, s1]
  refine run_cutA (fun z e D => Is z .normal ∧ e.get 7 = .bool (decide (rightD ls x)) ∧ e.get 12 = .int .i64 i ∧ e.get 5 = .int .i64 i ∧ e.get 0 = .yield lo ∧ e.get 4 = w0 ∧ e.get 10 = u ∧ e.get 11 = .int .i64 hs.length ∧ Fr S0 C D) ?_ ?_
  · by_cases c1 : x.2.1 ≥ 0
    rotate_left
    · have hno : decide (rightD ls x) = false := decide_eq_false fun q => c1 q.1
      simp only [RT, Nat.reduceLT, Nat.reduceBEq, Nat.reduceEqDiff, Nat.reduceAdd, Int.reduceEq, Int.reduceLT, Int.reduceLE, Int.reduceGT, Int.reduceGE, pl_61_4, fa, ld, decide_eq_false c1, rc_nil]
      rw [hno]
      have z9 : Fr S0 C C := .refl _ _
      and_intros <;> first | rfl | assumption
    obtain ⟨sz, hsz⟩ := Int.eq_ofNat_of_zero_le c1
    by_cases c2 : sz ≤ ls.length
    rotate_left
    · have hno : decide (rightD ls x) = false := decide_eq_false fun q => by have := q.2.1; omega
      simp only [RT, Nat.reduceLT, Nat.reduceBEq, Nat.reduceEqDiff, Nat.reduceAdd, Int.reduceEq, Int.reduceLT, Int.reduceLE, Int.reduceGT, Int.reduceGE, pl_61_4, fa, ld, decide_eq_true c1, h4, hlenL, hlvn, decide_eq_false (show ¬ (x.2.1 ≤ (ls.length : Int)) by omega), rc_nil]
      rw [hno]
      have z9 : Fr S0 C C := .refl _ _
      and_intros <;> first | rfl | assumption
    obtain ⟨wt, t1, t2⟩ := hLC.toN (P := Try.prog) (t := 36) Try.underlying36 sz32 (hi := sz) (by omega) (kh := .i64) C
    have t2 := t2.slcArr (fun _ _ q => by cases q)
    obtain ⟨_, D, k1, f1, rfl⟩ := treeRoot_spec (hfC.wf hw) (arrHp_on C) t2 (by rw [List.length_take]; omega)
    have hr32 : (rootR (lv.take sz)).length = 32 := rootR_len fun y hy => by
      rw [hlv] at hy
      obtain ⟨b, _, rfl⟩ := List.mem_map.1 (List.mem_of_mem_take hy)
      exact leafH_len b
    have hdec : decide (rightD ls x) = decide (rootR (lv.take sz) = x.2.2) := by
      have : rightD ls x ↔ rootR (lv.take sz) = x.2.2 := by
        unfold rightD
        rw [hlv, hsz, Int.toNat_natCast]
        exact ⟨fun q => q.2.2, fun q => ⟨by omega, by omega, q⟩⟩
      by_cases q : rightD ls x
      · rw [decide_eq_true q, decide_eq_true (this.1 q)]
      · rw [decide_eq_false q, decide_eq_false fun w => q (this.2 w)]
    have ldD := ldHd (f1.row0 s3) hx32
    rw [← hsz] at t1
    simp only [RT, Nat.reduceLT, Nat.reduceBEq, Nat.reduceEqDiff, Nat.reduceAdd, Int.reduceEq, Int.reduceLT, Int.reduceLE, Int.reduceGT, Int.reduceGE, pl_61_4, fa, ld, decide_eq_true c1, h4, hlenL, hlvn, decide_eq_true (show (x.2.1 ≤ (ls.length : Int)) by omega), t1, rc_nil]
    refine run_call1 k1 ?_
    simp only [RT, Nat.reduceLT, Nat.reduceBEq, Nat.reduceEqDiff, Nat.reduceAdd, Int.reduceEq, Int.reduceLT, Int.reduceLE, Int.reduceGT, Int.reduceGE, rc_nil]
    refine ⟨rc_gload (ha := rfl) rfl rfl rfl rfl ldD.2.2.1 rfl rc_nil, ?_⟩
    simp only [RT, Nat.reduceLT, Nat.reduceBEq, Nat.reduceEqDiff, Nat.reduceAdd, Int.reduceEq, Int.reduceLT, Int.reduceLE, Int.reduceGT, Int.reduceGE, rc_nil, eqI2 hr32 hx32]
    rw [hdec]
    and_intros <;> first | rfl | assumption
  rintro z e D ⟨rfl, h7, h12, h5, h0, h4, h10, h11, hCD⟩
  have hfD := hfC.then0 hCD
  have hLD := hLC.fr0 hCD
  have hjD := hJ _ _ _ hjC hCD
  by_cases hr : rightD ls x
  · have hpf : p i = false := by rw [hpi, decide_eq_true hr]; rfl
    simp only [RT, Nat.reduceLT, Nat.reduceBEq, Nat.reduceEqDiff, Nat.reduceAdd, Int.reduceEq, Int.reduceLT, Int.reduceLE, Int.reduceGT, Int.reduceGE, h7, un_notd, decide_eq_true hr, not_true_eq_false, h12, hwi]
    refine ⟨hs.length - (i + 1), by omega, i + 1, rfl, by omega, rfl, h0, h4, h10, h11, hfD, hLD, ?_⟩
    rw [filt_succ, hpf]; simpa using hjD
  · have hpt : p i = true := by rw [hpi, decide_eq_false hr]; rfl
    have hat := filt_at (p := p) (n := hs.length) (by omega) hpt
    rw [← hxs2] at hat
    obtain ⟨bb, E, y1, y2, y3, y4⟩ := hstep _ _ D _ hat hjD hfD rfl
    simp only [RT, Nat.reduceLT, Nat.reduceBEq, Nat.reduceEqDiff, Nat.reduceAdd, Int.reduceEq, Int.reduceLT, Int.reduceLE, Int.reduceGT, Int.reduceGE, h7, un_notd, decide_eq_false hr, not_false_eq_true, h0, h5]
    refine ⟨_, E, y1, ?_⟩
    simp only [RT, Nat.reduceLT, Nat.reduceBEq, Nat.reduceEqDiff, Nat.reduceAdd, Int.reduceEq, Int.reduceLT, Int.reduceLE, Int.reduceGT, Int.reduceGE]
    have hfE := hfD.thn y2
    have hLE := keepL hfD hLD y2
    cases bb with
    | true =>
      simp only [RT, Nat.reduceLT, Nat.reduceBEq, Nat.reduceEqDiff, Nat.reduceAdd, Int.reduceEq, Int.reduceLT, Int.reduceLE, Int.reduceGT, Int.reduceGE, h12, hwi]
      refine ⟨hs.length - (i + 1), by omega, i + 1, rfl, by omega, rfl, h0, h4, h10, h11, hfE, hLE, ?_⟩
      rw [filt_succ, hpt]
      simpa using y3 rfl
    | false =>
      simp only [RT, Nat.reduceLT, Nat.reduceBEq, Nat.reduceEqDiff, Nat.reduceAdd, Int.reduceEq, Int.reduceLT, Int.reduceLE, Int.reduceGT, Int.reduceGE]
      exact ⟨hfE, .inr ⟨rfl, _, (List.getElem?_eq_some_iff.1 hat).1, y4 rfl⟩⟩
end
end Go.Sv.Try
namespace Go.Sv.Try
open Go Go.Proofs
set_option linter.unusedVariables false
set_option linter.unusedSimpArgs false
section
variable {A B : AS} {m : Hp}
theorem bslHd {x : HdP} (h : x.2.2.length = 32) : bsl Try.prog 23 1 (some [(0, .agg (hdC x))]) = some (.newSl (hdC x) 1 34) := bsl_one Try.underlying23 sz34 zcHd rfl (hdC_len h) (by decide)
end
end Go.Sv.Try
namespace Go.Sv.Try
open Go Go.Proofs
set_option linter.unusedVariables false
set_option linter.unusedSimpArgs false
section
variable {A B : AS} {m : Hp}
theorem bslL {v : V} (h : v = .snil ∨ ∃ b o n z, v = .sl b o n z) : bsl Try.prog 26 1 (some [(0, v)]) = some (.newSl [v] 1 1) := by
  rcases h with rfl | ⟨_, _, _, _, rfl⟩ <;> kernel_rfl
end
end Go.Sv.Try
namespace Go.Sv.Try
open Go Go.Proofs
set_option linter.unusedVariables false
set_option linter.unusedSimpArgs false
section
variable {A B : AS} {m : Hp}
theorem parts_fn {v : V} (hv : v.one = true) : ∃ w A', EvF Try.prog HH 29 [v] A w A' ∧ w = .fn 70 [] [.ptr A.blk.length 0] ∧ Fr S0 A A' ∧ A'.blk[A.blk.length]? = some ⟨[v], .var⟩ := by
  refine run_fn2 rfl Try.func29 (by unfold Try.f29; rfl) Try.ntmps29 (by unfold Try.f29; rfl) (by simp) ?_
  simp only [RT, Nat.reduceLT, Nat.reduceBEq, Nat.reduceEqDiff, Nat.reduceAdd, Int.reduceEq, Int.reduceLT, Int.reduceLE, Int.reduceGT, Int.reduceGE, one_cells hv]
  exact ⟨Fr.pushVar A _, push_row A _⟩
theorem longest_nil : ∃ w A', EvF Try.prog HH 32 [.snil] A w A' ∧ A' = A ∧ w = .snil := by
  refine run_fn2 rfl Try.func32 (by unfold Try.f32; rfl) Try.ntmps32 (by unfold Try.f32; rfl) (by simp) ?_
  have hl : ∀ B, evLen Try.prog 26 .snil B = some (.int .i64 0) := fun B => by unfold evLen; rw [Try.underlying26]
  simp only [RT, Nat.reduceLT, Nat.reduceBEq, Nat.reduceEqDiff, Nat.reduceAdd, Int.reduceEq, Int.reduceLT, Int.reduceLE, Int.reduceGT, Int.reduceGE, hl]
  refine run_loop_j (fun z e B => z = 0 ∧ e.get 8 = .int .i64 0 ∧ e.get 7 = .int .i64 0 ∧ e.get 3 = .snil ∧ B = A) (fun z e B => Is z (.exit 0) ∧ e.get 3 = .snil ∧ B = A) ⟨_, rfl, rfl, rfl, rfl, rfl⟩ ?_ ?_
  · rintro z e B ⟨rfl, h8, h7, h3, rfl⟩
    simp only [RT, Nat.reduceLT, Nat.reduceBEq, Nat.reduceEqDiff, Nat.reduceAdd, Int.reduceEq, Int.reduceLT, Int.reduceLE, Int.reduceGT, Int.reduceGE, h8, h7, decide_eq_false (show ¬ ((0 : Int) < 0) by omega)]
    exact ⟨rfl, h3⟩
  · rintro z e B hz ⟨rfl, h3, rfl⟩
    simp only [RT, Nat.reduceLT, Nat.reduceBEq, Nat.reduceEqDiff, Nat.reduceAdd, Int.reduceEq, Int.reduceLT, Int.reduceLE, Int.reduceGT, Int.reduceGE, h3]
def Pref (L : List Bts) (l : List (List Bts)) : Prop := ∀ x ∈ l, ∃ n, x = L.take n
set_option maxRecDepth 10000 in
set_option maxHeartbeats 16000000 in
theorem parts1_none {bx : Nat} {v : V} {l : List (List Bts)} {L : List Bts} {S : Loc → Prop} {AR : AS → List V → Nat → Prop} (hm : m.on A) (hb : A.blk[bx]? = some ⟨[v], .var⟩) (h : Slc (eSl (eSl eU8)) m v l) (hl : l.length ≤ 1000) (hL : L.length ≤ 1000) (hp : Pref L l) :
    Goes Try.prog HH 70 [] [.ptr bx 0] A S AR [] := by
  intro lo J D hJ hD hstep hJ0
  refine run_fn2 rfl Try.func70 (by unfold Try.f70; rfl) Try.ntmps70 (by unfold Try.f70; rfl) (by simp) ?_
  have ld := load_one (P := Try.prog) (t := 26) ag26 hb
  have hlen := fun B => h.len (P := Try.prog) Try.underlying26 B
  simp only [RT, Nat.reduceLT, Nat.reduceBEq, Nat.reduceEqDiff, Nat.reduceAdd, Int.reduceEq, Int.reduceLT, Int.reduceLE, Int.reduceGT, Int.reduceGE, ld, hlen]
  refine run_loop_j (fun z e B => B = A ∧ ∃ i : Nat, z = l.length - i ∧ i ≤ l.length ∧ e.get 9 = .int .i64 i ∧ e.get 1 = .ptr bx 0 ∧ e.get 7 = v ∧ e.get 8 = .int .i64 l.length) (fun z e B => B = A ∧ Is z (.exit 0)) ⟨_, rfl, 0, rfl, by omega, rfl, rfl, rfl, rfl⟩ ?_ ?_
  rotate_left
  · rintro z e B hz ⟨rfl, rfl⟩
    simp only [RT, Nat.reduceLT, Nat.reduceBEq, Nat.reduceEqDiff, Nat.reduceAdd, Int.reduceEq, Int.reduceLT, Int.reduceLE, Int.reduceGT, Int.reduceGE]
    exact ⟨.refl _ _, .inl hJ0⟩
  rintro z e B ⟨rfl, i, rfl, hi, h9, h1, h7, h8⟩
  simp only [RT, Nat.reduceLT, Nat.reduceBEq, Nat.reduceEqDiff, Nat.reduceAdd, Int.reduceEq, Int.reduceLT, Int.reduceLE, Int.reduceGT, Int.reduceGE, h9, h8]
  refine condK_of (fun q1 => ?_) (fun q1 => ?_)
  rotate_left
  · simp only [RT, Nat.reduceLT, Nat.reduceBEq, Nat.reduceEqDiff, Nat.reduceAdd, Int.reduceEq, Int.reduceLT, Int.reduceLE, Int.reduceGT, Int.reduceGE]
    rfl
  obtain ⟨x, hx⟩ := get_lt (l := l) (i := i) (by omega)
  obtain ⟨b, o, c, g1, g2, g3⟩ := h.at (P := Try.prog) (k := .i64) hm Try.underlying26 sz22 ag22 hx
  rw [eSl_W] at g3
  have g4 := fun B => g3.len (P := Try.prog) Try.underlying22 B
  have wi : IntKind.i64.wrap ((i : Int) + 1) = ((i + 1 : Nat) : Int) := by rw [wrapS (by omega)]
  obtain ⟨nx, hnx⟩ := hp x (List.mem_of_getElem? hx)
  have hxl : x.length ≤ 1000 := by rw [hnx, List.length_take]; omega
  simp only [RT, Nat.reduceLT, Nat.reduceBEq, Nat.reduceEqDiff, Nat.reduceAdd, Int.reduceEq, Int.reduceLT, Int.reduceLE, Int.reduceGT, Int.reduceGE, h7, h9, g1, g2, wi]
  refine run_loop_j (fun z e C => C = B ∧ ∃ k : Nat, z = l.length - k ∧ e.get 5 = .int .i64 k ∧ k ≤ l.length + 1 ∧ e.get 9 = .int .i64 i ∧ e.get 1 = .ptr bx 0 ∧ e.get 7 = v ∧ e.get 8 = .int .i64 l.length ∧ e.get 4 = c) (fun z e C => C = B ∧ Is z (.exit 2) ∧ e.get 9 = .int .i64 i ∧ e.get 1 = .ptr bx 0 ∧ e.get 7 = v ∧ e.get 8 = .int .i64 l.length) ⟨_, rfl, i + 1, rfl, rfl, by omega, h9, h1, h7, h8, rfl⟩ ?_ ?_
  rotate_left
  · rintro z e C hz ⟨rfl, rfl, h9, h1, h7, h8⟩
    simp only [RT, Nat.reduceLT, Nat.reduceBEq, Nat.reduceEqDiff, Nat.reduceAdd, Int.reduceEq, Int.reduceLT, Int.reduceLE, Int.reduceGT, Int.reduceGE, h9, wi]
    exact ⟨l.length - (i + 1), by omega, i + 1, rfl, by omega, rfl, h1, h7, h8⟩
  clear h9 h1 h7 h8
  rintro z e C ⟨rfl, k, rfl, h5, hk, h9, h1, h7, h8, h4⟩
  simp only [RT, Nat.reduceLT, Nat.reduceBEq, Nat.reduceEqDiff, Nat.reduceAdd, Int.reduceEq, Int.reduceLT, Int.reduceLE, Int.reduceGT, Int.reduceGE, h5, h1, ld, hlen]
  refine condK_of (fun q2 => ?_) (fun q2 => ?_)
  rotate_left
  · simp only [RT, Nat.reduceLT, Nat.reduceBEq, Nat.reduceEqDiff, Nat.reduceAdd, Int.reduceEq, Int.reduceLT, Int.reduceLE, Int.reduceGT, Int.reduceGE]
    exact ⟨rfl, h9, h1, h7, h8⟩
  obtain ⟨y, hy⟩ := get_lt (l := l) (i := k) (by omega)
  obtain ⟨b', o', c', y1, y2, y3⟩ := h.at (P := Try.prog) (k := .i64) hm Try.underlying26 sz22 ag22 hy
  rw [eSl_W] at y3
  have y4 := fun B => y3.len (P := Try.prog) Try.underlying22 B
  have wk : IntKind.i64.wrap ((k : Int) + 1) = ((k + 1 : Nat) : Int) := by rw [wrapS (by omega)]
  obtain ⟨ny, hny⟩ := hp y (List.mem_of_getElem? hy)
  have hmn : ∃ mn : Nat, evMM (fun x y => if y < x then y else x) [.int .i64 (x.length : Int), .int .i64 (y.length : Int)] = some (.int .i64 (mn : Int)) ∧ mn ≤ x.length ∧ mn ≤ y.length := by
    by_cases q : (y.length : Int) < x.length
    · exact ⟨y.length, by show some (V.int .i64 (if (y.length : Int) < x.length then (y.length : Int) else x.length)) = _; rw [if_pos q], by omega, by omega⟩
    · exact ⟨x.length, by show some (V.int .i64 (if (y.length : Int) < x.length then (y.length : Int) else x.length)) = _; rw [if_neg q], by omega, by omega⟩
  obtain ⟨mn, hmn1, hmn2, hmn3⟩ := hmn
  simp only [RT, Nat.reduceLT, Nat.reduceBEq, Nat.reduceEqDiff, Nat.reduceAdd, Int.reduceEq, Int.reduceLT, Int.reduceLE, Int.reduceGT, Int.reduceGE, h4, g4, h1, ld, h5, y1, y2, y4, hmn1]
  refine run_loop_j (fun z e D => D = C ∧ ∃ n : Nat, z = mn - n ∧ n ≤ mn ∧ e.get 30 = .int .i64 n ∧ e.get 29 = .int .i64 mn ∧ e.get 5 = .int .i64 k ∧ e.get 9 = .int .i64 i ∧ e.get 1 = .ptr bx 0 ∧ e.get 7 = v ∧ e.get 8 = .int .i64 l.length ∧ e.get 4 = c) (fun z e D => D = C ∧ Is z (.exit 4) ∧ e.get 5 = .int .i64 k ∧ e.get 9 = .int .i64 i ∧ e.get 1 = .ptr bx 0 ∧ e.get 7 = v ∧ e.get 8 = .int .i64 l.length ∧ e.get 4 = c) ⟨_, rfl, 0, rfl, by omega, rfl, rfl, h5, h9, h1, h7, h8, h4⟩ ?_ ?_
  rotate_left
  · rintro z e D hz ⟨rfl, rfl, h5, h9, h1, h7, h8, h4⟩
    simp only [RT, Nat.reduceLT, Nat.reduceBEq, Nat.reduceEqDiff, Nat.reduceAdd, Int.reduceEq, Int.reduceLT, Int.reduceLE, Int.reduceGT, Int.reduceGE, h5, wk]
    exact ⟨l.length - (k + 1), by omega, k + 1, rfl, rfl, by omega, h9, h1, h7, h8, h4⟩
  clear h9 h1 h7 h8 h4 h5
  rintro z e D ⟨rfl, n, rfl, hn, h30, h29, h5, h9, h1, h7, h8, h4⟩
  simp only [RT, Nat.reduceLT, Nat.reduceBEq, Nat.reduceEqDiff, Nat.reduceAdd, Int.reduceEq, Int.reduceLT, Int.reduceLE, Int.reduceGT, Int.reduceGE, h30, h29]
  refine condK_of (fun q3 => ?_) (fun q3 => ?_)
  rotate_left
  · simp only [RT, Nat.reduceLT, Nat.reduceBEq, Nat.reduceEqDiff, Nat.reduceAdd, Int.reduceEq, Int.reduceLT, Int.reduceLE, Int.reduceGT, Int.reduceGE]
    exact ⟨rfl, h5, h9, h1, h7, h8, h4⟩
  obtain ⟨p, hpx⟩ := get_lt (l := x) (i := n) (by omega)
  obtain ⟨p', hpy⟩ := get_lt (l := y) (i := n) (by omega)
  have hpe : p = p' := by
    have e1 := hpx
    have e2 := hpy
    have l1 := (List.getElem?_eq_some_iff.1 hpx).1
    have l2 := (List.getElem?_eq_some_iff.1 hpy).1
    rw [hnx] at e1 l1; rw [hny] at e2 l2
    rw [List.length_take] at l1 l2
    rw [List.getElem?_take_of_lt (by omega)] at e1 e2
    rw [e1] at e2; exact Option.some.inj e2
  obtain ⟨bp, op, cp, u1, u2, u3⟩ := g3.at (P := Try.prog) (k := .i64) hm Try.underlying22 sz44 ag44 hpx
  obtain ⟨bq, oq, cq, v1, v2, v3⟩ := y3.at (P := Try.prog) (k := .i64) hm Try.underlying22 sz44 ag44 hpy
  rw [eSl_W] at u3 v3
  have u4 := cnv_text (P := Try.prog) (s := 44) (d := 9) (by decide) u3 hm Try.underlying44 Try.underlying5 Try.underlying9
  have v4 := cnv_text (P := Try.prog) (s := 44) (d := 9) (by decide) v3 hm Try.underlying44 Try.underlying5 Try.underlying9
  have wn : IntKind.i64.wrap ((n : Int) + 1) = ((n + 1 : Nat) : Int) := by rw [wrapS (by omega)]
  simp only [RT, Nat.reduceLT, Nat.reduceBEq, Nat.reduceEqDiff, Nat.reduceAdd, Int.reduceEq, Int.reduceLT, Int.reduceLE, Int.reduceGT, Int.reduceGE, h30]
  rw [pl_70_9, run_plan_id (by rfl)]
  simp only [RT, Nat.reduceLT, Nat.reduceBEq, Nat.reduceEqDiff, Nat.reduceAdd, Int.reduceEq, Int.reduceLT, Int.reduceLE, Int.reduceGT, Int.reduceGE, h4, u1, u2, u4, h1, ld, h5, y1, y2, v1, v2, v4, decide_eq_true hpe, h30, wn]
  refine ⟨mn - (n + 1), by omega, n + 1, rfl, by omega, ?_⟩
  and_intros <;> first | rfl | assumption
theorem tw_nil {a b : Int} {ok : Bool} (h : TwRes [] a b ok) : ok = false := by
  rcases h with ⟨_, i, k, n, _, _, _, h1, _⟩ | ⟨h, _⟩
  · have := nm_lt h1; simp at this
  · exact h
theorem for_none {list handed : List Bts} {n : Int} {ok : Bool} (h : ForRes list handed n ok) (hs : ∀ b ∈ list, b ∈ handed) : ok = false := by
  rcases h with ⟨_, i, b, _, h1, h2, _⟩ | ⟨h, _⟩
  · exact absurd (hs b (List.mem_of_getElem? h1)) h2
  · exact h
theorem bldHd0 (g : Nat → V) : evBuild Try.prog 34 [(2, .agg ((List.range 32).map g))] = some (.agg (.int .i64 0 :: .int .i64 0 :: (List.range 32).map g)) := by kernel_rfl
theorem bldHd0' {x : Bts} (h : x.length = 32) : evBuild Try.prog 34 [(2, .agg (bc x))] = some (.agg (hdC (0, 0, x))) := by
  obtain ⟨g, hg⟩ := cells_fun (l := bc x) (n := 32) (by rw [bc_len, h])
  unfold hdC; simp only []; rw [hg]; exact bldHd0 g
theorem run_none {P : Program} {H : Hints} {f : FuncId} {nt : Nat} {k : List Kt} {e : Env} {A : AS} {Q : Ex → Env → AS → Prop} {g : Operand} {ps : Array Tmp} {asg bd : Code} {id : Nat} {h : FuncId} {first cap : List V} {AR : AS → List V → Nat → Prop} {fn : Func}
    (hg : e.eval g = some (.fn h first cap)) (hgo : ∀ A0, Fr S0 A A0 → Goes P H h first cap A0 (orLoop S0 A.loops.length) AR [])
    (hf : P.funcs[f]? = some fn) (hnt : fn.ntmps = nt) (hps : ps.toList.all (fun p => decide (p < nt)) = true)
    (hend : ∀ A2, Fr S0 A A2 → Run P H f nt k .normal e A2 Q) : Run P H f nt (.code (.rangeFunc g ps asg bd) :: .blk id :: k) .normal e A Q := by
  refine run_goes_k (S := S0) (AR := AR) (xs := []) (fun _ _ => True) (fun _ => True) hg (fun q => q) hgo trivial (fun _ _ _ _ _ => trivial) (fun _ _ _ _ => trivial) hf hnt hps ?_ (fun _ _ => trivial) (fun A2 _ q => hend A2 q)
  intro i x A1 args hi
  simp at hi
set_option maxRecDepth 10000 in
set_option maxHeartbeats 32000000 in
theorem auditEmpty_spec {v u : V} {ls : List Bts} {sz : List Int} (hw : WF A) (hm : m.on A) (hle : m.le (arrHp A)) (hl : Slc (eSl eU8) m v ls) (hu : Slc (eInt .i64) m u sz) :
    ∃ w A', EvF Try.prog HH 5 [v, u] A w A' ∧ w = .bool true := by
  refine run_fn2 rfl Try.func5 (by unfold Try.f5; rfl) Try.ntmps5 (by unfold Try.f5; rfl) (by simp) ?_
  obtain ⟨Av, ev, fv, rv, nv⟩ := new_var A [.bool false]
  obtain ⟨b4, hb4⟩ : ∃ b, b = A.blk.length := ⟨_, rfl⟩
  rw [← hb4] at rv nv
  have hmv := hm.fr0 fv
  have hlev : m.le (arrHp Av) := Hp.le_trans hle (arrHp_le fv fun b q => q.elim)
  have wv := fv.wf hw
  simp only [RT, Nat.reduceLT, Nat.reduceBEq, Nat.reduceEqDiff, Nat.reduceAdd, Int.reduceEq, Int.reduceLT, Int.reduceLE, Int.reduceGT, Int.reduceGE, zc4, ← ev, ← hb4]
  refine run_call1 (evF_ground rfl) ?_
  obtain ⟨b0, hb0⟩ : ∃ b, b = Av.blk.length := ⟨_, rfl⟩
  obtain ⟨A1, e1⟩ : ∃ B, B = Av.push ⟨[v], .arr b0 0⟩ := ⟨_, rfl⟩
  have f1 : Fr S0 Av A1 := by rw [e1, hb0]; exact Fr.pushArr Av _
  have r1 : A1.blk[b0]? = some ⟨[v], .arr b0 0⟩ := by rw [e1, hb0]; exact push_row Av _
  have hno : ∀ b, Av.blk.length ≤ b → m b = none := fun b q => hmv.fresh q
  have on1 : (m.put b0 [v]).on A1 := (hmv.fr0 f1).put r1
  have le1 : m.le (m.put b0 [v]) := Hp.le_put (hno b0 (by omega))
  have hsl : Slc (eSl (eSl eU8)) (m.put b0 [v]) (.sl b0 0 1 1) [ls] := slcV (Hp.put_get _ _ _) rfl rfl fun i x hx => by
    match i, hx with
    | 0, hx => cases hx; exact ⟨_, rfl, hl.mono le1⟩
    | i + 1, hx => simp at hx
  obtain ⟨_, k1, rb, rfl, hsm⟩ := fewS_spec on1 hsl
  have hlenU := fun B => hu.len (P := Try.prog) Try.underlying52 B
  have hlenL := fun B => hl.len (P := Try.prog) Try.underlying22 B
  simp only [RT, Nat.reduceLT, Nat.reduceBEq, Nat.reduceEqDiff, Nat.reduceAdd, Int.reduceEq, Int.reduceLT, Int.reduceLE, Int.reduceGT, Int.reduceGE, bslL (slc_form hl), ← hb0, ← e1]
  refine run_call1 k1 ?_
  have out : ∀ {B : AS} (b : Bool), B.blk[b4]? = some ⟨[.bool false], .var⟩ → ∃ C, evStore Try.prog 4 (.ptr b4 0) (.bool b) B = some C ∧ evLoad Try.prog 4 (.ptr b4 0) C = some (.bool b) := fun {B} b h => by
    obtain ⟨C, t1, t2, t3, t4⟩ := store_one (P := Try.prog) (t := 4) (x := .bool b) h rfl sz4 rfl
    exact ⟨C, t1, load_one ag4 t3⟩
  have rv1 := f1.row0 rv
  obtain ⟨C0, o1, o2⟩ := out true rv1
  cases rb with
  | false => simp only [RT, Nat.reduceLT, Nat.reduceBEq, Nat.reduceEqDiff, Nat.reduceAdd, Int.reduceEq, Int.reduceLT, Int.reduceLE, Int.reduceGT, Int.reduceGE, o1, o2]
  | true =>
  obtain ⟨_, hsm⟩ := hsm rfl
  obtain ⟨hn12, hx1000⟩ := hsm ls (by simp)
  have hx : ∀ x ∈ ls, x.length ≤ 1000000 := fun x q => by have := hx1000 x q; omega
  simp only [RT, Nat.reduceLT, Nat.reduceBEq, Nat.reduceEqDiff, Nat.reduceAdd, Int.reduceEq, Int.reduceLT, Int.reduceLE, Int.reduceGT, Int.reduceGE, hlenU]
  by_cases c8 : (sz.length : Int) > 8
  · simp only [RT, Nat.reduceLT, Nat.reduceBEq, Nat.reduceEqDiff, Nat.reduceAdd, Int.reduceEq, Int.reduceLT, Int.reduceLE, Int.reduceGT, Int.reduceGE, decide_eq_true c8, o1, o2]
  simp only [RT, Nat.reduceLT, Nat.reduceBEq, Nat.reduceEqDiff, Nat.reduceAdd, Int.reduceEq, Int.reduceLT, Int.reduceLE, Int.reduceGT, Int.reduceGE, decide_eq_false c8, hlenU]
  clear o1 o2 C0
  have w1 := f1.wf wv
  have hm1 := hmv.fr0 f1
  have hle1 : m.le (arrHp A1) := Hp.le_trans hlev (arrHp_le f1 fun b q => q.elim)
  refine run_loop_j (fun z e B => ∃ (i : Nat) (w : V) (fo : Option Nat) (l : List (List Bts)), z = sz.length - i ∧ i ≤ sz.length ∧ e.get 27 = .int .i64 i ∧ e.get 0 = v ∧ e.get 25 = u ∧ e.get 26 = .int .i64 sz.length ∧ e.get 4 = .ptr b4 0 ∧ e.get 5 = w ∧ Fr S0 A1 B ∧ Lst (eSl (eSl eU8)) m B w l fo ∧ l.length = i ∧ Pref ls l ∧ ∀ f, fo = some f → A1.blk.length ≤ f)
    (fun z e B => (Is z .ret ∧ e.get 4 = .ptr b4 0 ∧ evLoad Try.prog 4 (.ptr b4 0) B = some (.bool true)) ∨ (Is z (.exit 0) ∧ ∃ (w : V) (fo : Option Nat) (l : List (List Bts)), e.get 0 = v ∧ e.get 4 = .ptr b4 0 ∧ e.get 5 = w ∧ Fr S0 A1 B ∧ Lst (eSl (eSl eU8)) m B w l fo ∧ l.length = sz.length ∧ Pref ls l ∧ ∀ f, fo = some f → A1.blk.length ≤ f))
    ⟨_, 0, .snil, none, [], rfl, by omega, rfl, rfl, rfl, rfl, rfl, rfl, .refl _ _, .nil, rfl, fun x q => (by cases q), fun f q => by cases q⟩ ?_ ?_
  · rintro z e B ⟨i, w, fo, l, rfl, hi, h27, h0, h25, h26, h4, h5, hf, hL, hll, hpr, hfo⟩
    simp only [RT, Nat.reduceLT, Nat.reduceBEq, Nat.reduceEqDiff, Nat.reduceAdd, Int.reduceEq, Int.reduceLT, Int.reduceLE, Int.reduceGT, Int.reduceGE, h26, h27]
    refine condK_of (fun q1 => ?_) (fun q1 => ?_)
    rotate_left
    · have : i = sz.length := by omega
      subst this
      simp only [RT, Nat.reduceLT, Nat.reduceBEq, Nat.reduceEqDiff, Nat.reduceAdd, Int.reduceEq, Int.reduceLT, Int.reduceLE, Int.reduceGT, Int.reduceGE]
      exact .inr ⟨rfl, w, fo, l, h0, h4, h5, hf, hL, hll, hpr, hfo⟩
    obtain ⟨x, hx'⟩ := get_lt (l := sz) (i := i) (by omega)
    obtain ⟨b, o, c, g3, g4, g5⟩ := hu.at (P := Try.prog) (k := .i64) (hm1.fr0 hf) Try.underlying52 sz3 ag3 hx'
    rw [eInt_W.1 g5] at g4
    obtain ⟨C0, o1, o2⟩ := out true (hf.row0 rv1)
    have hwi : IntKind.i64.wrap ((i : Int) + 1) = ((i + 1 : Nat) : Int) := by rw [wrapS (by omega)]
    by_cases c1 : x < 0
    · simp only [RT, Nat.reduceLT, Nat.reduceBEq, Nat.reduceEqDiff, Nat.reduceAdd, Int.reduceEq, Int.reduceLT, Int.reduceLE, Int.reduceGT, Int.reduceGE, h25, h27, g3, g4, decide_eq_true c1, h4, o1]
      exact .inl ⟨rfl, o2⟩
    by_cases c2 : x > (ls.length : Int)
    · simp only [RT, Nat.reduceLT, Nat.reduceBEq, Nat.reduceEqDiff, Nat.reduceAdd, Int.reduceEq, Int.reduceLT, Int.reduceLE, Int.reduceGT, Int.reduceGE, h25, h27, g3, g4, decide_eq_false c1, h0, hlenL, decide_eq_true c2, h4, o1]
      exact .inl ⟨rfl, o2⟩
    obtain ⟨n, rfl⟩ := Int.eq_ofNat_of_zero_le (show 0 ≤ x by omega)
    obtain ⟨wt, t1, t2⟩ := hl.subTo (P := Try.prog) (t := 22) (e := 44) (hi := n) (kh := .i64) Try.underlying22 sz44 (by omega) B
    obtain ⟨v4, D, fo', p1, p2, p3, p4⟩ := hL.push (P := Try.prog) (t := 26) (tx := 26) (n := 1) rfl sl26 Try.underlying26 (hf.wf w1) (y := ls.take n) (cs' := [wt]) ⟨wt, rfl, t2⟩ (by omega) (by omega)
    simp only [RT, Nat.reduceLT, Nat.reduceBEq, Nat.reduceEqDiff, Nat.reduceAdd, Int.reduceEq, Int.reduceLT, Int.reduceLE, Int.reduceGT, Int.reduceGE, h25, h27, g3, g4, decide_eq_false c1, h0, hlenL, decide_eq_false c2, t1, bslL (slc_form t2), h5, p1, hwi]
    have z1 : Fr S0 A1 D := hf.newFam w1 p3 hfo
    have z2 : ∀ f, fo' = some f → A1.blk.length ≤ f := fun f q => by
      rcases p4.or q with y | y
      · exact hfo f y
      · have := hf.len; omega
    have z3 : (l ++ [ls.take n]).length = i + 1 := by simp [hll]
    have z4 : Pref ls (l ++ [ls.take n]) := fun y hy => by
      rcases List.mem_append.1 hy with hy | hy
      · exact hpr y hy
      · exact ⟨n, List.mem_singleton.1 hy⟩
    refine ⟨sz.length - (i + 1), by omega, i + 1, v4, fo', l ++ [ls.take n], rfl, by omega, ?_⟩
    and_intros <;> first | rfl | assumption
  rintro z e B hz (⟨rfl, h4, o⟩ | ⟨rfl, w, fo, l, h0, h4, h5, hf, hL, hll, hpr, hfo⟩)
  · simp only [RT, Nat.reduceLT, Nat.reduceBEq, Nat.reduceEqDiff, Nat.reduceAdd, Int.reduceEq, Int.reduceLT, Int.reduceLE, Int.reduceGT, Int.reduceGE, h4, o]
  have wB := hf.wf w1
  have hleB : m.le (arrHp B) := Hp.le_trans hle1 (arrHp_le hf fun b q => q.elim)
  have hS := hL.slcArr hleB
  obtain ⟨_, C, k2, rfl, f2, r2⟩ := parts_fn (A := B) hS.one
  have hSC := hS.mono (arrHp_le f2 fun b q => q.elim)
  simp only [RT, Nat.reduceLT, Nat.reduceBEq, Nat.reduceEqDiff, Nat.reduceAdd, Int.reduceEq, Int.reduceLT, Int.reduceLE, Int.reduceGT, Int.reduceGE, h5]
  refine run_call1 k2 ?_
  simp only [RT, Nat.reduceLT, Nat.reduceBEq, Nat.reduceEqDiff, Nat.reduceAdd, Int.reduceEq, Int.reduceLT, Int.reduceLE, Int.reduceGT, Int.reduceGE]
  refine run_none (AR := argN) rfl ?_ Try.func5 Try.ntmps5 (by simp) ?_
  · intro A0 hf0
    exact parts1_none (arrHp_on A0) (hf0.row0 r2) (hSC.mono (arrHp_le hf0 fun b q => q.elim)) (by omega) (by omega) hpr
  intro D hD
  have fBD := (hf.then0 f2).then0 hD
  have wD := fBD.wf w1
  have hmD := hm1.fr0 fBD
  obtain ⟨_, E, k3, rfl, f3, r3, r4⟩ := false_spec (A := D) (v := v) (u := .snil) hl.one rfl
  simp only [RT, Nat.reduceLT, Nat.reduceBEq, Nat.reduceEqDiff, Nat.reduceAdd, Int.reduceEq, Int.reduceLT, Int.reduceLE, Int.reduceGT, Int.reduceGE, h0]
  refine run_call1 k3 ?_
  simp only [RT, Nat.reduceLT, Nat.reduceBEq, Nat.reduceEqDiff, Nat.reduceAdd, Int.reduceEq, Int.reduceLT, Int.reduceLE, Int.reduceGT, Int.reduceGE]
  refine run_none (AR := argN) rfl ?_ Try.func5 Try.ntmps5 (by simp) ?_
  · intro A0 hf0
    exact false1_goes (hs := []) ((f3.then0 hf0).wf wD) ((hmD.fr0 f3).fr0 hf0) (fun b q => q.elim (fun q => q.elim) fun q => by cases q) (hf0.row0 r3) (hf0.row0 r4) hl (.inl ⟨rfl, rfl⟩) (by omega) hx (by simp)
  intro F hF
  have fF := (fBD.then0 f3).then0 hF
  have wF := fF.wf w1
  have hmF := hm1.fr0 fF
  obtain ⟨_, G, k4, f4, rfl⟩ := treeRoot_spec (m := Hp.emp) (v := .snil) (ls := []) wF (Hp.on_emp _) (.inl ⟨rfl, rfl⟩) (by simp)
  have hr32 : (rootR []).length = 32 := rootR_len fun x q => by cases q
  obtain ⟨bh, hbh⟩ : ∃ b, b = G.blk.length := ⟨_, rfl⟩
  obtain ⟨G1, eg⟩ : ∃ B, B = G.push ⟨hdC (0, 0, rootR []), .arr bh 0⟩ := ⟨_, rfl⟩
  have fg : Fr S0 G G1 := by rw [eg, hbh]; exact Fr.pushArr G _
  have rg : G1.blk[bh]? = some ⟨hdC (0, 0, rootR []), .arr bh 0⟩ := by rw [eg, hbh]; exact push_row G _
  have fG := (fF.then0 f4).then0 fg
  obtain ⟨_, I, k5, rfl, f5, r5, r6⟩ := false_spec (A := G1) (v := .snil) (u := .sl bh 0 1 34) rfl rfl
  simp only [RT, Nat.reduceLT, Nat.reduceBEq, Nat.reduceEqDiff, Nat.reduceAdd, Int.reduceEq, Int.reduceLT, Int.reduceLE, Int.reduceGT, Int.reduceGE]
  refine run_call1 k4 ?_
  simp only [RT, Nat.reduceLT, Nat.reduceBEq, Nat.reduceEqDiff, Nat.reduceAdd, Int.reduceEq, Int.reduceLT, Int.reduceLE, Int.reduceGT, Int.reduceGE, bldHd0' hr32, bslHd (x := (0, 0, rootR [])) hr32, ← hbh, ← eg]
  refine run_call1 k5 ?_
  simp only [RT, Nat.reduceLT, Nat.reduceBEq, Nat.reduceEqDiff, Nat.reduceAdd, Int.reduceEq, Int.reduceLT, Int.reduceLE, Int.reduceGT, Int.reduceGE]
  refine run_none (AR := argN) rfl ?_ Try.func5 Try.ntmps5 (by simp) ?_
  · intro A0 hf0
    have hxs : badH [] [(0, 0, rootR [])] = [] := by
      unfold badH badP
      show (List.range 1).filter _ = []
      rw [show List.range 1 = [0] from rfl]
      have : rightD [] (0, 0, rootR []) := ⟨by show (0 : Int) ≤ 0; omega, by show (0 : Int) ≤ 0; omega, rfl⟩
      simp [this]
    rw [← hxs]
    have hsl : Slc eHd ((Hp.emp).put bh (hdC (0, 0, rootR []))) (.sl bh 0 1 34) [(0, 0, rootR [])] := by
      refine .inr ⟨bh, 0, hdC (0, 0, rootR []), rfl, Hp.put_get _ _ _, by show 0 + 1 * 34 ≤ _; rw [hdC_len hr32]; omega, fun i x hx => ?_⟩
      match i, hx with
      | 0, hx =>
        cases hx
        show eHd.R _ (((hdC (0, 0, rootR [])).drop (0 + 0 * 34)).take 34) _
        rw [Nat.zero_mul, Nat.zero_add, List.drop_zero, List.take_of_length_le (by rw [hdC_len hr32]; exact Nat.le_refl _)]
        exact ⟨_, _, rfl, rfl, _, _, rfl, rfl, rfl, hr32⟩
      | i + 1, hx => simp at hx
    exact false1_goes (m := (Hp.emp).put bh (hdC (0, 0, rootR []))) ((fG.then0 (f5.then0 hf0)).wf w1) ((Hp.on_emp _).put ((f5.then0 hf0).row0 rg)) (fun b q => q.elim (fun q => q.elim) fun q => by cases q) (hf0.row0 r5) (hf0.row0 r6) (.inl ⟨rfl, rfl⟩) hsl (by simp) (fun x q => by cases q) (by simp)
  intro K hK
  have fK := fG.then0 (f5.then0 hK)
  have wK := fK.wf w1
  have hmK := hm1.fr0 fK
  obtain ⟨_, A5, k6, f6, a, b, ok, rfl, ht⟩ := twice_spec (m := Hp.emp) (v := .snil) (list := []) wK (Hp.on_emp _) (.inl ⟨rfl, rfl⟩) (by simp) (fun b q => by cases q)
  have hok := tw_nil ht
  subst hok
  obtain ⟨A6, s1, f7, _, _⟩ := new_set (P := Try.prog) A5 (z := [.int .i64 0, .int .i64 0, .int .i64 0]) (t := 57) (x := .agg [.int .i64 a, .int .i64 b, .int .i64 0]) (cs := [.int .i64 a, .int .i64 b, .int .i64 0]) rfl sz57 rfl rfl
  have fA6 := (fK.then0 f6).then0 f7
  have hmA6 := hm1.fr0 fA6
  obtain ⟨_, A7, k7, f8, n8, ok8, rfl, hfr8⟩ := foreign_spec (v := .snil) (hv := v) (list := []) (handed := ls) hmA6 (.inl ⟨rfl, rfl⟩) hl (by simp) (by omega)
  have h8' := for_none hfr8 (fun b q => by cases q)
  subst h8'
  have fA7 := fA6.then0 f8
  obtain ⟨_, A8, k9, f9, n9, ok9, rfl, hfr9⟩ := foreign_spec (v := v) (hv := v) (list := ls) (handed := ls) (hm1.fr0 fA7) hl hl (by omega) (by omega)
  have h9' := for_none hfr9 (fun b q => q)
  subst h9'
  have fA8 := fA7.then0 f9
  obtain ⟨_, A9, k10, hA9, rfl⟩ := longest_nil (A := A8)
  rw [hA9] at k10
  obtain ⟨C1, o1, o2⟩ := out true (fA8.row0 rv1)
  have hl0 : ∀ B, evLen Try.prog 22 .snil B = some (.int .i64 0) := fun B => by unfold evLen; rw [Try.underlying22]
  simp only [RT, Nat.reduceLT, Nat.reduceBEq, Nat.reduceEqDiff, Nat.reduceAdd, Int.reduceEq, Int.reduceLT, Int.reduceLE, Int.reduceGT, Int.reduceGE]
  refine run_call1 k6 ?_
  simp only [RT, Nat.reduceLT, Nat.reduceBEq, Nat.reduceEqDiff, Nat.reduceAdd, Int.reduceEq, Int.reduceLT, Int.reduceLE, Int.reduceGT, Int.reduceGE, zc57, s1, h0]
  refine run_call1 k7 ?_
  simp only [RT, Nat.reduceLT, Nat.reduceBEq, Nat.reduceEqDiff, Nat.reduceAdd, Int.reduceEq, Int.reduceLT, Int.reduceLE, Int.reduceGT, Int.reduceGE, h0]
  refine run_call1 k9 ?_
  simp only [RT, Nat.reduceLT, Nat.reduceBEq, Nat.reduceEqDiff, Nat.reduceAdd, Int.reduceEq, Int.reduceLT, Int.reduceLE, Int.reduceGT, Int.reduceGE]
  refine run_call1 k10 ?_
  simp only [RT, Nat.reduceLT, Nat.reduceBEq, Nat.reduceEqDiff, Nat.reduceAdd, Int.reduceEq, Int.reduceLT, Int.reduceLE, Int.reduceGT, Int.reduceGE, hl0, decide_eq_true (show ((0 : Int) = 0) from rfl), h4, o1, o2]
end
end Go.Sv.Try
