/- Audits: which heads aren't those of a list. -/
import Derived.Test.YtjhnciflgaijjaaAuC
import Derived.Test.YtjhnciflgaijjaaSv4
namespace Go.Sv
open Go
set_option linter.unusedVariables false
theorem keyInt {P : Program} {kt : TypeId} (hs : shapeT P 50 kt = some [.int .i64]) (ha : aggT P kt = some false) : KeyT P kt (fun n : Int => V.int .i64 n) where
  ok := fun k es h => by
    unfold keyOk
    simp only [hs, ha]
    rw [Bool.and_eq_true, Bool.and_eq_true]
    refine ⟨⟨rfl, keysFit_of fun e he => ?_⟩, List.all_eq_true.2 fun e he => ?_⟩
    · obtain ⟨a, q⟩ := h e he; rw [q]; rfl
    · obtain ⟨a, q⟩ := h e he; rw [q]
  eq := fun a b => by
    show (IntKind.i64 == IntKind.i64 && a == b) = _
    by_cases h : a = b <;> simp [h]
theorem rc_look {P : Program} {ops : Array Oper} {e : Env} {A : AS} {q d a b : Nat} {r : List Nat} {t : TypeId} {ok : Bool} {ty : TypeId} {pos : String} {after : Array Edge} {v w u : V} (ho : ops[q]? = some ⟨some d, .lookup t (.tmp a) (.tmp b) ok, ty, pos, after, none⟩)
    (ha : e.get a = w) (hb : e.get b = u) (hv : evLookup P t w u ok A = some v) (hd : e.get d = v) (hr : recheck P ops e A r = true) : recheck P ops e A (q :: r) = true :=
  rc_one ho (by rw [q_lookup, ev_tmp, ev_tmp, ha, hb]; simp [hv]) hd hr
abbrev HdP := Int × Int × Bts
def rightD (ls : List Bts) (h : HdP) : Prop := 0 ≤ h.2.1 ∧ h.2.1 ≤ ls.length ∧ rootR ((ls.map leafH).take h.2.1.toNat) = h.2.2
instance (ls : List Bts) (h : HdP) : Decidable (rightD ls h) := by unfold rightD; infer_instance
def badP (ls : List Bts) (hs : List HdP) (i : Nat) : Bool := match hs[i]? with
  | some h => !decide (rightD ls h)
  | none => false
def badH (ls : List Bts) (hs : List HdP) : List Nat := (List.range hs.length).filter (badP ls hs)
theorem run_cutA {P : Program} {H : Hints} {f : FuncId} {nt : Nat} {a : Kt} {k2 : List Kt} {x : Ex} {e : Env} {A : AS} {Q : Ex → Env → AS → Prop} (R : Ex → Env → AS → Prop) (h : Run P H f nt [a] x e A R) (hk : ∀ x e A, R x e A → Run P H f nt k2 x e A Q) : Run P H f nt (a :: k2) x e A Q := run_app (k1 := [a]) h hk
theorem filt_at {p : Nat → Bool} {i n : Nat} (h : i < n) (hp : p i = true) : ((List.range n).filter p)[((List.range i).filter p).length]? = some i := by
  obtain ⟨k, rfl⟩ : ∃ k, n = i + 1 + k := ⟨n - (i + 1), by omega⟩
  rw [List.range_add, List.range_succ, List.filter_append, List.filter_append, List.append_assoc, List.getElem?_append_right (Nat.le_refl _), Nat.sub_self]
  simp [hp]
theorem filt_succ {p : Nat → Bool} {i : Nat} : ((List.range (i + 1)).filter p) = (List.range i).filter p ++ (if p i = true then [i] else []) := by
  rw [List.range_succ, List.filter_append]
  congr 1
  cases h : p i <;> simp [h]
end Go.Sv
namespace Go.Sv.Try
open Go Go.Proofs
set_option linter.unusedVariables false
set_option linter.unusedSimpArgs false
def smallS (l : List (List Bts)) : Prop := l.length ≤ 8 ∧ ∀ x ∈ l, x.length ≤ 12 ∧ ∀ b ∈ x, b.length ≤ 1000
set_option maxRecDepth 10000 in
set_option maxHeartbeats 8000000 in
theorem fewS_spec {m : Hp} {A : AS} {v : V} {l : List (List Bts)} (hm : m.on A) (h : Slc (eSl (eSl eU8)) m v l) : ∃ w, EvF Try.prog HH 18 [v] A w A ∧ ∃ r, w = .bool r ∧ (r = true → smallS l) := by
  have key : ∃ w A', EvF Try.prog HH 18 [v] A w A' ∧ A' = A ∧ ∃ r, w = .bool r ∧ (r = true → smallS l) := by
    refine run_fn2 rfl Try.func18 (by unfold Try.f18; rfl) Try.ntmps18 (by unfold Try.f18; rfl) (by simp) ?_
    have hlen := fun B => h.len (P := Try.prog) Try.underlying26 B
    simp only [RT, Nat.reduceLT, Nat.reduceBEq, Nat.reduceEqDiff, Nat.reduceAdd, Int.reduceEq, Int.reduceLT, Int.reduceLE, Int.reduceGT, Int.reduceGE, hlen]
    refine condK_of (fun hgt => ?_) (fun hle => ?_)
    · simp only [RT, Nat.reduceLT, Nat.reduceBEq, Nat.reduceEqDiff, Nat.reduceAdd, Int.reduceEq, Int.reduceLT, Int.reduceLE, Int.reduceGT, Int.reduceGE]
      exact ⟨false, rfl, by simp⟩
    simp only [RT, Nat.reduceLT, Nat.reduceBEq, Nat.reduceEqDiff, Nat.reduceAdd, Int.reduceEq, Int.reduceLT, Int.reduceLE, Int.reduceGT, Int.reduceGE, hlen]
    refine run_loop (fun n e A' => A' = A ∧ ∃ i : Nat, n = l.length - i ∧ i ≤ l.length ∧ e.get 12 = .int .i64 i ∧ e.get 10 = v ∧ e.get 11 = .int .i64 l.length ∧ ∀ x ∈ l.take i, x.length ≤ 12 ∧ ∀ b ∈ x, b.length ≤ 1000) ⟨_, rfl, 0, rfl, by simp, rfl, rfl, rfl, by simp⟩ ?_
    rintro n e A' ⟨rfl, i, rfl, hi, h12, h10, h11, hall⟩
    simp only [RT, Nat.reduceLT, Nat.reduceBEq, Nat.reduceEqDiff, Nat.reduceAdd, Int.reduceEq, Int.reduceLT, Int.reduceLE, Int.reduceGT, Int.reduceGE, h12, h11]
    refine condK_of (fun hlt => ?_) (fun hge => ?_)
    · obtain ⟨x, hx⟩ := get_lt (l := l) (i := i) (by omega)
      have hil := (List.getElem?_eq_some_iff.1 hx).1
      obtain ⟨b, o, c, g1, g2, g3⟩ := h.at (P := Try.prog) (k := .i64) hm Try.underlying26 sz22 ag22 hx
      rw [eSl_W] at g3
      have g4 := fun B => g3.len (P := Try.prog) Try.underlying22 B
      simp only [RT, Nat.reduceLT, Nat.reduceBEq, Nat.reduceEqDiff, Nat.reduceAdd, Int.reduceEq, Int.reduceLT, Int.reduceLE, Int.reduceGT, Int.reduceGE, h10, h12, g1, g2, g4]
      refine condK_of (fun hgt => ?_) (fun hle2 => ?_)
      · simp only [RT, Nat.reduceLT, Nat.reduceBEq, Nat.reduceEqDiff, Nat.reduceAdd, Int.reduceEq, Int.reduceLT, Int.reduceLE, Int.reduceGT, Int.reduceGE]
        exact ⟨false, rfl, by simp⟩
      simp only [RT, Nat.reduceLT, Nat.reduceBEq, Nat.reduceEqDiff, Nat.reduceAdd, Int.reduceEq, Int.reduceLT, Int.reduceLE, Int.reduceGT, Int.reduceGE, g4]
      refine run_loop (fun n e' A'' => A'' = A' ∧ e'.get 12 = .int .i64 i ∧ e'.get 10 = v ∧ e'.get 11 = .int .i64 l.length ∧ ∃ j : Nat, n = x.length - j ∧ j ≤ x.length ∧ e'.get 21 = .int .i64 j ∧ e'.get 19 = c ∧ e'.get 20 = .int .i64 x.length ∧ ∀ b ∈ x.take j, b.length ≤ 1000) ⟨_, rfl, h12, h10, h11, 0, rfl, by simp, rfl, rfl, rfl, by simp⟩ ?_
      rintro n e' A'' ⟨rfl, k12, k10, k11, j, rfl, hj, k21, k19, k20, hall2⟩
      simp only [RT, Nat.reduceLT, Nat.reduceBEq, Nat.reduceEqDiff, Nat.reduceAdd, Int.reduceEq, Int.reduceLT, Int.reduceLE, Int.reduceGT, Int.reduceGE, k21, k20]
      refine condK_of (fun hlt => ?_) (fun hge => ?_)
      · obtain ⟨y, hy⟩ := get_lt (l := x) (i := j) (by omega)
        have hjl := (List.getElem?_eq_some_iff.1 hy).1
        obtain ⟨b', o', c', m1, m2, m3⟩ := g3.at (P := Try.prog) (k := .i64) hm Try.underlying22 sz44 ag44 hy
        rw [eSl_W] at m3
        have m4 := fun B => m3.len (P := Try.prog) Try.underlying44 B
        simp only [RT, Nat.reduceLT, Nat.reduceBEq, Nat.reduceEqDiff, Nat.reduceAdd, Int.reduceEq, Int.reduceLT, Int.reduceLE, Int.reduceGT, Int.reduceGE, k19, k21, m1, m2, m4]
        refine condK_of (fun hgt => ?_) (fun hle3 => ?_)
        · simp only [RT, Nat.reduceLT, Nat.reduceBEq, Nat.reduceEqDiff, Nat.reduceAdd, Int.reduceEq, Int.reduceLT, Int.reduceLE, Int.reduceGT, Int.reduceGE]
          exact ⟨false, rfl, by simp⟩
        · simp only [RT, Nat.reduceLT, Nat.reduceBEq, Nat.reduceEqDiff, Nat.reduceAdd, Int.reduceEq, Int.reduceLT, Int.reduceLE, Int.reduceGT, Int.reduceGE, k21]
          refine ⟨x.length - (j + 1), by omega, k12, k10, k11, j + 1, rfl, hjl, by rw [wrapS (by omega)], k19, k20, fun b hb => ?_⟩
          rcases mem_take_succ hy hb with q | rfl
          · exact hall2 b q
          · omega
      · simp only [RT, Nat.reduceLT, Nat.reduceBEq, Nat.reduceEqDiff, Nat.reduceAdd, Int.reduceEq, Int.reduceLT, Int.reduceLE, Int.reduceGT, Int.reduceGE, k12]
        refine ⟨l.length - (i + 1), by omega, i + 1, rfl, hil, by rw [wrapS (by omega)], k10, k11, fun y hy => ?_⟩
        rcases mem_take_succ hx hy with q | rfl
        · exact hall y q
        · refine ⟨by omega, fun b hb => hall2 b ?_⟩
          rw [List.take_of_length_le (by omega)]; exact hb
    · simp only [RT, Nat.reduceLT, Nat.reduceBEq, Nat.reduceEqDiff, Nat.reduceAdd, Int.reduceEq, Int.reduceLT, Int.reduceLE, Int.reduceGT, Int.reduceGE]
      exact ⟨true, rfl, fun _ => ⟨by omega, by rw [List.take_of_length_le (by omega)] at hall; exact hall⟩⟩
  obtain ⟨w, A', h1, rfl, h2⟩ := key
  exact ⟨w, h1, h2⟩
section
variable {A B : AS} {m : Hp}
def hdC (x : HdP) : List V := .int .i64 x.1 :: .int .i64 x.2.1 :: bc x.2.2
def eHd : Enc HdP := ePair (eInt .i64) (ePair (eInt .i64) (eB 32 (by decide)))
theorem eHd_W {w : V} {x : HdP} (h : eHd.W m w x) : w = .agg (hdC x) ∧ x.2.2.length = 32 := by
  obtain ⟨cs, rfl, h⟩ := h
  obtain ⟨_, _, rfl, rfl, _, _, rfl, rfl, rfl, h⟩ := h
  exact ⟨rfl, h⟩
theorem hdC_len {x : HdP} (h : x.2.2.length = 32) : (hdC x).length = 34 := by simp [hdC, bc_len, h]
theorem hdC_one (x : HdP) : (hdC x).all V.one = true := by simp only [hdC, List.all_cons, bc_one]; rfl
def hd0 : HdP := (0, 0, z32s)
theorem zcHd : (zeroT Try.prog 34).bind V.cells = some (hdC hd0) := by kernel_rfl
theorem newHd {x : HdP} (h : x.2.2.length = 32) : ∃ A', evStore Try.prog 34 (.ptr A.blk.length 0) (.agg (hdC x)) (A.push ⟨hdC hd0, .var⟩) = some A' ∧ Fr S0 A A' ∧ A'.blk[A.blk.length]? = some ⟨hdC x, .var⟩ := by
  obtain ⟨A2, s1, s2, s3, s4⟩ := new_set (P := Try.prog) A (z := hdC hd0) (t := 34) (x := .agg (hdC x)) (cs := hdC x) rfl (by rw [hdC_len h]; exact sz34) (by rw [hdC_len h]; rfl) (hdC_one x)
  exact ⟨A2, s1, s2, s3⟩
theorem faHd (b : Nat) : evFieldAddr Try.prog 34 (.ptr b 0) 0 = some (.ptr b 0) ∧ evFieldAddr Try.prog 34 (.ptr b 0) 1 = some (.ptr b 1) ∧ evFieldAddr Try.prog 34 (.ptr b 0) 2 = some (.ptr b 2) := ⟨by kernel_rfl, by kernel_rfl, by kernel_rfl⟩
theorem ldHd {b : Nat} {k : BK} {x : HdP} (hb : A.blk[b]? = some ⟨hdC x, k⟩) (h : x.2.2.length = 32) : evLoad Try.prog 3 (.ptr b 0) A = some (.int .i64 x.1) ∧ evLoad Try.prog 3 (.ptr b 1) A = some (.int .i64 x.2.1) ∧ evLoad Try.prog 32 (.ptr b 2) A = some (.agg (bc x.2.2)) ∧ evLoad Try.prog 34 (.ptr b 0) A = some (.agg (hdC x)) :=
  ⟨by rw [load_at ag3 hb]; rfl, by rw [load_at ag3 hb]; rfl, At.load hb (o := 2) ⟨[.int .i64 x.1, .int .i64 x.2.1], [], by simp [hdC], rfl⟩ ag32 sz32 (by rw [bc_len, h]), At.load hb (At.all _) ag34 sz34 (hdC_len h)⟩
theorem eqI2 {x y : Bts} (hx : x.length = 32) (hy : y.length = 32) : evEq Try.prog 32 (.agg (bc x)) (.agg (bc y)) = some (decide (x = y)) :=
  eq_bytes (n := 32) (by kernel_rfl) ag32 (by kernel_rfl) hx hy
def argN (_ : AS) (args : List V) (i : Nat) : Prop := args = [.int .i64 (i : Int)]
theorem false_spec {v u : V} (hv : v.one = true) (hu : u.one = true) : ∃ w A', EvF Try.prog HH 19 [v, u] A w A' ∧ w = .fn 61 [] [.ptr A.blk.length 0, .ptr (A.blk.length + 1) 0] ∧ Fr S0 A A' ∧ A'.blk[A.blk.length]? = some ⟨[v], .var⟩ ∧ A'.blk[A.blk.length + 1]? = some ⟨[u], .var⟩ := by
  refine run_fn2 rfl Try.func19 (by unfold Try.f19; rfl) Try.ntmps19 (by unfold Try.f19; rfl) (by simp) ?_
  obtain ⟨A1, e1, f1, r1, n1⟩ := new_var A [v]
  obtain ⟨A2, e2, f2, r2, n2⟩ := new_var A1 [u]
  simp only [RT, Nat.reduceLT, Nat.reduceBEq, Nat.reduceEqDiff, Nat.reduceAdd, Int.reduceEq, Int.reduceLT, Int.reduceLE, Int.reduceGT, Int.reduceGE, one_cells hv, one_cells hu, ← e1, ← e2, n1]
  rw [n1] at r2
  exact ⟨f1.then0 f2, f2.row0 r1, r2⟩
set_option maxRecDepth 10000 in
set_option maxHeartbeats 16000000 in
theorem false1_goes {b1 b2 : Nat} {v u : V} {ls : List Bts} {hs : List HdP} {S : Loc → Prop} (hw : WF A) (hm : m.on A) (hS : ∀ b, S (.row b) → m b = none ∧ b ≠ b1 ∧ b ≠ b2 ∧ b < A.blk.length) (h1 : A.blk[b1]? = some ⟨[v], .var⟩) (h2 : A.blk[b2]? = some ⟨[u], .var⟩)
    (hl : Slc (eSl eU8) m v ls) (hh : Slc eHd m u hs) (hn : ls.length ≤ 1000000) (hx : ∀ x ∈ ls, x.length ≤ 1000000) (hhn : hs.length ≤ 1000000) :
    Goes Try.prog HH 61 [] [.ptr b1 0, .ptr b2 0] A S argN (badH ls hs) := by
  intro lo J D hJ hD hstep hJ0
  refine run_fn2 rfl Try.func61 (by unfold Try.f61; rfl) Try.ntmps61 (by unfold Try.f61; rfl) (by simp) ?_
  obtain ⟨xs, hxs⟩ : ∃ x, x = badH ls hs := ⟨_, rfl⟩
  rw [← hxs] at hstep ⊢
  obtain ⟨p, hp⟩ : ∃ p, p = badP ls hs := ⟨_, rfl⟩
  have hxs2 : xs = (List.range hs.length).filter p := by rw [hxs, hp]; rfl
  obtain ⟨w0, A1, k1, f1, fo, hL, hfo⟩ := entries_spec hw hm hl (by omega) (fun x q => by have := hx x q; omega)
  obtain ⟨lv, hlv⟩ : ∃ l, l = ls.map leafH := ⟨_, rfl⟩
  rw [← hlv] at hL
  have hlvn : lv.length = ls.length := by rw [hlv, List.length_map]
  have hlen := fun B => hh.len (P := Try.prog) Try.underlying23 B
  have hf1 : Fr S A A1 := f1.mono fun _ q => q.elim
  simp only [RT, Nat.reduceLT, Nat.reduceBEq, Nat.reduceEqDiff, Nat.reduceAdd, Int.reduceEq, Int.reduceLT, Int.reduceLE, Int.reduceGT, Int.reduceGE, load_one ag22 h1]
  refine run_call1 k1 ?_
  simp only [RT, Nat.reduceLT, Nat.reduceBEq, Nat.reduceEqDiff, Nat.reduceAdd, Int.reduceEq, Int.reduceLT, Int.reduceLE, Int.reduceGT, Int.reduceGE, load_one ag23 (f1.row0 h2), hlen]
  have hlenL := fun B => hL.len (P := Try.prog) Try.underlying36 B
  have keepL : ∀ {B C : AS}, Fr S A B → Lst eI Hp.emp B w0 lv fo → Fr S B C → Lst eI Hp.emp C w0 lv fo := fun {B C} q w z => w.fr z fun b y f k base y1 y2 y3 => by
    have hb := (hS b y).2.2.2
    obtain ⟨cs', z1, z2⟩ := q.kind b _ (List.getElem?_eq_getElem hb)
    rw [y2] at z1; cases z1
    have := hw b _ f base (List.getElem?_eq_getElem hb) y3
    have := hfo f y1
    omega
  refine run_loop_j (fun z e B => ∃ i : Nat, z = hs.length - i ∧ i ≤ hs.length ∧ e.get 12 = .int .i64 i ∧ e.get 0 = .yield lo ∧ e.get 4 = w0 ∧ e.get 10 = u ∧ e.get 11 = .int .i64 hs.length ∧ Fr S A B ∧ Lst eI Hp.emp B w0 lv fo ∧ J ((List.range i).filter p).length B)
    (fun z e B => Fr S A B ∧ ((Is z (.exit 0) ∧ J xs.length B) ∨ (Is z .ret ∧ ∃ i, i < xs.length ∧ D i B)))
    ⟨_, 0, rfl, by omega, rfl, rfl, rfl, rfl, rfl, hf1, hL, hJ _ _ _ hJ0 f1⟩ ?_ ?_
  rotate_left
  · rintro z e B hz ⟨q1, ⟨rfl, q2⟩ | ⟨rfl, q2⟩⟩
    · simp only [RT, Nat.reduceLT, Nat.reduceBEq, Nat.reduceEqDiff, Nat.reduceAdd, Int.reduceEq, Int.reduceLT, Int.reduceLE, Int.reduceGT, Int.reduceGE]
      exact ⟨q1, .inl q2⟩
    · simp only [RT, Nat.reduceLT, Nat.reduceBEq, Nat.reduceEqDiff, Nat.reduceAdd, Int.reduceEq, Int.reduceLT, Int.reduceLE, Int.reduceGT, Int.reduceGE]
      exact ⟨q1, .inr q2⟩
  clear hL k1 f1 hf1 hJ0
  rintro z e B ⟨i, rfl, hi, h12, h0, h4, h10, h11, hf, hL, hj⟩
  simp only [RT, Nat.reduceLT, Nat.reduceBEq, Nat.reduceEqDiff, Nat.reduceAdd, Int.reduceEq, Int.reduceLT, Int.reduceLE, Int.reduceGT, Int.reduceGE, h11, h12]
  refine condK_of (fun q1 => ?_) (fun q1 => ?_)
  rotate_left
  · have : i = hs.length := by omega
    subst this
    simp only [RT, Nat.reduceLT, Nat.reduceBEq, Nat.reduceEqDiff, Nat.reduceAdd, Int.reduceEq, Int.reduceLT, Int.reduceLE, Int.reduceGT, Int.reduceGE]
    exact ⟨hf, .inl ⟨rfl, by rw [hxs2]; exact hj⟩⟩
  obtain ⟨x, hx'⟩ := get_lt (l := hs) (i := i) (by omega)
  obtain ⟨b, o, c, g3, g4, g5⟩ := hh.at (P := Try.prog) (k := .i64) (hm.fr hf fun b q => (hS b q).1) Try.underlying23 sz34 ag34 hx'
  obtain ⟨rfl, hx32⟩ := eHd_W g5
  obtain ⟨C, s1, s2, s3⟩ := newHd (A := B) hx32
  obtain ⟨b6, hb6⟩ : ∃ b, b = B.blk.length := ⟨_, rfl⟩
  rw [← hb6] at s1 s3
  have hfC := hf.then0 s2
  have hLC := hL.fr0 s2
  have hjC := hJ _ _ _ hj s2
  have fa := faHd b6
  have ld := ldHd s3 hx32
  have hwi : IntKind.i64.wrap ((i : Int) + 1) = ((i + 1 : Nat) : Int) := by rw [wrapS (by omega)]
  have hpi : p i = !decide (rightD ls x) := by rw [hp]; unfold badP; rw [hx']
  simp only [RT, Nat.reduceLT, Nat.reduceBEq, Nat.reduceEqDiff, Nat.reduceAdd, Int.reduceEq, Int.reduceLT, Int.reduceLE, Int.reduceGT, Int.reduceGE, h10, h12, g3, g4, zcHd, ← hb6, s1]
  refine run_cutA (fun z e D => Is z .normal ∧ e.get 7 = .bool (decide (rightD ls x)) ∧ e.get 12 = .int .i64 i ∧ e.get 5 = .int .i64 i ∧ e.get 0 = .yield lo ∧ e.get 4 = w0 ∧ e.get 10 = u ∧ e.get 11 = .int .i64 hs.length ∧ Fr S0 C D) ?_ ?_
  · by_cases c1 : x.2.1 ≥ 0
    rotate_left
    · have hno : decide (rightD ls x) = false := decide_eq_false fun q => c1 q.1
      simp only [RT, Nat.reduceLT, Nat.reduceBEq, Nat.reduceEqDiff, Nat.reduceAdd, Int.reduceEq, Int.reduceLT, Int.reduceLE, Int.reduceGT, Int.reduceGE, pl_61_4, fa, ld, decide_eq_false c1, rc_nil]
      rw [hno]
      have z9 : Fr S0 C C := .refl _ _
      and_intros <;> first | rfl | assumption
    obtain ⟨sz, hsz⟩ := Int.eq_ofNat_of_zero_le c1
    by_cases c2 : sz ≤ ls.length
    rotate_left
    · have hno : decide (rightD ls x) = false := decide_eq_false fun q => by have := q.2.1; omega
      simp only [RT, Nat.reduceLT, Nat.reduceBEq, Nat.reduceEqDiff, Nat.reduceAdd, Int.reduceEq, Int.reduceLT, Int.reduceLE, Int.reduceGT, Int.reduceGE, pl_61_4, fa, ld, decide_eq_true c1, h4, hlenL, hlvn, decide_eq_false (show ¬ (x.2.1 ≤ (ls.length : Int)) by omega), rc_nil]
      rw [hno]
      have z9 : Fr S0 C C := .refl _ _
      and_intros <;> first | rfl | assumption
    obtain ⟨wt, t1, t2⟩ := hLC.toN (P := Try.prog) (t := 36) Try.underlying36 sz32 (hi := sz) (by omega) (kh := .i64) C
    have t2 := t2.slcArr (fun _ _ q => by cases q)
    obtain ⟨_, D, k1, f1, rfl⟩ := treeRoot_spec (hfC.wf hw) (arrHp_on C) t2 (by rw [List.length_take]; omega)
    have hr32 : (rootR (lv.take sz)).length = 32 := rootR_len fun y hy => by
      rw [hlv] at hy
      obtain ⟨b, _, rfl⟩ := List.mem_map.1 (List.mem_of_mem_take hy)
      exact leafH_len b
    have hdec : decide (rightD ls x) = decide (rootR (lv.take sz) = x.2.2) := by
      have : rightD ls x ↔ rootR (lv.take sz) = x.2.2 := by
        unfold rightD
        rw [hlv, hsz, Int.toNat_natCast]
        exact ⟨fun q => q.2.2, fun q => ⟨by omega, by omega, q⟩⟩
      by_cases q : rightD ls x
      · rw [decide_eq_true q, decide_eq_true (this.1 q)]
      · rw [decide_eq_false q, decide_eq_false fun w => q (this.2 w)]
    have ldD := ldHd (f1.row0 s3) hx32
    rw [← hsz] at t1
    simp only [RT, Nat.reduceLT, Nat.reduceBEq, Nat.reduceEqDiff, Nat.reduceAdd, Int.reduceEq, Int.reduceLT, Int.reduceLE, Int.reduceGT, Int.reduceGE, pl_61_4, fa, ld, decide_eq_true c1, h4, hlenL, hlvn, decide_eq_true (show (x.2.1 ≤ (ls.length : Int)) by omega), t1, rc_nil]
    refine run_call1 k1 ?_
    simp only [RT, Nat.reduceLT, Nat.reduceBEq, Nat.reduceEqDiff, Nat.reduceAdd, Int.reduceEq, Int.reduceLT, Int.reduceLE, Int.reduceGT, Int.reduceGE, rc_nil]
    refine ⟨rc_gload (ha := rfl) rfl rfl rfl rfl ldD.2.2.1 rfl rc_nil, ?_⟩
    simp only [RT, Nat.reduceLT, Nat.reduceBEq, Nat.reduceEqDiff, Nat.reduceAdd, Int.reduceEq, Int.reduceLT, Int.reduceLE, Int.reduceGT, Int.reduceGE, rc_nil, eqI2 hr32 hx32]
    rw [hdec]
    and_intros <;> first | rfl | assumption
  rintro z e D ⟨rfl, h7, h12, h5, h0, h4, h10, h11, hCD⟩
  have hfD := hfC.then0 hCD
  have hLD := hLC.fr0 hCD
  have hjD := hJ _ _ _ hjC hCD
  by_cases hr : rightD ls x
  · have hpf : p i = false := by rw [hpi, decide_eq_true hr]; rfl
    simp only [RT, Nat.reduceLT, Nat.reduceBEq, Nat.reduceEqDiff, Nat.reduceAdd, Int.reduceEq, Int.reduceLT, Int.reduceLE, Int.reduceGT, Int.reduceGE, h7, un_notd, decide_eq_true hr, not_true_eq_false, h12, hwi]
    refine ⟨hs.length - (i + 1), by omega, i + 1, rfl, by omega, rfl, h0, h4, h10, h11, hfD, hLD, ?_⟩
    rw [filt_succ, hpf]; simpa using hjD
  · have hpt : p i = true := by rw [hpi, decide_eq_false hr]; rfl
    have hat := filt_at (p := p) (n := hs.length) (by omega) hpt
    rw [← hxs2] at hat
    obtain ⟨bb, E, y1, y2, y3, y4⟩ := hstep _ _ D _ hat hjD hfD rfl
    simp only [RT, Nat.reduceLT, Nat.reduceBEq, Nat.reduceEqDiff, Nat.reduceAdd, Int.reduceEq, Int.reduceLT, Int.reduceLE, Int.reduceGT, Int.reduceGE, h7, un_notd, decide_eq_false hr, not_false_eq_true, h0, h5]
    refine ⟨_, E, y1, ?_⟩
    simp only [RT, Nat.reduceLT, Nat.reduceBEq, Nat.reduceEqDiff, Nat.reduceAdd, Int.reduceEq, Int.reduceLT, Int.reduceLE, Int.reduceGT, Int.reduceGE]
    have hfE := hfD.thn y2
    have hLE := keepL hfD hLD y2
    cases bb with
    | true =>
      simp only [RT, Nat.reduceLT, Nat.reduceBEq, Nat.reduceEqDiff, Nat.reduceAdd, Int.reduceEq, Int.reduceLT, Int.reduceLE, Int.reduceGT, Int.reduceGE, h12, hwi]
      refine ⟨hs.length - (i + 1), by omega, i + 1, rfl, by omega, rfl, h0, h4, h10, h11, hfE, hLE, ?_⟩
      rw [filt_succ, hpt]
      simpa using y3 rfl
    | false =>
      simp only [RT, Nat.reduceLT, Nat.reduceBEq, Nat.reduceEqDiff, Nat.reduceAdd, Int.reduceEq, Int.reduceLT, Int.reduceLE, Int.reduceGT, Int.reduceGE]
      exact ⟨hfE, .inr ⟨rfl, _, (List.getElem?_eq_some_iff.1 hat).1, y4 rfl⟩⟩
end
end Go.Sv.Try
namespace Go.Sv.Try
open Go Go.Proofs
set_option linter.unusedVariables false
set_option linter.unusedSimpArgs false
section
variable {A B : AS} {m : Hp}
set_option maxRecDepth 10000 in
set_option maxHeartbeats 8000000 in
theorem right_spec {v : V} {ls : List Bts} {size : Int} {root : Bts} (hw : WF A) (hm : m.on A) (hs : Slc (eSl eU8) m v ls) (hr : root.length = 32) (hn : ls.length ≤ 1000000) (hx : ∀ x ∈ ls, x.length ≤ 1000000) (ht : Int) :
    ∃ w A', EvF Try.prog HH 20 [v, .int .i64 size, .agg (bc root)] A w A' ∧ Fr S0 A A' ∧ w = .bool (decide (rightD ls (ht, size, root))) := by
  have hlen := fun B => hs.len (P := Try.prog) Try.underlying22 B
  refine run_fn2 rfl Try.func20 (by unfold Try.f20; rfl) Try.ntmps20 (by unfold Try.f20; rfl) (by simp) ?_
  obtain ⟨A1, e1, f1, r1, n1⟩ := new_var A (bc root)
  by_cases c1 : size < 0
  · have hno : decide (rightD ls (ht, size, root)) = false := decide_eq_false fun q => by have : 0 ≤ size := q.1; omega
    simp only [RT, Nat.reduceLT, Nat.reduceBEq, Nat.reduceEqDiff, Nat.reduceAdd, Int.reduceEq, Int.reduceLT, Int.reduceLE, Int.reduceGT, Int.reduceGE, ← e1, decide_eq_true c1]
    exact ⟨f1, by rw [hno]⟩
  by_cases c2 : size > (ls.length : Int)
  · have hno : decide (rightD ls (ht, size, root)) = false := decide_eq_false fun q => by have : size ≤ ls.length := q.2.1; omega
    simp only [RT, Nat.reduceLT, Nat.reduceBEq, Nat.reduceEqDiff, Nat.reduceAdd, Int.reduceEq, Int.reduceLT, Int.reduceLE, Int.reduceGT, Int.reduceGE, ← e1, decide_eq_false c1, hlen, decide_eq_true c2]
    exact ⟨f1, by rw [hno]⟩
  obtain ⟨sz, rfl⟩ := Int.eq_ofNat_of_zero_le (show 0 ≤ size by omega)
  simp only [RT, Nat.reduceLT, Nat.reduceBEq, Nat.reduceEqDiff, Nat.reduceAdd, Int.reduceEq, Int.reduceLT, Int.reduceLE, Int.reduceGT, Int.reduceGE, ← e1, decide_eq_false c1, hlen, decide_eq_false c2]
  obtain ⟨b5, hb5⟩ : ∃ b, b = A.blk.length := ⟨_, rfl⟩
  rw [← hb5] at r1
  refine run_loop_j (fun z e B => ∃ (i : Nat) (w : V) (fo : Option Nat), z = sz - i ∧ i ≤ sz ∧ e.get 8 = .int .i64 i ∧ e.get 0 = v ∧ e.get 1 = .int .i64 (sz : Int) ∧ e.get 5 = .ptr b5 0 ∧ e.get 7 = w ∧ Fr S0 A1 B ∧ Lst eI Hp.emp B w ((ls.take i).map leafH) fo ∧ ∀ f, fo = some f → A1.blk.length ≤ f)
    (fun z e B => Is z (.exit 0) ∧ ∃ (w : V) (fo : Option Nat), e.get 5 = .ptr b5 0 ∧ e.get 7 = w ∧ Fr S0 A1 B ∧ Lst eI Hp.emp B w ((ls.take sz).map leafH) fo ∧ ∀ f, fo = some f → A1.blk.length ≤ f)
    ⟨_, 0, .snil, none, rfl, by omega, rfl, rfl, rfl, by rw [hb5]; rfl, rfl, .refl _ _, .nil, fun f q => by cases q⟩ ?_ ?_
  · rintro z e B ⟨i, w, fo, rfl, hi, h8, h0, h1, h5, h7, hf, hL, hfo⟩
    simp only [RT, Nat.reduceLT, Nat.reduceBEq, Nat.reduceEqDiff, Nat.reduceAdd, Int.reduceEq, Int.reduceLT, Int.reduceLE, Int.reduceGT, Int.reduceGE, h8, h1]
    refine condK_of (fun q1 => ?_) (fun q1 => ?_)
    rotate_left
    · have : i = sz := by omega
      subst this
      simp only [RT, Nat.reduceLT, Nat.reduceBEq, Nat.reduceEqDiff, Nat.reduceAdd, Int.reduceEq, Int.reduceLT, Int.reduceLE, Int.reduceGT, Int.reduceGE]
      exact ⟨rfl, w, fo, h5, h7, hf, hL, hfo⟩
    obtain ⟨x, hx'⟩ := get_lt (l := ls) (i := i) (by omega)
    have wB := hf.wf (f1.wf hw)
    obtain ⟨b, o, c, g3, g4, g5⟩ := hs.at (P := Try.prog) (k := .i64) ((hm.fr0 f1).fr0 hf) Try.underlying22 sz44 ag44 hx'
    have g5 := eSl_W.1 g5
    have hcv := cnv_text (P := Try.prog) (s := 44) (d := 9) (by decide) g5 ((hm.fr0 f1).fr0 hf) Try.underlying44 Try.underlying5 Try.underlying9
    have hxl := hx x (List.mem_of_getElem? hx')
    obtain ⟨_, C, k1, f2, rfl⟩ := refLeaf_spec (A := B) (x := x) wB (by omega)
    obtain ⟨v4, D, fo', p1, p2, p3, p4⟩ := (hL.fr0 f2).push (P := Try.prog) (t := 36) (tx := 36) (n := 32) rfl sl36 Try.underlying36 (f2.wf wB) (y := leafH x) (cs' := bc (leafH x)) ⟨rfl, leafH_len x⟩ (by rw [List.length_map, List.length_take]; omega) (by rw [List.length_map, List.length_take]; omega)
    have hwi : IntKind.i64.wrap ((i : Int) + 1) = ((i + 1 : Nat) : Int) := by rw [wrapS (by omega)]
    simp only [RT, Nat.reduceLT, Nat.reduceBEq, Nat.reduceEqDiff, Nat.reduceAdd, Int.reduceEq, Int.reduceLT, Int.reduceLE, Int.reduceGT, Int.reduceGE, h0, h8, g3, g4, hcv]
    refine run_call1 k1 ?_
    simp only [RT, Nat.reduceLT, Nat.reduceBEq, Nat.reduceEqDiff, Nat.reduceAdd, Int.reduceEq, Int.reduceLT, Int.reduceLE, Int.reduceGT, Int.reduceGE, bslI1 (leafH_len x), h7, p1, h8, hwi]
    have hfC := hf.then0 f2
    have hfD : Fr S0 A1 D := hfC.newFam (f1.wf hw) p3 hfo
    have hfo' : ∀ f, fo' = some f → A1.blk.length ≤ f := fun f q => by
      rcases p4.or q with y | y
      · exact hfo f y
      · have := hfC.len; omega
    have e : (ls.take i).map leafH ++ [leafH x] = (ls.take (i + 1)).map leafH := by rw [take_snoc hx']; simp
    rw [e] at p2
    refine ⟨sz - (i + 1), by omega, i + 1, v4, fo', rfl, by omega, ?_⟩
    and_intros <;> first | rfl | assumption
  rintro z e B hz ⟨rfl, w, fo, h5, h7, hf, hL, hfo⟩
  have hL := hL.slcArr (fun _ _ q => by cases q)
  have wB := hf.wf (f1.wf hw)
  obtain ⟨_, C, k1, f2, rfl⟩ := refRoot_spec (m := arrHp B) sz (A := B) (by rw [List.length_map, List.length_take]; omega) (by rw [List.length_map, List.length_take]; omega) wB (arrHp_on B) hL
  have hr32 : (rootR ((ls.take sz).map leafH)).length = 32 := rootR_len fun y hy => by
    obtain ⟨b, _, rfl⟩ := List.mem_map.1 hy
    exact leafH_len b
  have lr := ldI (hf.row0 r1) hr
  have lr2 := ldI (f2.row0 (hf.row0 r1)) hr
  simp only [RT, Nat.reduceLT, Nat.reduceBEq, Nat.reduceEqDiff, Nat.reduceAdd, Int.reduceEq, Int.reduceLT, Int.reduceLE, Int.reduceGT, Int.reduceGE]
  simp only [RT, Nat.reduceLT, Nat.reduceBEq, Nat.reduceEqDiff, Nat.reduceAdd, Int.reduceEq, Int.reduceLT, Int.reduceLE, Int.reduceGT, Int.reduceGE, pl_20_8, h7, h5, lr, rc_nil]
  refine run_call1 k1 ?_
  simp only [RT, Nat.reduceLT, Nat.reduceBEq, Nat.reduceEqDiff, Nat.reduceAdd, Int.reduceEq, Int.reduceLT, Int.reduceLE, Int.reduceGT, Int.reduceGE, rc_nil]
  refine ⟨rc_load (ha := h5) rfl lr2 rfl rc_nil, ?_⟩
  simp only [RT, Nat.reduceLT, Nat.reduceBEq, Nat.reduceEqDiff, Nat.reduceAdd, Int.reduceEq, Int.reduceLT, Int.reduceLE, Int.reduceGT, Int.reduceGE, rc_nil, eqI2 hr32 hr]
  refine ⟨(f1.then0 hf).then0 f2, ?_⟩
  have : rightD ls (ht, (sz : Int), root) ↔ rootR ((ls.take sz).map leafH) = root := by
    unfold rightD
    simp only [Int.toNat_natCast]
    rw [List.map_take]
    exact ⟨fun q => q.2.2, fun q => ⟨by omega, by omega, q⟩⟩
  by_cases q : rightD ls (ht, (sz : Int), root)
  · rw [decide_eq_true q, decide_eq_true (this.1 q)]
  · rw [decide_eq_false q, decide_eq_false fun w => q (this.2 w)]
theorem bslHd {x : HdP} (h : x.2.2.length = 32) : bsl Try.prog 23 1 (some [(0, .agg (hdC x))]) = some (.newSl (hdC x) 1 34) := bsl_one Try.underlying23 sz34 zcHd rfl (hdC_len h) (by decide)
set_option maxRecDepth 10000 in
set_option maxHeartbeats 8000000 in
theorem wrong_spec {v : V} {ls : List Bts} {h : HdP} (hw : WF A) (hm : m.on A) (hs : Slc (eSl eU8) m v ls) (hr : h.2.2.length = 32) (hn : ls.length ≤ 1000000) (hx : ∀ x ∈ ls, x.length ≤ 1000000) (hri : rightD ls h) :
    ∃ w A', EvF Try.prog HH 22 [v, .agg (hdC h)] A w A' ∧ Fr S0 A A' ∧ w = .bool false := by
  refine run_fn2 rfl Try.func22 (by unfold Try.f22; rfl) Try.ntmps22 (by unfold Try.f22; rfl) (by simp) ?_
  obtain ⟨A1, e1, f1, r1, n1⟩ := new_var A (hdC h)
  obtain ⟨A2, e2, f2, r2, n2⟩ := new_var A1 [.bool false]
  obtain ⟨b4, hb4⟩ : ∃ b, b = A1.blk.length := ⟨_, rfl⟩
  obtain ⟨b5, hb5⟩ : ∃ b, b = A2.blk.length := ⟨_, rfl⟩
  obtain ⟨A3, e3⟩ : ∃ B, B = A2.push ⟨hdC h, .arr b5 0⟩ := ⟨_, rfl⟩
  have f3 : Fr S0 A2 A3 := by rw [e3, hb5]; exact Fr.pushArr A2 _
  have r3 : A3.blk[b5]? = some ⟨hdC h, .arr b5 0⟩ := by rw [e3, hb5]; exact push_row A2 _
  have n3 : A3.blk.length = b5 + 1 := by rw [e3, push_len, hb5]
  have f13 := (f1.then0 f2).then0 f3
  rw [← hb4] at r2
  obtain ⟨_, A4, k4, rfl, f4, q1, q2⟩ := false_spec (A := A3) (v := v) (u := .sl b5 0 1 34) hs.one rfl
  have f14 := f13.then0 f4
  have ld := (ldHd (f2.row0 r1) hr).2.2.2
  simp only [RT, Nat.reduceLT, Nat.reduceBEq, Nat.reduceEqDiff, Nat.reduceAdd, Int.reduceEq, Int.reduceLT, Int.reduceLE, Int.reduceGT, Int.reduceGE, ← e1, zc4, ← e2, ld, bslHd hr, ← hb5, ← e3]
  refine run_call1 k4 ?_
  simp only [RT, Nat.reduceLT, Nat.reduceBEq, Nat.reduceEqDiff, Nat.reduceAdd, Int.reduceEq, Int.reduceLT, Int.reduceLE, Int.reduceGT, Int.reduceGE]
  have hxs : badH ls [h] = [] := by
    unfold badH badP
    show (List.range 1).filter _ = []
    rw [show List.range 1 = [0] from rfl]
    simp [hri]
  have hmu : ∀ b, A.blk.length ≤ b → m b = none := fun b q => hm.fresh q
  have l1 := f1.len
  have l2 := f2.len
  obtain ⟨m', hm'⟩ : ∃ m', m' = m.put b5 (hdC h) := ⟨_, rfl⟩
  have le1 : m.le m' := by rw [hm']; exact Hp.le_put (hmu b5 (by omega))
  have on4 : m'.on A4 := by rw [hm']; exact (hm.fr0 f14).put (f4.row0 r3)
  have hsl : Slc eHd m' (.sl b5 0 1 34) [h] := by
    refine .inr ⟨b5, 0, hdC h, rfl, by rw [hm']; exact Hp.put_get _ _ _, by show 0 + 1 * 34 ≤ _; rw [hdC_len hr]; omega, fun i x hx => ?_⟩
    match i, hx with
    | 0, hx =>
      cases hx
      show eHd.R m' (((hdC h).drop (0 + 0 * 34)).take 34) h
      rw [Nat.zero_mul, Nat.zero_add, List.drop_zero, List.take_of_length_le (by rw [hdC_len hr]; exact Nat.le_refl _)]
      exact ⟨_, _, rfl, rfl, _, _, rfl, rfl, rfl, hr⟩
    | i + 1, hx => simp at hx
  have r24 := f4.row0 (f3.row0 r2)
  have n2' : A2.blk.length = b4 + 1 := by rw [n2, hb4]
  refine run_goes_k (S := (· = .row b4)) (AR := argN) (xs := badH ls [h]) (fun i B => B.blk[b4]? = some ⟨[.bool false], .var⟩) (fun B => B.blk[b4]? = some ⟨[.bool false], .var⟩)
    rfl (fun q => by cases q) ?_ r24 ?_ ?_ Try.func22 Try.ntmps22 (by simp) ?_ ?_ ?_
  · intro A0 hf0
    refine false1_goes ((f14.then0 hf0).wf hw) (on4.fr0 hf0) ?_ (hf0.row0 q1) (hf0.row0 q2) (hs.mono le1) hsl hn hx (by simp)
    rintro b (q | q)
    · cases q
      have := hf0.len
      have := f4.len
      refine ⟨?_, by omega, by omega, by omega⟩
      rw [hm']; show (if b4 = b5 then _ else m b4) = none
      rw [if_neg (by omega)]; exact hmu b4 (by omega)
    · cases q
  · intro i B C q hf
    exact hf.row _ _ q (fun y => by cases y)
  · intro B C q hf
    exact hf.row _ _ q (fun y => by cases y)
  · intro i x B args hi
    rw [hxs] at hi
    simp at hi
  · exact fun _ q => q
  · intro B hB hf
    obtain ⟨C, t1, t2, t3, t4⟩ := store_one (P := Try.prog) (t := 4) (x := .bool false) hB rfl sz4 rfl
    have t1' : evStore Try.prog 4 (.ptr A1.blk.length 0) (.bool false) B = some C := by rw [← hb4]; exact t1
    have ldt : evLoad Try.prog 4 (.ptr A1.blk.length 0) C = some (.bool false) := by rw [← hb4]; exact load_one ag4 t3
    simp only [RT, Nat.reduceLT, Nat.reduceBEq, Nat.reduceEqDiff, Nat.reduceAdd, Int.reduceEq, Int.reduceLT, Int.reduceLE, Int.reduceGT, Int.reduceGE, t1', ldt]
    exact (f14.row_ hf (by omega)).row_ t2 (by omega)
end
end Go.Sv.Try
namespace Go.Sv.Try
open Go Go.Proofs
set_option linter.unusedVariables false
set_option linter.unusedSimpArgs false
section
variable {A B : AS} {m : Hp}
theorem mkmI : mkm Try.prog 27 (some none) = some .newMap := by kernel_rfl
theorem zcMp : (zeroT Try.prog 27).bind V.cells = some [.mnil] := by kernel_rfl
theorem mtI : mapT Try.prog 27 = some (3, 4) := by kernel_rfl
theorem zBo : zeroT Try.prog 4 = some (.bool false) := by kernel_rfl
theorem kInt : KeyT Try.prog 3 (fun n : Int => V.int .i64 n) := keyInt (by kernel_rfl) ag3
theorem bslL {v : V} (h : v = .snil ∨ ∃ b o n z, v = .sl b o n z) : bsl Try.prog 26 1 (some [(0, v)]) = some (.newSl [v] 1 1) := by
  rcases h with rfl | ⟨_, _, _, _, rfl⟩ <;> kernel_rfl
theorem bldHd (s : Int) (g : Nat → V) : evBuild Try.prog 34 [(1, .int .i64 s), (2, .agg ((List.range 32).map g))] = some (.agg (.int .i64 0 :: .int .i64 s :: (List.range 32).map g)) := by kernel_rfl
theorem bldHd' {s : Int} {x : Bts} (h : x.length = 32) : evBuild Try.prog 34 [(1, .int .i64 s), (2, .agg (bc x))] = some (.agg (hdC (0, s, x))) := by
  obtain ⟨g, hg⟩ := cells_fun (l := bc x) (n := 32) (by rw [bc_len, h])
  unfold hdC; simp only []; rw [hg]; exact bldHd s g
theorem look_map : ∀ {l : List Nat} {i : Nat}, lookL (l.map fun j : Nat => ((j : Int), true)) (i : Int) = if i ∈ l then some true else none
  | [], i => by simp [lookL]
  | j :: l, i => by
    rw [List.map_cons, lookL, look_map]
    by_cases q : i = j
    · subst q; simp
    · have h1 : ¬ (j : Int) = (i : Int) := by omega
      have h2 : ¬ (i : Int) = (j : Int) := by omega
      simp [h1, h2, q]
theorem badH_mem {ls : List Bts} {hs : List HdP} {i : Nat} {h : HdP} (hi : hs[i]? = some h) : (i ∈ badH ls hs) ↔ ¬ rightD ls h := by
  unfold badH
  rw [List.mem_filter, List.mem_range]
  have hlt := (List.getElem?_eq_some_iff.1 hi).1
  unfold badP
  rw [hi]
  simp [hlt]
theorem badH_nodup (ls : List Bts) (hs : List HdP) : (badH ls hs).Nodup := List.Pairwise.filter _ List.nodup_range
set_option maxRecDepth 10000 in
set_option maxHeartbeats 32000000 in
theorem auditHeads_spec {v u : V} {ls : List Bts} {hs : List HdP} (hw : WF A) (hm : m.on A) (hl : Slc (eSl eU8) m v ls) (hh : Slc eHd m u hs) :
    ∃ w A', EvF Try.prog HH 3 [v, u] A w A' ∧ w = .bool true := by
  refine run_fn2 rfl Try.func3 (by unfold Try.f3; rfl) Try.ntmps3 (by unfold Try.f3; rfl) (by simp) ?_
  simp only [RT, Nat.reduceLT, Nat.reduceBEq, Nat.reduceEqDiff, Nat.reduceAdd, Int.reduceEq, Int.reduceLT, Int.reduceLE, Int.reduceGT, Int.reduceGE]
  refine run_call1 (evF_ground rfl) ?_
  obtain ⟨b0, hb0⟩ : ∃ b, b = A.blk.length := ⟨_, rfl⟩
  obtain ⟨A1, e1⟩ : ∃ B, B = A.push ⟨[v], .arr b0 0⟩ := ⟨_, rfl⟩
  have f1 : Fr S0 A A1 := by rw [e1, hb0]; exact Fr.pushArr A _
  have r1 : A1.blk[b0]? = some ⟨[v], .arr b0 0⟩ := by rw [e1, hb0]; exact push_row A _
  have hno : ∀ b, A.blk.length ≤ b → m b = none := fun b q => hm.fresh q
  have on1 : (m.put b0 [v]).on A1 := (hm.fr0 f1).put r1
  have le1 : m.le (m.put b0 [v]) := Hp.le_put (hno b0 (by omega))
  have hsl : Slc (eSl (eSl eU8)) (m.put b0 [v]) (.sl b0 0 1 1) [ls] := slcV (Hp.put_get _ _ _) rfl rfl fun i x hx => by
    match i, hx with
    | 0, hx => cases hx; exact ⟨_, rfl, hl.mono le1⟩
    | i + 1, hx => simp at hx
  obtain ⟨_, k1, rb, rfl, hsm⟩ := fewS_spec on1 hsl
  have hlenH := fun B => hh.len (P := Try.prog) Try.underlying23 B
  simp only [RT, Nat.reduceLT, Nat.reduceBEq, Nat.reduceEqDiff, Nat.reduceAdd, Int.reduceEq, Int.reduceLT, Int.reduceLE, Int.reduceGT, Int.reduceGE, bslL (slc_form hl), ← hb0, ← e1]
  refine run_call1 k1 ?_
  cases rb with
  | false => simp only [RT, Nat.reduceLT, Nat.reduceBEq, Nat.reduceEqDiff, Nat.reduceAdd, Int.reduceEq, Int.reduceLT, Int.reduceLE, Int.reduceGT, Int.reduceGE]
  | true =>
  obtain ⟨_, hsm⟩ := hsm rfl
  obtain ⟨hn12, hx1000⟩ := hsm ls (by simp)
  have hx : ∀ x ∈ ls, x.length ≤ 1000000 := fun x q => by have := hx1000 x q; omega
  simp only [RT, Nat.reduceLT, Nat.reduceBEq, Nat.reduceEqDiff, Nat.reduceAdd, Int.reduceEq, Int.reduceLT, Int.reduceLE, Int.reduceGT, Int.reduceGE, hlenH]
  by_cases c12 : (hs.length : Int) > 12
  · simp only [RT, Nat.reduceLT, Nat.reduceBEq, Nat.reduceEqDiff, Nat.reduceAdd, Int.reduceEq, Int.reduceLT, Int.reduceLE, Int.reduceGT, Int.reduceGE, decide_eq_true c12]
  simp only [RT, Nat.reduceLT, Nat.reduceBEq, Nat.reduceEqDiff, Nat.reduceAdd, Int.reduceEq, Int.reduceLT, Int.reduceLE, Int.reduceGT, Int.reduceGE, decide_eq_false c12, mkmI]
  have wA1 := f1.wf hw
  have hm1 := hm.fr0 f1
  obtain ⟨A2, e2⟩ : ∃ B, B = A1.pushMap ⟨[], 0⟩ := ⟨_, rfl⟩
  have f2 : Fr S0 A1 A2 := by rw [e2]; exact Fr.pushMap A1 _
  obtain ⟨r, hr⟩ : ∃ r, r = A1.maps.length := ⟨_, rfl⟩
  have hM2 : MapIs A2 r (fun n : Int => V.int .i64 n) V.bool [] := by rw [e2, hr]; exact MapIs.new A1
  obtain ⟨A3, t1, f3, r3, n3⟩ := new_set (P := Try.prog) A2 (z := [.mnil]) (t := 27) (x := .map r) (cs := [.map r]) rfl sz27 rfl rfl
  obtain ⟨b5, hb5⟩ : ∃ b, b = A2.blk.length := ⟨_, rfl⟩
  rw [← hb5] at t1 r3
  have f13 := (f1.then0 f2).then0 f3
  obtain ⟨_, A4, k4, rfl, f4, q1, q2⟩ := false_spec (A := A3) (v := v) (u := u) hl.one hh.one
  have f14 := f13.then0 f4
  have hM4 : MapIs A4 r (fun n : Int => V.int .i64 n) V.bool [] := (hM2.fr f3 (fun q => q)).fr f4 (fun q => q)
  have l5 : b5 < A4.blk.length := row_lt (f4.row0 r3)
  obtain ⟨xs, hxs⟩ : ∃ x, x = badH ls hs := ⟨_, rfl⟩
  have hnd := badH_nodup ls hs
  rw [← hxs] at hnd
  simp only [RT, Nat.reduceLT, Nat.reduceBEq, Nat.reduceEqDiff, Nat.reduceAdd, Int.reduceEq, Int.reduceLT, Int.reduceLE, Int.reduceGT, Int.reduceGE, zcMp, ← e2, ← hr, ← hb5, t1]
  refine run_call1 k4 ?_
  simp only [RT, Nat.reduceLT, Nat.reduceBEq, Nat.reduceEqDiff, Nat.reduceAdd, Int.reduceEq, Int.reduceLT, Int.reduceLE, Int.reduceGT, Int.reduceGE]
  refine run_goes_k (S := (· = .map r)) (AR := argN) (xs := xs) (fun i B => B.blk[b5]? = some ⟨[.map r], .var⟩ ∧ MapIs B r (fun n : Int => V.int .i64 n) V.bool ((xs.take i).map fun j : Nat => ((j : Int), true))) (fun B => B.blk[b5]? = some ⟨[.map r], .var⟩ ∧ MapIs B r (fun n : Int => V.int .i64 n) V.bool (xs.map fun j : Nat => ((j : Int), true)))
    rfl (fun q => by cases q) ?_ ⟨f4.row0 r3, hM4⟩ ?_ ?_ Try.func3 Try.ntmps3 (by simp) ?_ ?_ ?_
  · intro A0 hf0
    rw [hxs]
    refine false1_goes ((f14.then0 hf0).wf hw) ((hm.fr0 f14).fr0 hf0) ?_ (hf0.row0 q1) (hf0.row0 q2) hl hh (by omega) hx (by omega)
    rintro b (q | q) <;> cases q
  · rintro i B C ⟨q, w⟩ hf
    exact ⟨hf.row _ _ q (fun y => by cases y), w.fr hf (fun y => by cases y)⟩
  · rintro B C ⟨q, w⟩ hf
    exact ⟨hf.row _ _ q (fun y => by cases y), w.fr hf (fun y => by cases y)⟩
  · rintro i x B args hi ⟨c1, c2⟩ hfB rfl
    refine ⟨_, rfl, ?_⟩
    simp only [RT, Nat.reduceLT, Nat.reduceBEq, Nat.reduceEqDiff, Nat.reduceAdd, Int.reduceEq, Int.reduceLT, Int.reduceLE, Int.reduceGT, Int.reduceGE]
    refine ⟨rfl, .refl _ _, fun B1 hB1 => ?_⟩
    have c1 := hB1.row _ _ c1 (fun y => by cases y)
    have c2 := c2.fr hB1 (fun y => by cases y)
    have hnone : lookL ((xs.take i).map fun j : Nat => ((j : Int), true)) (x : Int) = none := by
      rw [look_map, if_neg]
      intro hmem
      obtain ⟨j, hj⟩ := List.getElem?_of_mem hmem
      have hji : j < i := by have := (List.getElem?_eq_some_iff.1 hj).1; rw [List.length_take] at this; omega
      rw [List.getElem?_take_of_lt hji] at hj
      have h1 := List.getElem?_eq_some_iff.1 hj
      have h2 := List.getElem?_eq_some_iff.1 hi
      exact List.pairwise_iff_getElem.1 hnd j i h1.1 h2.1 hji (by rw [h1.2, h2.2])
    obtain ⟨C, u1, u2, u3⟩ := c2.put (P := Try.prog) kInt mtI true hnone
    simp only [RT, Nat.reduceLT, Nat.reduceBEq, Nat.reduceEqDiff, Nat.reduceAdd, Int.reduceEq, Int.reduceLT, Int.reduceLE, Int.reduceGT, Int.reduceGE, load_one ag27 c1, u1]
    refine ⟨u2, .inl ⟨rfl, u2.row _ _ c1 (fun y => by cases y), ?_⟩⟩
    have e : ((xs.take (i + 1)).map fun j : Nat => ((j : Int), true)) = ((xs.take i).map fun j : Nat => ((j : Int), true)) ++ [((x : Int), true)] := by rw [take_snoc hi]; simp
    rw [e]; exact u3
  · rintro B ⟨q, w⟩
    rw [List.take_length] at w
    exact ⟨q, w⟩
  rintro B ⟨hb5B, hMB⟩ hfB
  have hmB : m.on B := (hm.fr0 f14).fr hfB (fun b q => by cases q)
  have wB : WF B := hfB.wf (f14.wf hw)
  simp only [RT, Nat.reduceLT, Nat.reduceBEq, Nat.reduceEqDiff, Nat.reduceAdd, Int.reduceEq, Int.reduceLT, Int.reduceLE, Int.reduceGT, Int.reduceGE, hlenH]
  refine run_loop_j (fun z e C => ∃ i : Nat, z = hs.length - i ∧ i ≤ hs.length ∧ e.get 31 = .int .i64 i ∧ e.get 0 = v ∧ e.get 29 = u ∧ e.get 30 = .int .i64 hs.length ∧ e.get 5 = .ptr b5 0 ∧ Fr S0 B C)
    (fun z e C => Is z (.exit 2) ∧ e.get 0 = v ∧ Fr S0 B C)
    ⟨_, 0, rfl, by omega, rfl, rfl, rfl, rfl, by rw [hb5]; rfl, .refl _ _⟩ ?_ ?_
  · rintro z e C ⟨i, rfl, hi, h31, h0, h29, h30, h5, hf⟩
    simp only [RT, Nat.reduceLT, Nat.reduceBEq, Nat.reduceEqDiff, Nat.reduceAdd, Int.reduceEq, Int.reduceLT, Int.reduceLE, Int.reduceGT, Int.reduceGE, h30, h31]
    refine condK_of (fun q1 => ?_) (fun q1 => ?_)
    rotate_left
    · simp only [RT, Nat.reduceLT, Nat.reduceBEq, Nat.reduceEqDiff, Nat.reduceAdd, Int.reduceEq, Int.reduceLT, Int.reduceLE, Int.reduceGT, Int.reduceGE]
      exact ⟨rfl, h0, hf⟩
    obtain ⟨x, hx'⟩ := get_lt (l := hs) (i := i) (by omega)
    obtain ⟨b, o, c, g3, g4, g5⟩ := hh.at (P := Try.prog) (k := .i64) (hmB.fr0 hf) Try.underlying23 sz34 ag34 hx'
    obtain ⟨rfl, hx32⟩ := eHd_W g5
    obtain ⟨D, s1, s2, s3⟩ := newHd (A := C) hx32
    obtain ⟨b8, hb8⟩ : ∃ b, b = C.blk.length := ⟨_, rfl⟩
    rw [← hb8] at s1 s3
    have hfD := hf.then0 s2
    have fa := faHd b8
    have ld := ldHd s3 hx32
    have hwi : IntKind.i64.wrap ((i : Int) + 1) = ((i + 1 : Nat) : Int) := by rw [wrapS (by omega)]
    obtain ⟨_, E, k5, f5, rfl⟩ := right_spec (A := D) (hfD.wf wB) (hmB.fr0 hfD) hl hx32 (by omega) hx x.1 (size := x.2.1)
    have hMD := hMB.fr hfD (fun q => q)
    have hME := hMD.fr f5 (fun q => q)
    have hlk : ∀ {C : AS}, MapIs C r (fun n : Int => V.int .i64 n) V.bool (xs.map fun j : Nat => ((j : Int), true)) → evLookup Try.prog 27 (.map r) (.int .i64 (i : Int)) false C = some (.bool (!decide (rightD ls x))) := fun {C} h => by
      rw [h.look (P := Try.prog) kInt mtI zBo (i : Int) false, look_map]
      by_cases q : rightD ls x
      · have : ¬ i ∈ xs := by rw [hxs, badH_mem hx']; exact fun w => w q
        rw [if_neg this, decide_eq_true q]; rfl
      · have : i ∈ xs := by rw [hxs, badH_mem hx']; exact q
        rw [if_pos this, decide_eq_false q]; rfl
    have lm : ∀ {C : AS}, Fr S0 B C → evLoad Try.prog 27 (.ptr b5 0) C = some (.map r) := fun q => load_one ag27 (q.row0 hb5B)
    have eqb : ∀ p q : Bool, evEq Try.prog 4 (.bool p) (.bool q) = some (p == q) := fun p q => by rw [eq_bool Try.underlying4]; cases p <;> cases q <;> rfl
    simp only [RT, Nat.reduceLT, Nat.reduceBEq, Nat.reduceEqDiff, Nat.reduceAdd, Int.reduceEq, Int.reduceLT, Int.reduceLE, Int.reduceGT, Int.reduceGE, h29, h31, g3, g4, zcHd, ← hb8, s1, pl_3_12, h5, lm hfD, hlk hMD, h0, fa, ld, rc_nil]
    refine run_call1 k5 ?_
    simp only [RT, Nat.reduceLT, Nat.reduceBEq, Nat.reduceEqDiff, Nat.reduceAdd, Int.reduceEq, Int.reduceLT, Int.reduceLE, Int.reduceGT, Int.reduceGE, rc_nil]
    refine ⟨rc_load (ha := h5) rfl (lm (hfD.then0 f5)) rfl (rc_look (ha := rfl) rfl rfl (hlk hME) rfl rc_nil), ?_⟩
    have hrr : ((!decide (rightD ls x)) == decide (rightD ls (x.1, x.2.1, x.2.2))) = false := by
      show ((!decide (rightD ls x)) == decide (rightD ls x)) = false
      cases decide (rightD ls x) <;> rfl
    simp only [RT, Nat.reduceLT, Nat.reduceBEq, Nat.reduceEqDiff, Nat.reduceAdd, Int.reduceEq, Int.reduceLT, Int.reduceLE, Int.reduceGT, Int.reduceGE, rc_nil, bi_beq, eqb, hrr, h31, hwi]
    refine ⟨hs.length - (i + 1), by omega, i + 1, rfl, by omega, ?_⟩
    have z1 := hfD.then0 f5
    and_intros <;> first | rfl | assumption
  rintro z e C hz ⟨rfl, h0, hf⟩
  obtain ⟨w0, D, k6, f6, fo, hL, _⟩ := entries_spec (hf.wf wB) (hmB.fr0 hf) hl (by omega) (fun x q => by have := hx x q; omega)
  have hLl := fun B => hL.len (P := Try.prog) Try.underlying36 B
  simp only [RT, Nat.reduceLT, Nat.reduceBEq, Nat.reduceEqDiff, Nat.reduceAdd, Int.reduceEq, Int.reduceLT, Int.reduceLE, Int.reduceGT, Int.reduceGE, h0]
  refine run_call1 k6 ?_
  simp only [RT, Nat.reduceLT, Nat.reduceBEq, Nat.reduceEqDiff, Nat.reduceAdd, Int.reduceEq, Int.reduceLT, Int.reduceLE, Int.reduceGT, Int.reduceGE, hLl, List.length_map]
  refine run_loop_j (fun z e E => ∃ i : Nat, z = ls.length - i ∧ i ≤ ls.length ∧ e.get 51 = .int .i64 i ∧ e.get 0 = v ∧ e.get 9 = w0 ∧ e.get 50 = .int .i64 ls.length ∧ Fr S0 D E)
    (fun z e E => Is z (.exit 4))
    ⟨_, 0, rfl, by omega, rfl, h0, rfl, rfl, .refl _ _⟩ ?_ ?_
  · rintro z e E ⟨i, rfl, hi, h51, h0, h9, h50, hE⟩
    simp only [RT, Nat.reduceLT, Nat.reduceBEq, Nat.reduceEqDiff, Nat.reduceAdd, Int.reduceEq, Int.reduceLT, Int.reduceLE, Int.reduceGT, Int.reduceGE, h50, h51]
    refine condK_of (fun q1 => ?_) (fun q1 => ?_)
    rotate_left
    · simp only [RT, Nat.reduceLT, Nat.reduceBEq, Nat.reduceEqDiff, Nat.reduceAdd, Int.reduceEq, Int.reduceLT, Int.reduceLE, Int.reduceGT, Int.reduceGE]
      rfl
    have hwi : IntKind.i64.wrap ((i : Int) + 1) = ((i + 1 : Nat) : Int) := by rw [wrapS (by omega)]
    have hfE := (hf.then0 f6).then0 hE
    have wE := hfE.wf wB
    obtain ⟨wt, t1, t2⟩ := (hL.fr0 hE).toN (P := Try.prog) (t := 36) Try.underlying36 sz32 (hi := i) (by rw [List.length_map]; omega) (kh := .i64) E
    have t2 := t2.slcArr (fun _ _ q => by cases q)
    obtain ⟨_, F, k7, f7, rfl⟩ := treeRoot_spec wE (arrHp_on E) t2 (by rw [List.length_take, List.length_map]; omega)
    have hr32 : (rootR ((ls.map leafH).take i)).length = 32 := rootR_len fun y hy => by
      obtain ⟨b, _, rfl⟩ := List.mem_map.1 (List.mem_of_mem_take hy)
      exact leafH_len b
    obtain ⟨_, G, k8, f8, rfl⟩ := wrong_spec (h := (0, (i : Int), rootR ((ls.map leafH).take i))) (f7.wf wE) (hmB.fr0 (hfE.then0 f7)) hl hr32 (by omega) hx ⟨by show (0 : Int) ≤ i; omega, by show (i : Int) ≤ _; omega, rfl⟩
    simp only [RT, Nat.reduceLT, Nat.reduceBEq, Nat.reduceEqDiff, Nat.reduceAdd, Int.reduceEq, Int.reduceLT, Int.reduceLE, Int.reduceGT, Int.reduceGE, h51, h0, h9, t1]
    refine run_call1 k7 ?_
    simp only [RT, Nat.reduceLT, Nat.reduceBEq, Nat.reduceEqDiff, Nat.reduceAdd, Int.reduceEq, Int.reduceLT, Int.reduceLE, Int.reduceGT, Int.reduceGE, bldHd' hr32]
    refine run_call1 k8 ?_
    simp only [RT, Nat.reduceLT, Nat.reduceBEq, Nat.reduceEqDiff, Nat.reduceAdd, Int.reduceEq, Int.reduceLT, Int.reduceLE, Int.reduceGT, Int.reduceGE, h51, hwi]
    refine ⟨ls.length - (i + 1), by omega, i + 1, rfl, by omega, ?_⟩
    have z1 := (hE.then0 f7).then0 f8
    and_intros <;> first | rfl | assumption
  · rintro z e E hz rfl
    simp only [RT, Nat.reduceLT, Nat.reduceBEq, Nat.reduceEqDiff, Nat.reduceAdd, Int.reduceEq, Int.reduceLT, Int.reduceLE, Int.reduceGT, Int.reduceGE]
end
end Go.Sv.Try
