/- BookOnce: two books, and what was there before. -/
import Derived.Test.YtjhnciflgaijjaaBkC
namespace Go.Sv.Try
open Go Go.Proofs
set_option linter.unusedVariables false
set_option linter.unusedSimpArgs false
theorem look_none_map : ∀ {L : List Bts} {k : Int × Int} (n : Nat), lookL ((L.zipIdx n).map fun p => (nmOf p.1, p.2)) k = none → ∀ x ∈ L, nmOf x ≠ k
  | [], k, n, h => fun x q => by cases q
  | y :: L, k, n, h => by
    have h : lookL ((nmOf y, n) :: (L.zipIdx (n + 1)).map fun p => (nmOf p.1, p.2)) k = none := h
    unfold lookL at h
    by_cases q : k = nmOf y
    · rw [if_pos q] at h; cases h
    · rw [if_neg q] at h
      intro x hx
      rcases List.mem_cons.1 hx with rfl | hx
      · exact fun z => q z.symm
      · exact look_none_map (n + 1) h x hx
theorem none_mapOf {L : List Bts} {k : Int × Int} (h : lookL (mapOf L) k = none) : ∀ x ∈ L, nmOf x ≠ k := look_none_map 0 h
def OnceN (L : List Bts) : Prop := (L.map nmOf).Nodup
theorem once_add {L : List Bts} {x : Bts} (h : OnceN L) : OnceN (addE L x) := by
  by_cases q : entC x = 0 ∧ lookL (mapOf L) (nmOf x) = none ∧ L.length < 1000
  · rw [addE_yes q.1 q.2.1 q.2.2]
    unfold OnceN
    rw [List.map_append, List.nodup_append]
    refine ⟨h, by simp, fun a ha b hb => ?_⟩
    obtain ⟨y, hy, rfl⟩ := List.mem_map.1 ha
    have hb : b = nmOf x := by simpa using hb
    subst hb
    exact none_mapOf q.2.1 y hy
  · rw [addE_no q]; exact h
theorem once_fold : ∀ {l L : List Bts}, OnceN L → OnceN (l.foldl addE L)
  | [], L, h => h
  | x :: l, L, h => once_fold (l := l) (once_add h)
theorem pre_add (L : List Bts) (x : Bts) : ∃ t, addE L x = L ++ t := by
  by_cases q : entC x = 0 ∧ lookL (mapOf L) (nmOf x) = none ∧ L.length < 1000
  · exact ⟨[x], addE_yes q.1 q.2.1 q.2.2⟩
  · exact ⟨[], by rw [addE_no q, List.append_nil]⟩
theorem pre_fold : ∀ (l L : List Bts), ∃ t, l.foldl addE L = L ++ t
  | [], L => ⟨[], by simp⟩
  | x :: l, L => by
    obtain ⟨t, h⟩ := pre_add L x
    obtain ⟨t', h'⟩ := pre_fold l (addE L x)
    exact ⟨t ++ t', by rw [List.foldl_cons, h', h, List.append_assoc]⟩
theorem once_apply {L : List Bts} (h : OnceN L) (b : Bts) : OnceN (applyB L b) := once_fold h
theorem pre_apply (L : List Bts) (b : Bts) : ∃ t, applyB L b = L ++ t := pre_fold _ L
noncomputable def hdOf (Hs : List HdP) (L : List Bts) : HdP := (((Hs.length + 1 : Nat) : Int), (L.length : Int), rootR (L.map leafH))
def bkF (fl ft fh : Option Nat) : Nat → Prop := fun f => fl = some f ∨ ft = some f ∨ fh = some f
def bkZ (fl ft fh fo : Option Nat) : Nat → Prop := fun f => bkF fl ft fh f ∨ fo = some f
structure TwoB (A B : AS) (p q : Nat × Nat × Nat) (L1 : List Bts) (H1 : List HdP) (L2 : List Bts) (H2 : List HdP) (bw : V) (T : List Bts) (fl ft fh fl' ft' fh' fo : Option Nat) : Prop where
  a : IsBk (bkZ fl' ft' fh' fo) B p.1 p.2.1 p.2.2 L1 H1 fl ft fh
  b : IsBk (bkZ fl ft fh fo) B q.1 q.2.1 q.2.2 L2 H2 fl' ft' fh'
  t : Lst eStr Hp.emp B bw T fo
  fr : Fr S0 A B
  d1 : ∀ f, bkF fl ft fh f → ¬ bkF fl' ft' fh' f
  d2 : ∀ f, bkF fl ft fh f → fo ≠ some f
  d3 : ∀ f, bkF fl' ft' fh' f → fo ≠ some f
  l1 : ∀ f, bkF fl ft fh f → A.blk.length ≤ f
  l2 : ∀ f, bkF fl' ft' fh' f → A.blk.length ≤ f
  l3 : ∀ f, fo = some f → A.blk.length ≤ f
  b1 : A.blk.length ≤ p.1 ∧ A.blk.length ≤ p.2.1 ∧ A.maps.length ≤ p.2.2
  b2 : A.blk.length ≤ q.1 ∧ A.blk.length ≤ q.2.1 ∧ A.maps.length ≤ q.2.2
  ne : p.1 ≠ q.1 ∧ p.1 ≠ q.2.1 ∧ p.2.1 ≠ q.1 ∧ p.2.1 ≠ q.2.1 ∧ p.2.2 ≠ q.2.2
section
variable {A B C : AS} {m : Hp} {Z : Nat → Prop} {bp tp r : Nat} {M : List ((Int × Int) × Nat)} {N L L1 L2 T : List Bts} {Hs H1 H2 : List HdP} {fl ft fh fl' ft' fh' fo : Option Nat} {p q : Nat × Nat × Nat} {bw v : V}
theorem bkS_tch {X : Nat → Prop} (h : BkR Z B bp tp r M N L Hs fl ft fh) (hX : ∀ f, bkF fl ft fh f → X f) : Tch X B (bkS B bp tp r fl ft fh) := by
  obtain ⟨⟨_, x1⟩, _, x2⟩ := h.box
  exact .or (.box x1) (.or (.box x2) (.or (fun b k y => by cases y) (.or (.famO fun f y => hX f (.inl y)) (.or (.famO fun f y => hX f (.inr (.inl y))) (.famO fun f y => hX f (.inr (.inr y)))))))
theorem off_famO {f1 : Option Nat} (h : ∀ f, f1 = some f → fo ≠ some f) : Off fo B (inFamO B f1) := by
  cases f1 with
  | none => exact .s0
  | some g => exact .fam (h g rfl)
theorem bkS_off (h : BkR Z B bp tp r M N L Hs fl ft fh) (hX : ∀ f, bkF fl ft fh f → fo ≠ some f) : Off fo B (bkS B bp tp r fl ft fh) := by
  obtain ⟨⟨_, x1⟩, _, x2⟩ := h.box
  exact .or (.box x1) (.or (.box x2) (.or (fun b y => by cases y) (.or (off_famO fun f y => hX f (.inl y)) (.or (off_famO fun f y => hX f (.inr (.inl y))) (off_famO fun f y => hX f (.inr (.inr y)))))))
theorem bkS_row {b : Nat} {cs : List V} (hb : B.blk[b]? = some ⟨cs, .var⟩) (n1 : b ≠ bp) (n2 : b ≠ tp) : ¬ bkS B bp tp r fl ft fh (.row b) := by
  rintro (y | y | y | y | y | y)
  · cases y; exact n1 rfl
  · cases y; exact n2 rfl
  · cases y
  · exact inFamO_var hb y
  · exact inFamO_var hb y
  · exact inFamO_var hb y
theorem bkS_map {k : Nat} (n : k ≠ r) : ¬ bkS B bp tp r fl ft fh (.map k) := by
  rintro (y | y | y | y | y | y)
  · cases y
  · cases y
  · cases y; exact n rfl
  · cases fl <;> exact y.elim
  · cases ft <;> exact y.elim
  · cases fh <;> exact y.elim
theorem TwoB.fr0 (h : TwoB A B p q L1 H1 L2 H2 bw T fl ft fh fl' ft' fh' fo) (hf : Fr S0 B C) : TwoB A C p q L1 H1 L2 H2 bw T fl ft fh fl' ft' fh' fo :=
  { h with a := h.a.fr0 hf, b := h.b.fr0 hf, t := h.t.fr0 hf, fr := h.fr.then0 hf }
theorem TwoB.swap (h : TwoB A B p q L1 H1 L2 H2 bw T fl ft fh fl' ft' fh' fo) : TwoB A B q p L2 H2 L1 H1 bw T fl' ft' fh' fl ft fh fo :=
  { a := h.b, b := h.a, t := h.t, fr := h.fr, d1 := fun f y z => h.d1 f z y, d2 := h.d3, d3 := h.d2, l1 := h.l2, l2 := h.l1, l3 := h.l3, b1 := h.b2, b2 := h.b1, ne := ⟨h.ne.1.symm, h.ne.2.2.1.symm, h.ne.2.1.symm, h.ne.2.2.2.1.symm, h.ne.2.2.2.2.symm⟩ }
theorem TwoB.app (h : TwoB A B p q L1 H1 L2 H2 bw T fl ft fh fl' ft' fh' fo) (hw : WF A) {b : Bts} (hm : m.on B) (hv : Slc eU8 m v b) (hb : b.length ≤ 1000000000000) (hH : H1.length ≤ 100000) :
    ∃ C fl2 ft2 fh2, EvF Try.prog HH 44 [.ptr p.1 0, v] B (.int .i64 (((applyB L1 b).length : Int) - L1.length)) C ∧ TwoB A C p q (applyB L1 b) (H1 ++ [hdOf H1 (applyB L1 b)]) L2 H2 bw T fl2 ft2 fh2 fl' ft' fh' fo := by
  have hwB := h.fr.wf hw
  obtain ⟨_, _, y3, y4, y5⟩ := h.b.raw.lt
  have y6 := h.t.famLt
  have hlt : ∀ f, bkF fl' ft' fh' f → f < B.blk.length := fun f y => by
    rcases y with y | y | y
    · exact y3 f y
    · exact y4 f y
    · exact y5 f y
  obtain ⟨_, C, k1, rfl, f1, fl2, ft2, fh2, k2, g1, g2, g3⟩ := apply_spec hwB (fun f y => by
    rcases y with y | y
    · exact hlt f y
    · exact y6 f y) h.a hm hv hb hH
  have gg : ∀ f, bkF fl2 ft2 fh2 f → bkF fl ft fh f ∨ B.blk.length ≤ f := fun f y => by
    rcases y with y | y | y
    · exact (g1.or y).imp .inl id
    · exact (g2.or y).imp (fun z => .inr (.inl z)) id
    · exact (g3.or y).imp (fun z => .inr (.inr z)) id
  obtain ⟨⟨_, x1⟩, _, x2⟩ := h.b.raw.box
  have hlA := h.fr.len
  refine ⟨C, fl2, ft2, fh2, k1, { a := k2, b := h.b.oth hwB f1 (bkS_row x1 h.ne.1.symm h.ne.2.2.1.symm) (bkS_row x2 h.ne.2.1.symm h.ne.2.2.2.1.symm) (bkS_map h.ne.2.2.2.2.symm) (bkS_tch h.a.raw fun f y => .inl y) (fun f y z => ?_) (fun f y => ?_), t := h.t.fr f1 (bkS_off h.a.raw h.d2), fr := h.fr.trans f1 fun z y => .inr (bkS_new hw h.fr h.b1.1 h.b1.2.1 h.b1.2.2 (fun f y => h.l1 f (.inl y)) (fun f y => h.l1 f (.inr (.inl y))) (fun f y => h.l1 f (.inr (.inr y))) z y), d1 := fun f y z => ?_, d2 := fun f y z => ?_, d3 := h.d3, l1 := fun f y => ?_, l2 := h.l2, l3 := h.l3, b1 := h.b1, b2 := h.b2, ne := h.ne }⟩
  · rcases z with z | z
    · exact h.d1 f z y
    · exact h.d3 f y z
  · rcases y with y | y
    · exact (gg f y).imp .inl id
    · exact .inl (.inr y)
  · rcases gg f y with w | w
    · exact h.d1 f w z
    · have := hlt f z; omega
  · rcases gg f y with w | w
    · exact h.d2 f w z
    · have := y6 f z; omega
  · rcases gg f y with w | w
    · exact h.l1 f w
    · omega
theorem TwoB.txt (h : TwoB A B p q L1 H1 L2 H2 bw T fl ft fh fl' ft' fh' fo) (hw : WF A) (s : Bts) (hT : T.length ≤ 1000000) :
    ∃ bw' C fo', evAppend Try.prog 43 43 bw (.sl B.blk.length 0 1 1) (B.push ⟨[.str s], .arr B.blk.length 0⟩) = some (bw', C) ∧ TwoB A C p q L1 H1 L2 H2 bw' (T ++ [s]) fl ft fh fl' ft' fh' fo' ∧ Fr (inFamO B fo) B C := by
  have hwB := h.fr.wf hw
  obtain ⟨bw', C, fo', p1, p2, p3, p4⟩ := h.t.push (P := Try.prog) (t := 43) (tx := 43) (n := 1) rfl sl43 Try.underlying43 hwB (y := s) (cs' := [.str s]) rfl (by omega) (by omega)
  obtain ⟨⟨_, x1⟩, _, x2⟩ := h.a.raw.box
  obtain ⟨⟨_, x3⟩, _, x4⟩ := h.b.raw.box
  obtain ⟨_, _, a3, a4, a5⟩ := h.a.raw.lt
  obtain ⟨_, _, c3, c4, c5⟩ := h.b.raw.lt
  have nm : ∀ k, ¬ inFamO B fo (.map k) := fun k y => by cases fo <;> exact y.elim
  have la : ∀ f, bkF fl ft fh f → f < B.blk.length := fun f y => by
    rcases y with y | y | y
    · exact a3 f y
    · exact a4 f y
    · exact a5 f y
  have lb : ∀ f, bkF fl' ft' fh' f → f < B.blk.length := fun f y => by
    rcases y with y | y | y
    · exact c3 f y
    · exact c4 f y
    · exact c5 f y
  have hlA := h.fr.len
  refine ⟨bw', C, fo', p1, { a := h.a.oth hwB p3 (inFamO_var x1) (inFamO_var x2) (nm _) (.famO fun f y => .inr y) (fun f y z => ?_) (fun f y => ?_), b := h.b.oth hwB p3 (inFamO_var x3) (inFamO_var x4) (nm _) (.famO fun f y => .inr y) (fun f y z => ?_) (fun f y => ?_), t := p2, fr := h.fr.newFam hw p3 h.l3, d1 := h.d1, d2 := fun f y z => ?_, d3 := fun f y z => ?_, l1 := h.l1, l2 := h.l2, l3 := fun f y => ?_, b1 := h.b1, b2 := h.b2, ne := h.ne }, p3⟩
  · rcases z with z | z
    · exact h.d1 f y z
    · exact h.d2 f y z
  · rcases y with y | y
    · exact .inl (.inl y)
    · exact (p4.or y).imp .inr id
  · rcases z with z | z
    · exact h.d1 f z y
    · exact h.d3 f y z
  · rcases y with y | y
    · exact .inl (.inl y)
    · exact (p4.or y).imp .inr id
  · rcases p4.or z with w | w
    · exact h.d2 f y w
    · have := la f y; omega
  · rcases p4.or z with w | w
    · exact h.d3 f y w
    · have := lb f y; omega
  · rcases p4.or y with w | w
    · exact h.l3 f w
    · omega
end
end Go.Sv.Try
namespace Go.Sv.Try
open Go Go.Proofs
set_option linter.unusedVariables false
set_option linter.unusedSimpArgs false
theorem shHd : shapeT Try.prog 50 34 = some (.int .i64 :: .int .i64 :: List.replicate 32 (.int .u8)) := by kernel_rfl
theorem eqHd {x y : HdP} (hx : x.2.2.length = 32) (hy : y.2.2.length = 32) : evEq Try.prog 34 (.agg (hdC x)) (.agg (hdC y)) = some (decide (x.1 = y.1) && (decide (x.2.1 = y.2.1) && decide (x.2.2 = y.2.2))) := by
  have hg : Try.prog.eqGuardType Try.prog.depth 34 = false := by kernel_rfl
  unfold evEq
  simp only [shHd, ag34, hg]
  have e1 := fits_bytes x.2.2
  have e2 := fits_bytes y.2.2
  rw [hx] at e1; rw [hy] at e2
  have e3 := eqFlats_bytes x.2.2 y.2.2 (by omega)
  unfold hdC
  simp only [fitsAll, eqFlats, e1, e2, e3, V.eqGround, Bool.and_true, Bool.true_and, Bool.not_false, if_true]
  rfl
theorem eqHd_same {x : HdP} (hx : x.2.2.length = 32) : evEq Try.prog 34 (.agg (hdC x)) (.agg (hdC x)) = some true := by
  rw [eqHd hx hx]; simp
section
variable {A B C : AS} {L1 L2 T : List Bts} {H1 H2 : List HdP} {fl ft fh fl' ft' fh' fo : Option Nat} {p q : Nat × Nat × Nat} {bw : V}
theorem IsBk.mapO {Z : Nat → Prop} {bp tp r k : Nat} {L : List Bts} {Hs : List HdP} (h : IsBk Z B bp tp r L Hs fl ft fh) (hw : WF B) (hf : Fr (· = .map k) B C) (hk : k ≠ r) : IsBk Z C bp tp r L Hs fl ft fh :=
  ⟨h.raw.frO hf (fun y => by cases y) (fun y => by cases y) (fun y => by cases y; exact hk rfl) (fun b y => by cases y) (fun b y => by cases y) (fun b y => by cases y) (qHp_fr hf (fun b k y => by cases y) hw fun f y => .inl y), h.ent, h.len⟩
theorem TwoB.mapU {k : Nat} (h : TwoB A B p q L1 H1 L2 H2 bw T fl ft fh fl' ft' fh' fo) (hw : WF A) (hf : Fr (· = .map k) B C) (h1 : k ≠ p.2.2) (h2 : k ≠ q.2.2) (h3 : A.maps.length ≤ k) : TwoB A C p q L1 H1 L2 H2 bw T fl ft fh fl' ft' fh' fo :=
  { h with a := h.a.mapO (h.fr.wf hw) hf h1, b := h.b.mapO (h.fr.wf hw) hf h2, t := h.t.fr hf (fun b y => by cases y), fr := h.fr.trans hf fun z y => .inr (by subst y; exact h3) }
end
end Go.Sv.Try
namespace Go.Sv.Try
open Go Go.Proofs
set_option linter.unusedVariables false
set_option linter.unusedSimpArgs false
section
variable {A B C : AS} {m : Hp}
theorem mkmK : mkm Try.prog 94 (some none) = some .newMap := by kernel_rfl
theorem mtK : mapT Try.prog 94 = some (96, 4) := by kernel_rfl
theorem kKey : KeyT Try.prog 96 encN := keyPair (by kernel_rfl) ag96
theorem bldKey (a b : Int) : evBuild Try.prog 96 [(0, .int .i64 a), (1, .int .i64 b)] = some (.agg [.int .i64 a, .int .i64 b]) := by kernel_rfl
theorem seen_none {L : List Bts} {k : Nat} {x : Bts} (h : OnceN L) (hx : L[k]? = some x) : lookL ((L.take k).map fun y => (nmOf y, true)) (nmOf x) = none := by
  have key : ∀ l : List Bts, (∀ y ∈ l, nmOf y ≠ nmOf x) → lookL (l.map fun y => (nmOf y, true)) (nmOf x) = none := by
    intro l
    induction l with
    | nil => intro _; rfl
    | cons y l ih =>
      intro h
      show lookL ((nmOf y, true) :: l.map fun y => (nmOf y, true)) (nmOf x) = none
      unfold lookL
      rw [if_neg fun q => h y (by simp) q.symm]
      exact ih fun z hz => h z (by simp [hz])
  refine key _ fun y hy q => ?_
  obtain ⟨j, hj⟩ := List.getElem?_of_mem hy
  have hjk : j < k := by have := (List.getElem?_eq_some_iff.1 hj).1; rw [List.length_take] at this; omega
  rw [List.getElem?_take_of_lt hjk] at hj
  have h1 := List.getElem?_eq_some_iff.1 hj
  have h2 := List.getElem?_eq_some_iff.1 hx
  have := List.pairwise_iff_getElem.1 h j k (by rw [List.length_map]; exact h1.1) (by rw [List.length_map]; exact h2.1) hjk
  rw [List.getElem_map, List.getElem_map, h1.2, h2.2] at this
  exact this q
set_option maxRecDepth 10000 in
set_option maxHeartbeats 32000000 in
theorem bookOnce_spec {v : V} {xs : List Bts} (hw : WF A) (hm : m.on A) (hl : Slc (eSl eU8) m v xs) :
    ∃ w A', EvF Try.prog HH 10 [v] A w A' ∧ w = .bool true := by
  refine run_fn2 rfl Try.func10 (by unfold Try.f10; rfl) Try.ntmps10 (by unfold Try.f10; rfl) (by simp) ?_
  have hlen := fun B => hl.len (P := Try.prog) Try.underlying22 B
  obtain ⟨_, A1, k1, rfl, f1⟩ := bookKeeps_spec hw
  have w1 := f1.wf hw
  simp only [RT, Nat.reduceLT, Nat.reduceBEq, Nat.reduceEqDiff, Nat.reduceAdd, Int.reduceEq, Int.reduceLT, Int.reduceLE, Int.reduceGT, Int.reduceGE]
  refine run_call1 k1 ?_
  by_cases c1 : (xs.length : Int) > 12
  · simp only [RT, Nat.reduceLT, Nat.reduceBEq, Nat.reduceEqDiff, Nat.reduceAdd, Int.reduceEq, Int.reduceLT, Int.reduceLE, Int.reduceGT, Int.reduceGE, un_notd, hlen, decide_eq_true c1]
  obtain ⟨_, A2, k2, f2, bp, tp, r, fta, rfl, hA, hfa, g1, g2, g3⟩ := bookNew_spec (Z := fun _ => False) w1
  have w2 := f2.wf w1
  simp only [RT, Nat.reduceLT, Nat.reduceBEq, Nat.reduceEqDiff, Nat.reduceAdd, Int.reduceEq, Int.reduceLT, Int.reduceLE, Int.reduceGT, Int.reduceGE, un_notd, hlen, decide_eq_false c1]
  refine run_call1 k2 ?_
  obtain ⟨_, A3, k3, f3, bq, tq, s, ftb, rfl, hB, hfb, g4, g5, g6⟩ := bookNew_spec (Z := bkZ none fta none none) w2
  have w3 := f3.wf w2
  simp only [RT, Nat.reduceLT, Nat.reduceBEq, Nat.reduceEqDiff, Nat.reduceAdd, Int.reduceEq, Int.reduceLT, Int.reduceLE, Int.reduceGT, Int.reduceGE]
  refine run_call1 k3 ?_
  have l1 := f1.len
  have l1' := f1.mlen
  have l2 := f2.len
  have l2' := f2.mlen
  obtain ⟨a1, a2, a3, a4, a5⟩ := hA.raw.lt
  have a6 := hA.raw.rl
  have hT : TwoB A A3 (bp, tp, r) (bq, tq, s) [] [] [] [] .snil [] none fta none none ftb none none := {
    a := hA.oth w2 f3 (fun q => q) (fun q => q) (fun q => q) .s0 (fun f q z => z) (fun f q => by
      rcases q with (q | q | q) | q
      · cases q
      · exact .inr (hfb f q)
      · cases q
      · cases q)
    b := hB
    t := .nil
    fr := (f1.then0 f2).then0 f3
    d1 := fun f q z => by
      rcases q with q | q | q
      · cases q
      · rcases z with z | z | z
        · cases z
        · have := a4 f q; have := hfb f z; omega
        · cases z
      · cases q
    d2 := fun f q z => by cases z
    d3 := fun f q z => by cases z
    l1 := fun f q => by
      rcases q with q | q | q
      · cases q
      · have := hfa f q; omega
      · cases q
    l2 := fun f q => by
      rcases q with q | q | q
      · cases q
      · have := hfb f q; omega
      · cases q
    l3 := fun f q => by cases q
    b1 := ⟨by show A.blk.length ≤ bp; omega, by show A.blk.length ≤ tp; omega, by show A.maps.length ≤ r; omega⟩
    b2 := ⟨by show A.blk.length ≤ bq; omega, by show A.blk.length ≤ tq; omega, by show A.maps.length ≤ s; omega⟩
    ne := ⟨by show bp ≠ bq; omega, by show bp ≠ tq; omega, by show tp ≠ bq; omega, by show tp ≠ tq; omega, by show r ≠ s; omega⟩ }
  simp only [RT, Nat.reduceLT, Nat.reduceBEq, Nat.reduceEqDiff, Nat.reduceAdd, Int.reduceEq, Int.reduceLT, Int.reduceLE, Int.reduceGT, Int.reduceGE, pEqB, hlen]
  refine run_loop_j (fun z e B => ∃ (i : Nat) (bw : V) (L : List Bts) (Hs : List HdP) (fl ft fh fl' ft' fh' fo : Option Nat), z = xs.length - i ∧ i ≤ xs.length ∧ Hs.length = i ∧ e.get 33 = .int .i64 i ∧ e.get 3 = .ptr bp 0 ∧ e.get 4 = .ptr bq 0 ∧ e.get 5 = bw ∧ e.get 31 = v ∧ e.get 32 = .int .i64 xs.length ∧ TwoB A B (bp, tp, r) (bq, tq, s) L Hs L Hs bw L fl ft fh fl' ft' fh' fo ∧ OnceN L)
    (fun z e B => (Is z .ret ∧ e.get 2 = .bool true) ∨ Is z (.exit 0))
    ⟨_, 0, .snil, [], [], _, _, _, _, _, _, _, rfl, by omega, rfl, rfl, rfl, rfl, rfl, rfl, rfl, hT, List.nodup_nil⟩ ?_ ?_
  rotate_left
  · rintro z e B hz (⟨rfl, h2⟩ | rfl)
    · simp only [RT, Nat.reduceLT, Nat.reduceBEq, Nat.reduceEqDiff, Nat.reduceAdd, Int.reduceEq, Int.reduceLT, Int.reduceLE, Int.reduceGT, Int.reduceGE, h2]
    · simp only [RT, Nat.reduceLT, Nat.reduceBEq, Nat.reduceEqDiff, Nat.reduceAdd, Int.reduceEq, Int.reduceLT, Int.reduceLE, Int.reduceGT, Int.reduceGE]
  clear hT
  rintro z e B ⟨i, bw, L, Hs, fl, ft, fh, fl', ft', fh', fo, rfl, hi, hHs, h33, h3, h4, h5, h31, h32, hT, hO⟩
  simp only [RT, Nat.reduceLT, Nat.reduceBEq, Nat.reduceEqDiff, Nat.reduceAdd, Int.reduceEq, Int.reduceLT, Int.reduceLE, Int.reduceGT, Int.reduceGE, h32, h33]
  refine condK_of (fun q1 => ?_) (fun q1 => ?_)
  rotate_left
  · simp only [RT, Nat.reduceLT, Nat.reduceBEq, Nat.reduceEqDiff, Nat.reduceAdd, Int.reduceEq, Int.reduceLT, Int.reduceLE, Int.reduceGT, Int.reduceGE]
    exact .inr rfl
  obtain ⟨x, hx⟩ := get_lt (l := xs) (i := i) (by omega)
  have hmB := hm.fr0 hT.fr
  obtain ⟨b, o, c, y3, y4, y5⟩ := hl.at (P := Try.prog) (k := .i64) hmB Try.underlying22 sz44 ag44 hx
  rw [eSl_W] at y5
  have hcl := fun B => y5.len (P := Try.prog) Try.underlying44 B
  by_cases d1 : (x.length : Int) > 4000
  · simp only [RT, Nat.reduceLT, Nat.reduceBEq, Nat.reduceEqDiff, Nat.reduceAdd, Int.reduceEq, Int.reduceLT, Int.reduceLE, Int.reduceGT, Int.reduceGE, h31, h33, y3, y4, hcl, decide_eq_true d1]
    exact .inl rfl
  obtain ⟨C, fl2, ft2, fh2, p1, hT1⟩ := hT.app hw hmB y5 (by omega) (by omega)
  obtain ⟨D, fl3, ft3, fh3, p2, hT2⟩ := hT1.swap.app hw (hm.fr0 hT1.fr) y5 (by omega) (by omega)
  have hT2 := hT2.swap
  simp only [RT, Nat.reduceLT, Nat.reduceBEq, Nat.reduceEqDiff, Nat.reduceAdd, Int.reduceEq, Int.reduceLT, Int.reduceLE, Int.reduceGT, Int.reduceGE, h31, h33, y3, y4, hcl, decide_eq_false d1, h3]
  refine run_call1 p1 ?_
  simp only [RT, Nat.reduceLT, Nat.reduceBEq, Nat.reduceEqDiff, Nat.reduceAdd, Int.reduceEq, Int.reduceLT, Int.reduceLE, Int.reduceGT, Int.reduceGE, h4]
  refine run_call1 p2 ?_
  obtain ⟨L', hL'⟩ : ∃ l, l = applyB L x := ⟨_, rfl⟩
  have hO' := once_apply hO x
  obtain ⟨tl, htl⟩ := pre_apply L x
  rw [← hL'] at hT2 hO' htl
  obtain ⟨E, e4⟩ : ∃ X, X = D.pushMap ⟨[], 0⟩ := ⟨_, rfl⟩
  have f4 : Fr S0 D E := by rw [e4]; exact Fr.pushMap D _
  obtain ⟨rs, hrs⟩ : ∃ r, r = D.maps.length := ⟨_, rfl⟩
  have hM : MapIs E rs encN V.bool [] := by rw [e4, hrs]; exact MapIs.new D
  have hT3 := hT2.fr0 f4
  have b6 : r < D.maps.length := hT2.a.raw.rl
  have b7 : s < D.maps.length := hT2.b.raw.rl
  have hrA : A.maps.length ≤ rs := by have := hT2.fr.mlen; omega
  have hlL' := hT2.a.len
  have hwE := hT3.fr.wf hw
  have hHs2 : (Hs ++ [hdOf Hs L']).length = i + 1 := by rw [List.length_append, hHs]; rfl
  have hwi : IntKind.i64.wrap ((i : Int) + 1) = ((i + 1 : Nat) : Int) := by rw [wrapS (by omega)]
  have hT0 : TwoB A E (bp, tp, r) (bq, tq, s) L' (Hs ++ [hdOf Hs L']) L' (Hs ++ [hdOf Hs L']) bw (L'.take (max 0 L.length)) fl2 ft2 fh2 fl3 ft3 fh3 fo := by
    have : L'.take (max 0 L.length) = L := by rw [Nat.zero_max, htl, List.take_left]
    rw [this]; exact hT3
  simp only [RT, Nat.reduceLT, Nat.reduceBEq, Nat.reduceEqDiff, Nat.reduceAdd, Int.reduceEq, Int.reduceLT, Int.reduceLE, Int.reduceGT, Int.reduceGE, mkmK, ← e4, ← hrs]
  refine run_loop_j (fun z e B => ∃ (k : Nat) (bw : V) (fo : Option Nat), z = L'.length - k ∧ k ≤ L'.length ∧ e.get 9 = .int .i64 k ∧ e.get 3 = .ptr bp 0 ∧ e.get 4 = .ptr bq 0 ∧ e.get 5 = bw ∧ e.get 8 = .map rs ∧ e.get 31 = v ∧ e.get 32 = .int .i64 xs.length ∧ e.get 33 = .int .i64 i ∧ TwoB A B (bp, tp, r) (bq, tq, s) L' (Hs ++ [hdOf Hs L']) L' (Hs ++ [hdOf Hs L']) bw (L'.take (max k L.length)) fl2 ft2 fh2 fl3 ft3 fh3 fo ∧ MapIs B rs encN V.bool ((L'.take k).map fun y => (nmOf y, true)))
    (fun z e B => Is z (.exit 2) ∧ ∃ (bw : V) (fo : Option Nat), e.get 3 = .ptr bp 0 ∧ e.get 4 = .ptr bq 0 ∧ e.get 5 = bw ∧ e.get 31 = v ∧ e.get 32 = .int .i64 xs.length ∧ e.get 33 = .int .i64 i ∧ TwoB A B (bp, tp, r) (bq, tq, s) L' (Hs ++ [hdOf Hs L']) L' (Hs ++ [hdOf Hs L']) bw L' fl2 ft2 fh2 fl3 ft3 fh3 fo)
    ⟨_, 0, bw, fo, rfl, by omega, rfl, h3, h4, h5, rfl, h31, h32, h33, hT0, hM⟩ ?_ ?_
  · clear h3 h4 h5 h31 h32 h33
    rintro z e B ⟨k, bw, fo, rfl, hk, h9, h3, h4, h5, h8, h31, h32, h33, hT, hM⟩
    have hwB := hT.fr.wf hw
    have ks := bookSize_spec hT.a.raw
    have hTl : (L'.take (max k L.length)).length = max k L.length := by rw [List.length_take, htl, List.length_append]; have : k ≤ L'.length := hk; rw [htl, List.length_append] at this; omega
    simp only [RT, Nat.reduceLT, Nat.reduceBEq, Nat.reduceEqDiff, Nat.reduceAdd, Int.reduceEq, Int.reduceLT, Int.reduceLE, Int.reduceGT, Int.reduceGE, h9, h3]
    refine run_call1 ks ?_
    simp only [RT, Nat.reduceLT, Nat.reduceBEq, Nat.reduceEqDiff, Nat.reduceAdd, Int.reduceEq, Int.reduceLT, Int.reduceLE, Int.reduceGT, Int.reduceGE]
    refine condK_of (fun q1 => ?_) (fun q1 => ?_)
    rotate_left
    · have : k = L'.length := by omega
      subst this
      have e1 : L'.take (max L'.length L.length) = L' := List.take_of_length_le (by omega)
      rw [e1] at hT
      simp only [RT, Nat.reduceLT, Nat.reduceBEq, Nat.reduceEqDiff, Nat.reduceAdd, Int.reduceEq, Int.reduceLT, Int.reduceLE, Int.reduceGT, Int.reduceGE]
      exact ⟨rfl, bw, fo, h3, h4, h5, h31, h32, h33, hT⟩
    obtain ⟨_, C1, p1, j1, hat⟩ := bookAt_spec hwB hT.a.raw (fun x hx => by have := ent_len (hT.a.ent x hx); omega) (k : Int)
    rcases hat with ⟨q, _⟩ | ⟨n, y, c, hn, hy, rfl, hc⟩
    · omega
    have hn : k = n := by omega
    subst hn
    have hyE := hT.a.ent y (List.mem_of_getElem? hy)
    have hyl := ent_len hyE
    obtain ⟨_, C2, p2, j2, X, dv, iv, lv, rfl, z1, z2⟩ := bookCheck_spec (j1.wf hwB) (arrHq_on _ _) hc (by omega)
    have hX := z2 hyE
    have hnm : (X.who, X.num) = nmOf y := by rw [hX]; rfl
    obtain ⟨C3, t1, t2, t3⟩ := new_msg (A := C2) z1
    obtain ⟨b12, hb12⟩ : ∃ b, b = C2.blk.length := ⟨_, rfl⟩
    rw [← hb12] at t1 t3
    have j13 := (j1.then0 j2).then0 t2
    have hT3 := hT.fr0 j13
    have hM3 := hM.fr j13 fun q => q
    have hmc := ((arrHq_on B.blk.length C1).fr0 j2).fr0 t2
    have hcv := cnv_text (P := Try.prog) (A := C3) (s := 44) (d := 9) (by decide) hc hmc Try.underlying44 Try.underlying5 Try.underlying9
    have fam := faM b12
    have ldm := ldM t3 z1.id
    have hlk := hM3.look (P := Try.prog) kKey mtK zBo (nmOf y) false
    rw [seen_none hO' hy] at hlk
    simp only [Bool.false_eq_true, if_false] at hlk
    rw [← hnm] at hlk
    simp only [RT, Nat.reduceLT, Nat.reduceBEq, Nat.reduceEqDiff, Nat.reduceAdd, Int.reduceEq, Int.reduceLT, Int.reduceLE, Int.reduceGT, Int.reduceGE, h3, h9]
    refine run_call1 p1 ?_
    simp only [RT, Nat.reduceLT, Nat.reduceBEq, Nat.reduceEqDiff, Nat.reduceAdd, Int.reduceEq, Int.reduceLT, Int.reduceLE, Int.reduceGT, Int.reduceGE]
    rw [hyE] at p2
    refine run_call1 p2 ?_
    obtain ⟨D1, m1, m2, m3⟩ := hM3.put (P := Try.prog) kKey mtK (k := nmOf y) true (seen_none hO' hy)
    have eM : ((L'.take (k + 1)).map fun y => (nmOf y, true)) = ((L'.take k).map fun y => (nmOf y, true)) ++ [(nmOf y, true)] := by rw [take_snoc hy]; simp
    rw [← eM] at m3
    rw [← hnm] at m1
    have hT4 := hT3.mapU hw m2 (by show rs ≠ r; omega) (by show rs ≠ s; omega) hrA
    have hwk : IntKind.i64.wrap ((k : Int) + 1) = ((k + 1 : Nat) : Int) := by rw [wrapS (by omega)]
    have hlenT := fun X => hT3.t.len (P := Try.prog) (t := 43) Try.underlying43 X
    rw [hTl] at hlenT
    have hkl : k < L'.length := by omega
    simp only [RT, Nat.reduceLT, Nat.reduceBEq, Nat.reduceEqDiff, Nat.reduceAdd, Int.reduceEq, Int.reduceLT, Int.reduceLE, Int.reduceGT, Int.reduceGE, zcM, ← hb12, t1]
    rw [pl_10_22, run_plan_id (by rfl)]
    by_cases c5 : k < L.length
    · have eT : max k L.length = L.length := by omega
      have eT2 : max (k + 1) L.length = L.length := by omega
      have hyT : (L'.take (max k L.length))[k]? = some y := by rw [eT, List.getElem?_take_of_lt c5]; exact hy
      obtain ⟨bb, oo, cc, g3, g4, g5⟩ := hT3.t.at (P := Try.prog) (k := .i64) (Hp.on_emp C3) Try.underlying43 sz9 ag9 hyT
      rw [eStr_W.1 g5] at g4
      rw [eT] at hlenT hT4
      simp only [RT, Nat.reduceLT, Nat.reduceBEq, Nat.reduceEqDiff, Nat.reduceAdd, Int.reduceEq, Int.reduceLT, Int.reduceLE, Int.reduceGT, Int.reduceGE, h8, fam, ldm, bldKey, hlk, h9, h5, hlenT, decide_eq_true (show (k : Int) < (L.length : Int) by omega), hcv, g3, g4]
      simp only [RT, Nat.reduceLT, Nat.reduceBEq, Nat.reduceEqDiff, Nat.reduceAdd, Int.reduceEq, Int.reduceLT, Int.reduceLE, Int.reduceGT, Int.reduceGE, h8, fam, ldm, bldKey, m1, h9, h5, hlenT, decide_eq_false (show ¬ (k : Int) ≥ (L.length : Int) by omega), hwk]
      rw [← eT2] at hT4
      refine ⟨L'.length - (k + 1), by omega, k + 1, bw, fo, rfl, by omega, ?_⟩
      and_intros <;> first | rfl | assumption
    · have eT : max k L.length = k := by omega
      rw [eT] at hlenT hT4
      obtain ⟨bw', D2, fo', v1, v2, v3⟩ := hT4.txt hw y (by rw [List.length_take]; omega)
      rw [← take_snoc hy] at v2
      simp only [RT, Nat.reduceLT, Nat.reduceBEq, Nat.reduceEqDiff, Nat.reduceAdd, Int.reduceEq, Int.reduceLT, Int.reduceLE, Int.reduceGT, Int.reduceGE, h8, fam, ldm, bldKey, hlk, h9, h5, hlenT, decide_eq_false (show ¬ (k : Int) < (k : Int) by omega)]
      have hcv1 := cnv_text (P := Try.prog) (A := D1) (s := 44) (d := 9) (by decide) hc (hmc.fr m2 fun b y => by cases y) Try.underlying44 Try.underlying5 Try.underlying9
      simp only [RT, Nat.reduceLT, Nat.reduceBEq, Nat.reduceEqDiff, Nat.reduceAdd, Int.reduceEq, Int.reduceLT, Int.reduceLE, Int.reduceGT, Int.reduceGE, h8, fam, ldm, bldKey, m1, h9, h5, hlenT, decide_eq_true (show (k : Int) ≥ (k : Int) by omega), hcv1, bslSt, v1, hwk]
      have eT2 : max (k + 1) L.length = k + 1 := by omega
      rw [← eT2] at v2
      have m4 := m3.fr v3 (fun y => by cases fo <;> exact y.elim)
      refine ⟨L'.length - (k + 1), by omega, k + 1, bw', fo', rfl, by omega, ?_⟩
      and_intros <;> first | rfl | assumption
  · rintro z e B hz ⟨rfl, bw, fo, h3, h4, h5, h31, h32, h33, hT⟩
    have hwB := hT.fr.wf hw
    have kh1 := bookHeight_spec hT.a.raw
    obtain ⟨_, C1, kh2, j1, y1⟩ := bookHead_spec hwB hT.a.raw (by omega) ((Hs ++ [hdOf Hs L']).length : Int)
    have hat : headAt (Hs ++ [hdOf Hs L']) ((Hs ++ [hdOf Hs L']).length : Int) = some (hdOf Hs L') := by
      rw [hHs2]
      unfold headAt
      rw [if_neg (by omega), show (((i + 1 : Nat) : Int) - 1).toNat = i by omega, ← hHs]
      simp
    rw [hat] at y1
    obtain ⟨rfl, h32'⟩ := y1
    simp only [RT, Nat.reduceLT, Nat.reduceBEq, Nat.reduceEqDiff, Nat.reduceAdd, Int.reduceEq, Int.reduceLT, Int.reduceLE, Int.reduceGT, Int.reduceGE, h3]
    refine run_call1 kh1 ?_
    simp only [RT, Nat.reduceLT, Nat.reduceBEq, Nat.reduceEqDiff, Nat.reduceAdd, Int.reduceEq, Int.reduceLT, Int.reduceLE, Int.reduceGT, Int.reduceGE]
    refine run_call1 kh2 ?_
    obtain ⟨C2, t1, t2, t3⟩ := newHd (A := C1) h32'
    obtain ⟨b14, hb14⟩ : ∃ b, b = C1.blk.length := ⟨_, rfl⟩
    rw [← hb14] at t1 t3
    have hTC := hT.fr0 (j1.then0 t2)
    have kh3 := bookHeight_spec hTC.b.raw
    obtain ⟨_, C3, kh4, j3, y3⟩ := bookHead_spec (hTC.fr.wf hw) hTC.b.raw (by omega) ((Hs ++ [hdOf Hs L']).length : Int)
    rw [hat] at y3
    obtain ⟨rfl, _⟩ := y3
    simp only [RT, Nat.reduceLT, Nat.reduceBEq, Nat.reduceEqDiff, Nat.reduceAdd, Int.reduceEq, Int.reduceLT, Int.reduceLE, Int.reduceGT, Int.reduceGE, zcHd, ← hb14, t1, h4]
    refine run_call1 kh3 ?_
    simp only [RT, Nat.reduceLT, Nat.reduceBEq, Nat.reduceEqDiff, Nat.reduceAdd, Int.reduceEq, Int.reduceLT, Int.reduceLE, Int.reduceGT, Int.reduceGE]
    refine run_call1 kh4 ?_
    obtain ⟨C4, u1, u2, u3⟩ := newHd (A := C3) h32'
    obtain ⟨b16, hb16⟩ : ∃ b, b = C3.blk.length := ⟨_, rfl⟩
    rw [← hb16] at u1 u3
    have hTE := hTC.fr0 (j3.then0 u2)
    have ks := bookSize_spec hTE.a.raw
    have ld14 := ldHd ((j3.then0 u2).row0 t3) h32'
    have ld16 := ldHd u3 h32'
    have fa14 := faHd b14
    have hlenT := fun B => hTE.t.len (P := Try.prog) (t := 43) Try.underlying43 B
    have hsz : (hdOf Hs L').2.1 = (L'.length : Int) := rfl
    simp only [RT, Nat.reduceLT, Nat.reduceBEq, Nat.reduceEqDiff, Nat.reduceAdd, Int.reduceEq, Int.reduceLT, Int.reduceLE, Int.reduceGT, Int.reduceGE, zcHd, ← hb16, u1]
    simp only [RT, Nat.reduceLT, Nat.reduceBEq, Nat.reduceEqDiff, Nat.reduceAdd, Int.reduceEq, Int.reduceLT, Int.reduceLE, Int.reduceGT, Int.reduceGE, pl_10_29, h5, hlenT, h3, rc_nil]
    refine run_call1 ks ?_
    simp only [RT, Nat.reduceLT, Nat.reduceBEq, Nat.reduceEqDiff, Nat.reduceAdd, Int.reduceEq, Int.reduceLT, Int.reduceLE, Int.reduceGT, Int.reduceGE, ld14, ld16, eqHd_same h32', fa14, h3, rc_nil]
    refine run_call1 ks ?_
    simp only [RT, Nat.reduceLT, Nat.reduceBEq, Nat.reduceEqDiff, Nat.reduceAdd, Int.reduceEq, Int.reduceLT, Int.reduceLE, Int.reduceGT, Int.reduceGE, rc_nil]
    refine ⟨rc_gload (ha := rfl) rfl rfl rfl rfl ld14.2.1 rfl rc_nil, ?_⟩
    simp only [RT, Nat.reduceLT, Nat.reduceBEq, Nat.reduceEqDiff, Nat.reduceAdd, Int.reduceEq, Int.reduceLT, Int.reduceLE, Int.reduceGT, Int.reduceGE, decide_eq_false (show ¬ ¬ ((hdOf Hs L').2.1 = (L'.length : Int)) from fun q => q hsz), h33, hwi, rc_nil]
    refine ⟨xs.length - (i + 1), by omega, i + 1, bw, L', Hs ++ [hdOf Hs L'], fl2, ft2, fh2, fl3, ft3, fh3, fo, rfl, by omega, hHs2, ?_⟩
    and_intros <;> first | rfl | assumption
end
end Go.Sv.Try
